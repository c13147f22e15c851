/- PROVED HERE: the Go function paymasterlaw15.TreeFolded returns true for every input that the given statement speaks of, and each argument reads behind the call as it read before. Conditions: none beyond the given statement's own (the laid table of constants, tied by the card). -/
-- Several texts of this workplace as one.
import Derived.Test.YtfcodmdckcihmaaDoorZTreeFolded3
import Derived.Test.YtfcodmdckcihmaaDoorProg
import Derived.Deep.OwnRows
import Derived.Laws.Rows
import Derived.Test.YtfcodmdckcihmaaDoorRows
import Derived.Test.YtfcodmdckcihmaaDoorCards
import Derived.Test.YtfcodmdckcihmaaDoorTie
namespace Go.Proofs.YtfcodmdckcihmaaDoor.P
open Go.RowKit Go.Proofs.YtfcodmdckcihmaaDoorW.PrintWords Go.Proofs.YtfcodmdckcihmaaDoorW.PrintLast Go.Proofs.YtfcodmdckcihmaaDoorW.PrintMore
set_option linter.unusedVariables false
set_option linter.unusedSimpArgs false
set_option linter.unnecessarySimpa false
attribute [local go_sem] Oper.semAt_some sel_true
set_option maxRecDepth 100000 in
set_option maxHeartbeats 4000000 in
theorem treeNew.calls (wd : Int) (A : Option Addr) (c : Nat) (ls : List SLeaf) (w : World) (hK : LaidT w) (hr : Kd.C kLeaf w A ls.length ls) (hc : ls.length ≤ c) (hn : ls.length ≤ 1024) (hl : ∀ x ∈ ls, OkL x) :
  Calls Tryd.prog 14 #[.int .i64 wd, .slice A ls.length c] w (NewPost w wd ls) := by
 have HK := aM' hK
 have HR := aM' hr
 have HC := aM' hc
 have HN := aM' hn
 have HL := aM' hl
 clear hK hr hc hl hn
 obtain ⟨i0, hi, hz0, hz1, hz2⟩ := info_parts nodeInfo
 have hS0 := NwB.start w wd
 have HS0 := aM' hS0
 clear hS0
 refine (callsIn_wide (n := 3)).1 ?_
 refine callsIn_of_wp_marks Tryd.func14 rfl trivial ?_ rfl
 simp only [Tryd.ntmps14, List.size_toArray, List.length_cons, List.length_nil, Nat.reduceAdd, Nat.reduceSub, Array.replicate_succ, Array.replicate_zero, List.push_toArray, List.append_toArray, List.nil_append, List.cons_append]
 refine wpIn_wide.2 ?_
 go_wp2_with fail
 go_step3
 go_wp2_with fail
 obtain ⟨W0, hW0⟩ : ∃ V, V = ((w.alloc (.cells #[.int .i64 wd] 3)).alloc (.cells #[.pointer none] 25)).alloc (.cells #[.int .i64 0] 26) := ⟨_, rfl⟩
 rw [← hW0] at HS0 ⊢
 clear hW0
 have hsz0 := HS0.out.lt
 refine (height.calls ls.length _ HN.out).mono ?_
 rintro e w1 ⟨⟨h, rfl⟩, rfl⟩
 have x2 : W0.cell? ⟨w.heap.size, 0, none⟩ = some (.int .i64 wd) := blk_cell HS0.out.h2 0
 have x4 : W0.cell? ⟨w.heap.size + 1, 0, none⟩ = some (.pointer none) := blk_cell HS0.out.h4 0
 have x5 : W0.cell? ⟨w.heap.size + 1 + 1, 0, none⟩ = some (.int .i64 0) := blk_cell HS0.out.h5 0
 have f4 : ∀ i, W0.frozen? ⟨w.heap.size + 1, i, none⟩ = false := fun i => blk_frozen HS0.out.h4 i
 have f5 : ∀ i, W0.frozen? ⟨w.heap.size + 1 + 1, i, none⟩ = false := fun i => blk_frozen HS0.out.h5 i
 by_cases hw : wd < 1 ∨ 32 < wd
 ·
  have HI := aM' (show newI wd ls = 70 by unfold newI; rw [if_pos hw])
  by_cases h1 : wd < 1
  ·
   have b1 : decide (wd < 1) = true := decide_eq_true h1
   clear hw
   go_wp2
   exact newErr HS0.out rfl rfl HI.out (by decide)
  ·
   have b1 : decide (wd < 1) = false := decide_eq_false h1
   have b2 : decide (32 < wd) = true := decide_eq_true (by omega)
   clear hw
   go_wp2
   exact newErr HS0.out rfl rfl HI.out (by decide)
 ·
  have b1 : decide (wd < 1) = false := decide_eq_false (by omega)
  have b2 : decide (32 < wd) = false := decide_eq_false (by omega)
  have HW := aM' hw
  clear hw
  cases hp : isPow ls.length with
  | false =>
   have HI := aM' (show newI wd ls = 120 by unfold newI; rw [if_neg HW.out, if_pos hp])
   clear hp
   go_wp2
   exact newErr HS0.out rfl rfl HI.out (by decide)
  | true =>
   have HP := aM' hp
   clear hp
   have HSz := aM' hsz0
   clear hsz0
   go_wp2
   go_step3
   go_wp2
   clear x2 x4 x5 f4 f5 b1 b2
   go_loopw [8, 34] (fun v8 v34 wr => ∃ i : Nat, v34 = .int .i64 (i : Int) ∧ Aside0 (i ≤ ls.length ∧ (∀ x ∈ ls.take i, mayLeafI x = true)) ∧ Aside0 (NwB w wd wr) ∧ Aside0 (wr.ownsRow (w.heap.size + 3) 46 3 v8 i (cellsN ((ls.take i).map (leafNodeI wd))))) (fun _ v34 _ => ls.length - (intOf v34).toNat)
   case atStart => exact ⟨0, rfl, ⟨Nat.zero_le _, by simp⟩, HS0, ⟨World.ownsRow_nil _ _ _ _⟩⟩
   case round =>
    obtain ⟨i, rfl, HI, HS, HO⟩ := hrel
    obtain ⟨A8, c8, rfl⟩ : ∃ A8 c8, u8 = .slice A8 i c8 := by
     rcases HO.out.2 with ⟨h, h0⟩ | ⟨g, cap, cur, h, _⟩
     ·
      exact ⟨none, 0, by rw [h, h0]⟩
     ·
      exact ⟨_, _, h⟩
    by_cases hlt : i < ls.length
    ·
     have b1 : decide ((i : Int) < (ls.length : Int)) = true := decide_eq_true (by omega)
     have b2 : decide (i < ls.length) = true := decide_eq_true hlt
     obtain ⟨ad, e1, p0, p1, p2, p3, p4⟩ := at_TLeaf (Kd.C_below HR.out HS.out.hB) (i : Int) (by omega) (by omega)
     subst e1
     have e3 : rd_TLeaf ls (i : Int) = ls[i] := by rw [rd_TLeaf, Int.toNat_natCast]; simp [List.getD_eq_getElem?_getD, hlt]
     rw [e3, Int.toNat_natCast] at p0 p1 p2 p3 p4
     have htk : ls.take (i + 1) = ls.take i ++ [ls[i]] := by rw [List.take_succ_eq_append_getElem hlt]
     have hok := HL.out ls[i] (List.getElem_mem hlt)
     have hmem : ls[i] ∈ ls := List.getElem_mem hlt
     generalize ls[i] = x at p0 p1 p2 p3 p4 htk hok hmem
     have HMEM := aM' hmem
     have HM := aM' (tagMayLeaf_eq x hok.id)
     obtain ⟨kl, hkl⟩ := (tagLeafNode_ev wd x hok.id hok.sa).rounds
     have HLN := aM' hkl
     have HTK := aM' htk
     have HLT := aM' hlt
     clear hkl htk hok e3 hmem
     have hx2 := blk_cell (blk_alloc HS.out.h2 (.cells (acL x) 36)) 0
     go_wp2_with fail
     have HS1 := aM' (HS.out.below (below_alloc (Below.refl _ _) (.cells (acL x) 36)))
     have HX := aM' (blk_new wr (.cells (acL x) 36))
     have HO1 := aM' (ownB HO.out (below_alloc (Below.refl _ _) (.cells (acL x) 36)))
     clear p0 p1 p2 p3 p4 hx2
     refine (tag_MayLeaf.calls x.f0 x.f1 x.f2 x.f3.f0 x.f3.f1 (mayLeafI x) _ (HK.out.below HS1.out.hB) HM.out).mono ?_
     rintro e w2 ⟨rfl, hb⟩
     have HS2 := aM' (HS1.out.below hb)
     have HX2 := aM' (blk_below HX.out hb)
     have HO2 := aM' (ownB HO1.out hb)
     clear hb
     cases hml : mayLeafI x with
     | true =>
      have HML := aM' hml
      clear hml
      have q0 := blk_cell HX2.out 0
      have q1 := blk_cell HX2.out 1
      have q2 := blk_cell HX2.out 2
      have q3 := blk_cell HX2.out 3
      have q4 := blk_cell HX2.out 4
      have x2 := blk_cell HS2.out.h2 0
      simp at q0 q1 q2 q3 q4 x2
      go_wp2_with fail
      refine (tag_LeafNode.calls kl wd x.f0 x.f1 x.f2 x.f3.f0 x.f3.f1 _ _ _ _ (HK.out.below HS2.out.hB) HLN.out).mono ?_
      rintro e w3 ⟨rfl, hb⟩
      have HS3 := aM' (HS2.out.below hb)
      have HO3 := aM' (ownB HO2.out hb)
      clear hb q0 q1 q2 q3 q4 x2
      generalize hnx : leafNodeI wd x = nx
      go_wp2_with (at_builtin; refine wpList_append_own _ rfl _ _ 43 rfl (w.heap.size + 3) 46 i0 (.agg #[(.string ⟨#[]⟩), (.int .u64 0), (.int .u64 0)]) 3 32 Tryd.underlying43 hi hz0 hz1 hz2 rfl (by decide) (.slice A8 i c8) i _ rfl (ownB HO3.out (below_alloc (Below.refl _ _) (.cells (nodeA nx) 46))) ⟨w3.heap.size, 0, none⟩ 1 1 [.string nx.f0, .int .u64 nx.f1.f0, .int .u64 nx.f1.f1] rfl rfl ?c2 ?c3 ?c4 ?c5 ?c6 ?_)
      case c2 => exact World.news_of_block (blk_new w3 (.cells (nodeA nx) 46))
      case c3 =>
       intro u hu
       simp only [List.mem_cons, List.not_mem_nil, or_false] at hu
       rcases hu with rfl | rfl | rfl <;> rfl
      case c4 => have := HN.out; unfold maxLen; omega
      case c5 => have := HN.out; omega
      case c6 => rw [World.size_alloc]; have := HS3.out.lt; omega
      intro v' w' hown hgr hnil
      have hS4 := (HS3.out.below (below_alloc (Below.refl _ _) (.cells (nodeA nx) 46))).grown hgr (fun r hr => (HO3.out.lt r hr).1)
      have HS4 := aM' hS4
      have hown2 : w'.ownsRow (w.heap.size + 3) 46 3 v' (i + 1) (cellsN ((ls.take (i + 1)).map (leafNodeI wd))) := by
       rw [HTK.out, List.map_append, cellsN_append]
       rw [List.map_cons, List.map_nil, hnx]
       rw [← List.map_take] at hown
       exact hown
      have HO4 := aM' hown2
      clear hown hgr hnil hS4 hown2 hnx
      have hi1 : i ≤ 1024 := by have := HN.out; omega
      go_wp2
      go_roundw
      case rel => exact ⟨i + 1, by go_num, ⟨by omega, fun y hy => by
       rw [HTK.out] at hy
       rcases List.mem_append.1 hy with hy | hy
       ·
        exact HI.out.2 y hy
       ·
        rw [List.mem_singleton.1 hy]; exact HML.out⟩, HS4, HO4⟩
      case measure => simp [intOf]; omega
     | false =>
      have HML := aM' hml
      clear hml
      have x4 : w2.cell? ⟨w.heap.size + 1, 0, none⟩ = some (.pointer none) := blk_cell HS2.out.h4 0
      have x5 : w2.cell? ⟨w.heap.size + 1 + 1, 0, none⟩ = some (.int .i64 0) := blk_cell HS2.out.h5 0
      have f4 : ∀ i, w2.frozen? ⟨w.heap.size + 1, i, none⟩ = false := fun i => blk_frozen HS2.out.h4 i
      have f5 : ∀ i, w2.frozen? ⟨w.heap.size + 1 + 1, i, none⟩ = false := fun i => blk_frozen HS2.out.h5 i
      go_wp2
      exact newErr HS2.out rfl rfl (by
       unfold newI
       rw [if_neg HW.out, if_neg (by rw [HP.out]; decide), if_pos]
       exact List.all_eq_false.2 ⟨x, HMEM.out, by rw [HML.out]; decide⟩) (by decide)
    ·
     obtain rfl : i = ls.length := by have := HI.out.1; omega
     have hpos : 0 < ls.length := by
      rcases Nat.eq_zero_or_pos ls.length with h0 | h0
      ·
       have := HP.out; rw [h0] at this; exact absurd this (by decide)
      ·
       exact h0
     have b1 : decide ((ls.length : Int) < (ls.length : Int)) = false := decide_eq_false (by omega)
     have b2 : decide (ls.length < ls.length) = false := decide_eq_false hlt
     have hall : ls.all mayLeafI = true := List.all_eq_true.2 (fun x hx => HI.out.2 x (by rw [List.take_length]; exact hx))
     have ho := HO.out
     rw [List.take_length] at ho
     obtain ⟨gc, cc, hv, -, hgc⟩ := ho.form hpos
     cases hv
     have hnl : (ls.map (leafNodeI wd)).length = ls.length := List.length_map ..
     have HALL := aM' hall
     have HO := aM' ho
     have HPOS := aM' hpos
     have HNL := aM' hnl
     clear hall ho hpos hnl hgc
     obtain ⟨ad, rfl⟩ : ∃ ad, A = some ad := by
      obtain ⟨_, _, h3⟩ := HR.out
      obtain ⟨a, ha, _⟩ := h3 HPOS.out
      exact ⟨a, ha⟩
     go_upto_region 15 with (fail)
     refine wp_forget (fun x => ({ tmps := #[.int .i64 wd, .slice (some ad) ls.length c, .pointer (some ⟨w.heap.size, 0, none⟩), x 3, .pointer (some ⟨w.heap.size + 1, 0, none⟩), .pointer (some ⟨w.heap.size + 1 + 1, 0, none⟩), x 6, x 7, .slice (some ⟨gc, 0, none⟩) ls.length c8, x 9, x 10, x 11, x 12, x 13, x 14, x 15, x 16, x 17, x 18, x 19, x 20, x 21, x 22, x 23, x 24, x 25, x 26, x 27, x 28, x 29, x 30, x 31, x 32, x 33, x 34, x 35, x 36, x 37, x 38, x 39, x 40, x 41, x 42, x 43, x 44, x 45, x 46, x 47, x 48, x 49, x 50, x 51, x 52, x 53, x 54, x 55, x 56, x 57, x 58, x 59, x 60, x 61, x 62, x 63, x 64, x 65, x 66, x 67, x 68, x 69, x 70, x 71, x 72, x 73, x 74, x 75, x 76, x 77, x 78, x 79, x 80, x 81, x 82, x 83, x 84, x 85, x 86, x 87, x 88, x 89, x 90, x 91, x 92, x 93, x 94, x 95, x 96, x 97, x 98, x 99, x 100], defers := [] } : Act)) rfl ?_
     intro x
     have HCL := aM' (fun (V : World) (hb : Below w.heap.size w V) => cloneL.calls ad c ls V (Kd.C_below HR.out hb) HPOS.out HN.out)
     clear b1 b2
     refine region_inv (fun l a W => ∃ γ : Nat, ∃ κ : Nat, ∃ δ : Nat, a = ({ tmps := #[.int .i64 wd, .slice (some ad) ls.length c, .pointer (some ⟨w.heap.size, 0, none⟩), x 3, .pointer (some ⟨w.heap.size + 1, 0, none⟩), .pointer (some ⟨w.heap.size + 1 + 1, 0, none⟩), x 6, x 7, .slice (some ⟨gc, 0, none⟩) ls.length c8, x 9, x 10, sel (l 5) (.pointer (some ⟨δ, 0, none⟩)) (x 11), x 12, x 13, x 14, x 15, x 16, x 17, x 18, x 19, x 20, x 21, x 22, x 23, x 24, x 25, x 26, x 27, x 28, x 29, x 30, x 31, x 32, x 33, x 34, x 35, x 36, x 37, x 38, x 39, x 40, x 41, x 42, x 43, x 44, x 45, x 46, x 47, x 48, x 49, x 50, x 51, x 52, sel (l 0) (.int .i64 wd) (x 53), sel (l 1) (.slice (some ad) ls.length c) (x 54), sel (l 2) (.slice (some ⟨γ, 0, none⟩) ls.length κ) (x 55), sel (l 3) (.agg #[.int .i64 wd, .slice (some ⟨γ, 0, none⟩) ls.length κ, .slice none 0 0]) (x 56), sel (l 4) (.pointer (some ⟨δ, 0, none⟩)) (x 57), x 58, x 59, x 60, x 61, x 62, x 63, x 64, x 65, x 66, x 67, x 68, x 69, x 70, x 71, x 72, x 73, x 74, x 75, x 76, x 77, x 78, x 79, x 80, x 81, x 82, x 83, x 84, x 85, x 86, x 87, x 88, x 89, x 90, x 91, x 92, x 93, x 94, x 95, x 96, x 97, x 98, x 99, x 100], defers := [] } : Act) ∧ Nw15 wr W wd ls l γ κ δ) 6 rfl rfl (by kernel_rfl) ?h0 ?hend ?hstep
     case h0 => exact ⟨0, 0, 0, rfl, below_drew (Below.refl _ _), (fun h => by cases h), (fun h => by cases h), (fun h => by cases h), (fun h => by cases h), (fun h => by cases h)⟩
     case hstep =>
      refine rg_cons (rg_cons (rg_cons (rg_cons (rg_cons (rg_cons (rg_nil) ?s0) ?s1) ?s2) ?s3) ?s4) ?s5
      case s0 =>
       refine rg_step rfl ?_
       rintro l a W ⟨γ, κ, δ, rfl, hI⟩ hl hd
       clear hd
       have x0 := blk_cell (blk_below HS.out.h2 hI.hB) 0
       simp at x0
       refine rg_val (v := .int .i64 wd) (w' := W) rfl (by go_simp) ?_
       refine ⟨γ, κ, δ, ?_, ?_⟩
       ·
        simp only [Act.put, List.setIfInBounds_toArray, List.set_cons_zero, List.set_cons_succ]; rfl
       ·
        exact hI.same 0 (by decide)
      case s1 =>
       refine rg_step rfl ?_
       rintro l a W ⟨γ, κ, δ, rfl, hI⟩ hl hd
       clear hd
       refine rg_val (v := .slice (some ad) ls.length c) (w' := W) rfl (by go_simp) ?_
       refine ⟨γ, κ, δ, ?_, ?_⟩
       ·
        simp only [Act.put, List.setIfInBounds_toArray, List.set_cons_zero, List.set_cons_succ]; rfl
       ·
        exact hI.same 1 (by decide)
      case s2 =>
       refine rg_step rfl ?_
       rintro l a W ⟨γ, κ, δ, rfl, hI⟩ hl hd
       have d1 := hd 1 (by decide)
       clear hd
       refine rg_call rfl (by go_simp; exact ⟨rfl, rfl⟩) ?_
       refine (HCL.out W (HS.out.hB.trans (hI.hB.mono HS.out.hB.size))).mono ?_
       rintro xx W' ⟨g, cap, rfl, ho, hb, hg⟩
       have h3 := hI.no3 hl
       have h3' : upd l 2 3 = false := h3
       refine ⟨_, rfl, g, cap, δ, ?_, ?_⟩
       ·
        simp only [Act.put, List.setIfInBounds_toArray, List.set_cons_zero, List.set_cons_succ, h3, h3']; rfl
       ·
        exact hI.clone hl hb ho hg HPOS.out
      case s3 =>
       refine rg_step rfl ?_
       rintro l a W ⟨γ, κ, δ, rfl, hI⟩ hl hd
       have d0 := hd 0 (by decide)
       have d2 := hd 2 (by decide)
       clear hd
       refine rg_val (v := .agg #[.int .i64 wd, .slice (some ⟨γ, 0, none⟩) ls.length κ, .slice none 0 0]) (w' := W) rfl (by go_simp) ?_
       refine ⟨γ, κ, δ, ?_, ?_⟩
       ·
        simp only [Act.put, List.setIfInBounds_toArray, List.set_cons_zero, List.set_cons_succ]; rfl
       ·
        exact hI.three d2
      case s4 =>
       refine rg_step rfl ?_
       rintro l a W ⟨γ, κ, δ, rfl, hI⟩ hl hd
       have d3 := hd 3 (by decide)
       clear hd
       refine rg_val (v := .pointer (some ⟨W.heap.size, 0, none⟩)) (w' := W.alloc (.cells #[.int .i64 wd, .slice (some ⟨γ, 0, none⟩) ls.length κ, .slice none 0 0] 105 (0, 0))) rfl (by go_simp) ?_
       have h5 := hI.no5 hl
       have h5' : upd l 4 5 = false := h5
       refine ⟨γ, κ, W.heap.size, ?_, ?_⟩
       ·
        simp only [Act.put, List.setIfInBounds_toArray, List.set_cons_zero, List.set_cons_succ, h5, h5']; rfl
       ·
        exact hI.box d3
      case s5 =>
       refine rg_step rfl ?_
       rintro l a W ⟨γ, κ, δ, rfl, hI⟩ hl hd
       have d4 := hd 4 (by decide)
       clear hd
       refine rg_val (v := .pointer (some ⟨δ, 0, none⟩)) (w' := W) rfl (by go_simp) ?_
       refine ⟨γ, κ, δ, ?_, ?_⟩
       ·
        simp only [Act.put, List.setIfInBounds_toArray, List.set_cons_zero, List.set_cons_succ]; rfl
       ·
        exact hI.five d4
     case hend =>
      rintro l a W ⟨γ, κ, δ, rfl, hI⟩ hall
      have e0 := hall 0 (by decide)
      have e1 := hall 1 (by decide)
      have e2 := hall 2 (by decide)
      have e3 := hall 3 (by decide)
      have e4 := hall 4 (by decide)
      have e5 := hall 5 (by decide)
      clear hall
      have hl := hI.hl e2
      have ht := hI.ht e4
      have hB := hI.hB
      simp only [e0, e1, e2, e3, e4, e5, sel_true]
      clear e0 e1 e2 e3 e4 e5
      clear hI
      obtain ⟨l1, l2, l3⟩ := hl
      obtain ⟨t1, t2, t3⟩ := ht
      have hsz := HS.out.lt
      have hbs := HS.out.below hB
      have hcur := ownB HO.out hB
      have hgcl := (HO.out.lt gc rfl)
      obtain ⟨nodes, hnodes⟩ : ∃ n, n = ls.map (leafNodeI wd) := ⟨_, rfl⟩
      have hnl : nodes.length = ls.length := by rw [hnodes]; exact HNL.out
      rw [← hnodes, ← hnl] at hcur
      obtain ⟨K, hK⟩ := isPow_spec HP.out
      have hK10 : K ≤ 10 := by
       rcases Nat.lt_or_ge 10 K with h | h
       ·
        have := Nat.pow_le_pow_right (n := 2) (by decide) (show 11 ≤ K by omega)
        have := HN.out
        omega
       ·
        exact h
      have hH : NwH w wd ls δ γ κ [] [] [] nodes gc c8 none 0 W := by
       obtain ⟨cs, hcs⟩ := own_cells hcur rfl
       refine ⟨⟨hbs, t3, own_base l3 (by omega), World.ownsRow_nil _ _ _ _, trivial, ?_, (fun k hk => by cases hk), by omega, List.nodup_nil, (fun D hD => by cases hD)⟩, hcur, ⟨hgcl.1, ?_, (fun h => by cases h), cs, _, _, hcs⟩, ⟨K, K, hnl.trans hK, hK, by simp, by rw [hnodes]; rfl⟩, ?_, by rw [hnodes], ⟨Nat.zero_le _, by rw [hnl]; exact HN.out, HN.out⟩, fun D hD => by cases hD⟩
       ·
        simp only [List.map_nil, List.nodup_cons, List.mem_cons, List.not_mem_nil, or_false, not_false_eq_true, List.nodup_nil, and_true]
        exact t2
       ·
        simp only [List.map_nil, List.mem_cons, List.not_mem_nil, or_false]
        omega
       ·
        intro x hx
        rw [hnodes] at hx
        obtain ⟨y, hy, rfl⟩ := List.mem_map.1 hx
        have h1 := List.all_eq_true.1 HALL.out y hy
        have h2 := HW.out
        refine ⟨?_, leafNodeI_ok wd y (HL.out y hy).ub⟩
        unfold leafNodeI
        rw [if_pos ⟨⟨by omega, by omega⟩, h1⟩]
        have e : ((dgI wd (leafTextI y)).size : Int) = wd := by rw [dgI_size _ _ (by omega) (by omega)]; omega
        simp only [nodeOf, e]
        simp
        omega
      have HH := aM' hH
      clear l1 l2 l3 t1 t2 t3 hsz hbs hcur hgcl hH hK hK10 hB
      have HNODES := aM' hnodes
      have HNL2 := aM' hnl
      clear hnl hnodes
      go_wp2_with fail
      refine wp_forget (fun x => ({ tmps := #[.int .i64 wd, .slice (some ad) ls.length c, .pointer (some ⟨w.heap.size, 0, none⟩), x 3, .pointer (some ⟨w.heap.size + 1, 0, none⟩), .pointer (some ⟨w.heap.size + 1 + 1, 0, none⟩), x 6, x 7, .slice (some ⟨gc, 0, none⟩) ls.length c8, x 9, x 10, .pointer (some ⟨δ, 0, none⟩), x 12, x 13, x 14, x 15, x 16, x 17, x 18, x 19, x 20, x 21, x 22, x 23, x 24, x 25, x 26, x 27, x 28, x 29, x 30, x 31, x 32, x 33, x 34, x 35, x 36, x 37, x 38, x 39, x 40, x 41, x 42, x 43, x 44, x 45, x 46, x 47, x 48, x 49, x 50, x 51, x 52, x 53, x 54, x 55, x 56, x 57, x 58, x 59, x 60, x 61, x 62, x 63, x 64, x 65, x 66, x 67, x 68, x 69, x 70, x 71, x 72, x 73, x 74, x 75, x 76, x 77, x 78, x 79, x 80, x 81, x 82, x 83, x 84, x 85, x 86, x 87, x 88, x 89, x 90, x 91, x 92, x 93, x 94, x 95, x 96, x 97, x 98, x 99, x 100], defers := [] } : Act)) rfl ?_
      intro x
      obtain ⟨I, hI⟩ : ∃ I : Act → World → Prop, I = fun a V => ∃ (x : Nat → Value) (gs : List RowG) (done : List (List SNode)) (ds : List Nat) (cur : List SNode) (gc cc : Nat) (A9 : Option Addr) (c9 : Nat), a = ({ tmps := #[.int .i64 wd, .slice (some ad) ls.length c, .pointer (some ⟨w.heap.size, 0, none⟩), x 3, .pointer (some ⟨w.heap.size + 1, 0, none⟩), .pointer (some ⟨w.heap.size + 1 + 1, 0, none⟩), x 6, x 7, .slice (some ⟨gc, 0, none⟩) cur.length cc, x 9, x 10, .pointer (some ⟨δ, 0, none⟩), x 12, x 13, x 14, x 15, x 16, x 17, x 18, x 19, x 20, x 21, x 22, x 23, x 24, x 25, x 26, x 27, x 28, x 29, x 30, x 31, x 32, x 33, x 34, x 35, x 36, x 37, x 38, x 39, x 40, x 41, x 42, x 43, x 44, x 45, x 46, x 47, x 48, x 49, x 50, x 51, x 52, x 53, x 54, x 55, x 56, x 57, x 58, x 59, x 60, x 61, x 62, x 63, x 64, x 65, x 66, x 67, x 68, x 69, x 70, x 71, x 72, x 73, x 74, x 75, x 76, x 77, x 78, x 79, x 80, x 81, x 82, x 83, x 84, x 85, x 86, x 87, x 88, x 89, x 90, x 91, x 92, x 93, x 94, x 95, x 96, x 97, x 98, x 99, x 100], defers := ds.map markD } : Act) ∧ NwH w wd ls δ γ κ gs done ds cur gc cc A9 c9 V := ⟨_, rfl⟩
      refine wp_loop I (fun a _ => lenT a) ?lstart ?lround
      case lstart =>
       rw [hI]
       refine ⟨x, [], [], [], nodes, gc, c8, none, 0, ?_, HH.out⟩
       rw [HNL2.out]
       rfl
      case lround =>
       clear HH HO
       intro a V ha
       rw [hI] at ha
       obtain ⟨x, gs, done, ds, cur, gc, cc, A9, c9, rfl, hH⟩ := ha
       have HI := aM' hI
       have HH := aM' hH
       clear hI hH
       have hT := HH.out.t
       have hO := HH.out.o
       have hm := HH.out.m
       have hlen := hT.hg.len
       obtain ⟨j0, hj, hj0, hj1, hj2⟩ := info_parts levelInfo
       have HTT := aM' hT
       have HOO := aM' hO
       have HMM := aM' hm
       clear hT hO hlen
       go_wp2_with fail
       refine region_inv (fun l a W => ∃ γ1 : Nat, ∃ γ2 : Nat, ∃ κ2 : Nat, a = ({ tmps := #[.int .i64 wd, .slice (some ad) ls.length c, .pointer (some ⟨w.heap.size, 0, none⟩), x 3, .pointer (some ⟨w.heap.size + 1, 0, none⟩), .pointer (some ⟨w.heap.size + 1 + 1, 0, none⟩), x 6, x 7, .slice (some ⟨gc, 0, none⟩) cur.length cc, x 9, x 10, .pointer (some ⟨δ, 0, none⟩), x 12, x 13, x 14, x 15, x 16, x 17, x 18, x 19, x 20, x 21, x 22, x 23, x 24, x 25, x 26, x 27, x 28, x 29, x 30, x 31, x 32, x 33, x 34, x 35, x 36, x 37, x 38, x 39, x 40, x 41, x 42, x 43, x 44, x 45, x 46, x 47, x 48, x 49, x 50, x 51, x 52, x 53, x 54, x 55, x 56, x 57, sel (l 0) (.pointer (some ⟨δ, 0, none⟩)) (x 58), sel (l 1) (.pointer (some ⟨δ, 0, none⟩)) (x 59), sel (l 2) (.pointer (some ⟨δ, 0, none⟩)) (x 60), sel (l 3) (.pointer (some ⟨δ, 2, none⟩)) (x 61), sel (l 4) (.slice A9 done.length c9) (x 62), sel (l 5) (.slice (some ⟨gc, 0, none⟩) cur.length cc) (x 63), sel (l 6) (.agg #[.slice (some ⟨gc, 0, none⟩) cur.length cc]) (x 64), sel (l 7) (.pointer (some ⟨δ, 0, none⟩)) (x 65), sel (l 8) (.pointer (some ⟨δ, 0, none⟩)) (x 66), sel (l 9) (.pointer (some ⟨δ, 2, none⟩)) (x 67), sel (l 10) (.slice A9 done.length c9) (x 68), sel (l 11) (.int .i64 (done.length : Int)) (x 69), sel (l 12) (.agg #[.slice (some ⟨gc, 0, none⟩) cur.length cc, .int .i64 (done.length : Int)]) (x 70), sel (l 13) (.slice (some ⟨γ1, 0, none⟩) 1 1) (x 71), sel (l 14) (.slice (some ⟨γ2, 0, none⟩) (done.length + 1) κ2) (x 72), sel (l 15) (.pointer (some ⟨δ, 0, none⟩)) (x 73), sel (l 16) (.pointer (some ⟨δ, 2, none⟩)) (x 74), x 75, x 76, x 77, x 78, x 79, x 80, x 81, x 82, x 83, x 84, x 85, x 86, x 87, x 88, x 89, x 90, x 91, x 92, x 93, x 94, x 95, x 96, x 97, x 98, x 99, x 100], defers := ds.map markD } : Act) ∧ Nw16 w V W wd ls δ γ κ (.slice A9 done.length c9) gs done ds (gc, cc) cur l γ1 γ2 κ2) 18 rfl rfl (by kernel_rfl) ?h0 ?hend ?hstep
       case h0 => exact ⟨0, 0, 0, rfl, ⟨fun _ => below_drew (Below.refl _ _), (fun h => by cases h), (fun h => by cases h), (fun h => by cases h), (fun h => by cases h), (fun h => by cases h), (fun h => by cases h), (fun h => by cases h), (fun h => by cases h)⟩⟩
       case hstep =>
        refine rg_cons (rg_cons (rg_cons (rg_cons (rg_cons (rg_cons (rg_cons (rg_cons (rg_cons (rg_cons (rg_cons (rg_cons (rg_cons (rg_cons (rg_cons (rg_cons (rg_cons (rg_cons (rg_nil) ?s0) ?s1) ?s2) ?s3) ?s4) ?s5) ?s6) ?s7) ?s8) ?s9) ?s10) ?s11) ?s12) ?s13) ?s14) ?s15) ?s16) ?s17
        case s0 =>
         refine rg_step rfl ?_
         rintro l a W ⟨γ1, γ2, κ2, rfl, hI⟩ hl hd
         clear hd
         refine rg_val (v := .pointer (some ⟨δ, 0, none⟩)) (w' := W) rfl (by go_simp) ?_
         refine ⟨γ1, γ2, κ2, ?_, ?_⟩
         ·
          simp only [Act.put, List.setIfInBounds_toArray, List.set_cons_zero, List.set_cons_succ]; rfl
         ·
          exact hI.pure 0 (by decide) (fun h => absurd h (by decide)) (fun h => absurd h (by decide))
        case s1 =>
         refine rg_step rfl ?_
         rintro l a W ⟨γ1, γ2, κ2, rfl, hI⟩ hl hd
         clear hd
         refine rg_val (v := .pointer (some ⟨δ, 0, none⟩)) (w' := W) rfl (by go_simp) ?_
         refine ⟨γ1, γ2, κ2, ?_, ?_⟩
         ·
          simp only [Act.put, List.setIfInBounds_toArray, List.set_cons_zero, List.set_cons_succ]; rfl
         ·
          exact hI.pure 1 (by decide) (fun h => absurd h (by decide)) (fun h => absurd h (by decide))
        case s2 =>
         refine rg_step rfl ?_
         rintro l a W ⟨γ1, γ2, κ2, rfl, hI⟩ hl hd
         have d1 := hd 1 (by decide)
         clear hd
         refine rg_val (v := .pointer (some ⟨δ, 0, none⟩)) (w' := W) rfl (by go_simp) ?_
         refine ⟨γ1, γ2, κ2, ?_, ?_⟩
         ·
          simp only [Act.put, List.setIfInBounds_toArray, List.set_cons_zero, List.set_cons_succ]; rfl
         ·
          exact hI.pure 2 (by decide) (fun h => absurd h (by decide)) (fun h => absurd h (by decide))
        case s3 =>
         refine rg_step rfl ?_
         rintro l a W ⟨γ1, γ2, κ2, rfl, hI⟩ hl hd
         have d2 := hd 2 (by decide)
         clear hd
         refine rg_val (v := .pointer (some ⟨δ, 2, none⟩)) (w' := W) rfl (by go_simp) ?_
         refine ⟨γ1, γ2, κ2, ?_, ?_⟩
         ·
          simp only [Act.put, List.setIfInBounds_toArray, List.set_cons_zero, List.set_cons_succ]; rfl
         ·
          exact hI.pure 3 (by decide) (fun h => absurd h (by decide)) (fun h => absurd h (by decide))
        case s4 =>
         refine rg_step rfl ?_
         rintro l a W ⟨γ1, γ2, κ2, rfl, hI⟩ hl hd
         have d3 := hd 3 (by decide)
         clear hd
         have hb := hI.hA (hI.no4 hl)
         have x0 := blk_cell (blk_below HTT.out.ht hb) 2
         simp at x0
         refine rg_val (v := .slice A9 done.length c9) (w' := W) rfl (by go_simp) ?_
         refine ⟨γ1, γ2, κ2, ?_, ?_⟩
         ·
          simp only [Act.put, List.setIfInBounds_toArray, List.set_cons_zero, List.set_cons_succ]; rfl
         ·
          exact hI.pure 4 (by decide) (fun h => absurd h (by decide)) (fun h => absurd h (by decide))
        case s5 =>
         refine rg_step rfl ?_
         rintro l a W ⟨γ1, γ2, κ2, rfl, hI⟩ hl hd
         clear hd
         refine rg_val (v := .slice (some ⟨gc, 0, none⟩) cur.length cc) (w' := W) rfl (by go_simp) ?_
         refine ⟨γ1, γ2, κ2, ?_, ?_⟩
         ·
          simp only [Act.put, List.setIfInBounds_toArray, List.set_cons_zero, List.set_cons_succ]; rfl
         ·
          exact hI.pure 5 (by decide) (fun h => absurd h (by decide)) (fun h => absurd h (by decide))
        case s6 =>
         refine rg_step rfl ?_
         rintro l a W ⟨γ1, γ2, κ2, rfl, hI⟩ hl hd
         have d5 := hd 5 (by decide)
         clear hd
         refine rg_val (v := .agg #[.slice (some ⟨gc, 0, none⟩) cur.length cc]) (w' := W) rfl (by go_simp) ?_
         refine ⟨γ1, γ2, κ2, ?_, ?_⟩
         ·
          simp only [Act.put, List.setIfInBounds_toArray, List.set_cons_zero, List.set_cons_succ]; rfl
         ·
          exact hI.pure 6 (by decide) (fun h => absurd h (by decide)) (fun h => absurd h (by decide))
        case s7 =>
         refine rg_step rfl ?_
         rintro l a W ⟨γ1, γ2, κ2, rfl, hI⟩ hl hd
         clear hd
         refine rg_val (v := .pointer (some ⟨δ, 0, none⟩)) (w' := W) rfl (by go_simp) ?_
         refine ⟨γ1, γ2, κ2, ?_, ?_⟩
         ·
          simp only [Act.put, List.setIfInBounds_toArray, List.set_cons_zero, List.set_cons_succ]; rfl
         ·
          exact hI.pure 7 (by decide) (fun h => absurd h (by decide)) (fun h => absurd h (by decide))
        case s8 =>
         refine rg_step rfl ?_
         rintro l a W ⟨γ1, γ2, κ2, rfl, hI⟩ hl hd
         have d7 := hd 7 (by decide)
         clear hd
         refine rg_val (v := .pointer (some ⟨δ, 0, none⟩)) (w' := W) rfl (by go_simp) ?_
         refine ⟨γ1, γ2, κ2, ?_, ?_⟩
         ·
          simp only [Act.put, List.setIfInBounds_toArray, List.set_cons_zero, List.set_cons_succ]; rfl
         ·
          exact hI.pure 8 (by decide) (fun h => absurd h (by decide)) (fun h => absurd h (by decide))
        case s9 =>
         refine rg_step rfl ?_
         rintro l a W ⟨γ1, γ2, κ2, rfl, hI⟩ hl hd
         have d8 := hd 8 (by decide)
         clear hd
         refine rg_val (v := .pointer (some ⟨δ, 2, none⟩)) (w' := W) rfl (by go_simp) ?_
         refine ⟨γ1, γ2, κ2, ?_, ?_⟩
         ·
          simp only [Act.put, List.setIfInBounds_toArray, List.set_cons_zero, List.set_cons_succ]; rfl
         ·
          exact hI.pure 9 (by decide) (fun h => absurd h (by decide)) (fun h => absurd h (by decide))
        case s10 =>
         refine rg_step rfl ?_
         rintro l a W ⟨γ1, γ2, κ2, rfl, hI⟩ hl hd
         have d9 := hd 9 (by decide)
         clear hd
         have hb := hI.hA (hI.no10 hl)
         have x0 := blk_cell (blk_below HTT.out.ht hb) 2
         simp at x0
         refine rg_val (v := .slice A9 done.length c9) (w' := W) rfl (by go_simp) ?_
         refine ⟨γ1, γ2, κ2, ?_, ?_⟩
         ·
          simp only [Act.put, List.setIfInBounds_toArray, List.set_cons_zero, List.set_cons_succ]; rfl
         ·
          exact hI.pure 10 (by decide) (fun h => absurd h (by decide)) (fun h => absurd h (by decide))
        case s11 =>
         refine rg_step rfl ?_
         rintro l a W ⟨γ1, γ2, κ2, rfl, hI⟩ hl hd
         have d10 := hd 10 (by decide)
         clear hd
         refine rg_val (v := .int .i64 (done.length : Int)) (w' := W) rfl (by go_simp) ?_
         refine ⟨γ1, γ2, κ2, ?_, ?_⟩
         ·
          simp only [Act.put, List.setIfInBounds_toArray, List.set_cons_zero, List.set_cons_succ]; rfl
         ·
          exact hI.pure 11 (by decide) (fun _ => d10) (fun h => absurd h (by decide))
        case s12 =>
         refine rg_step rfl ?_
         rintro l a W ⟨γ1, γ2, κ2, rfl, hI⟩ hl hd
         have d6 := hd 6 (by decide)
         have d11 := hd 11 (by decide)
         clear hd
         refine rg_val (v := .agg #[.slice (some ⟨gc, 0, none⟩) cur.length cc, .int .i64 (done.length : Int)]) (w' := W) rfl (by go_simp) ?_
         refine ⟨γ1, γ2, κ2, ?_, ?_⟩
         ·
          simp only [Act.put, List.setIfInBounds_toArray, List.set_cons_zero, List.set_cons_succ]; rfl
         ·
          exact hI.pure 12 (by decide) (fun h => absurd h (by decide)) (fun _ => d11)
        case s13 =>
         refine rg_step rfl ?_
         rintro l a W ⟨γ1, γ2, κ2, rfl, hI⟩ hl hd
         have d12 := hd 12 (by decide)
         clear hd
         refine rg_val (v := .slice (some ⟨W.heap.size, 0, none⟩) 1 1) (w' := W.alloc (.cells #[.slice (some ⟨gc, 0, none⟩) cur.length cc, .int .i64 (done.length : Int)] 109 (0, 0))) rfl (by go_simp) ?_
         have h14 := hI.no13 hl
         refine ⟨W.heap.size, γ2, κ2, ?_, ?_⟩
         ·
          simp only [Act.put, List.setIfInBounds_toArray, List.set_cons_zero, List.set_cons_succ]; rfl
         ·
          exact hI.made hl d12
        case s14 =>
         refine rg_step rfl ?_
         rintro l a W ⟨γ1, γ2, κ2, rfl, hI⟩ hl hd
         have d4 := hd 4 (by decide)
         have d13 := hd 13 (by decide)
         clear hd
         have h14 : l 14 = false := hl
         have h17 := hI.no17 h14
         have hb := hI.hA h14
         have hgt := hI.hT d13 h14
         obtain ⟨g, κ', W', hrun, hown, hgr, hgg, -⟩ := run_append_lies (P := Tryd.prog) W 103 103 (w.heap.size + 3) 109 j0 (.agg #[.slice none 0 0, .int .i64 0]) 2 32 Tryd.underlying103 hj hj0 hj1 hj2 rfl (by decide) (.slice A9 done.length c9) done.length _ (ownB HTT.out.hv hb) ⟨γ1, 0, none⟩ 1 1 [.slice (some ⟨gc, 0, none⟩) cur.length cc, .int .i64 (done.length : Int)] rfl (World.news_of_block hgt) (by
          intro u hu
          simp only [List.mem_cons, List.not_mem_nil, or_false] at hu
          rcases hu with rfl | rfl <;> rfl) (by decide) (by have := HMM.out.1; unfold maxLen; omega) (by have := HMM.out.1; omega) (by have := HTT.out.bx.lt; have := hb.size; omega) W.heap.size rfl
         refine rg_val (v := .slice (some ⟨g, 0, none⟩) (done.length + 1) κ') (w' := W') rfl (exec_append (.tmp 62) (.tmp 71) 103 rfl (.slice A9 done.length c9) (.slice (some ⟨γ1, 0, none⟩) 1 1) (by show sel (l 4) _ _ = _; rw [d4]; rfl) (by show sel (l 13) _ _ = _; rw [d13]; rfl) hrun) ?_
         refine ⟨γ1, g, κ', ?_, ?_⟩
         ·
          simp only [Act.put, List.setIfInBounds_toArray, List.set_cons_zero, List.set_cons_succ]; rfl
         ·
          exact hI.appended HTT.out hl d13 d4 hgr hown hgg
        case s15 =>
         refine rg_step rfl ?_
         rintro l a W ⟨γ1, γ2, κ2, rfl, hI⟩ hl hd
         have d0 := hd 0 (by decide)
         clear hd
         refine rg_val (v := .pointer (some ⟨δ, 0, none⟩)) (w' := W) rfl (by go_simp) ?_
         refine ⟨γ1, γ2, κ2, ?_, ?_⟩
         ·
          simp only [Act.put, List.setIfInBounds_toArray, List.set_cons_zero, List.set_cons_succ]; rfl
         ·
          exact hI.pure 15 (by decide) (fun h => absurd h (by decide)) (fun h => absurd h (by decide))
        case s16 =>
         refine rg_step rfl ?_
         rintro l a W ⟨γ1, γ2, κ2, rfl, hI⟩ hl hd
         have d15 := hd 15 (by decide)
         clear hd
         refine rg_val (v := .pointer (some ⟨δ, 2, none⟩)) (w' := W) rfl (by go_simp) ?_
         refine ⟨γ1, γ2, κ2, ?_, ?_⟩
         ·
          simp only [Act.put, List.setIfInBounds_toArray, List.set_cons_zero, List.set_cons_succ]; rfl
         ·
          exact hI.pure 16 (by decide) (fun h => absurd h (by decide)) (fun h => absurd h (by decide))
        case s17 =>
         refine rg_step rfl ?_
         rintro l a W ⟨γ1, γ2, κ2, rfl, hI⟩ hl hd
         have d14 := hd 14 (by decide)
         have d16 := hd 16 (by decide)
         clear hd
         obtain ⟨q1, q2, q3, q4⟩ := hI.hP d14 hl
         have hx := (q1 δ (blk_lt HTT.out.ht) (fun e => HTT.out.av δ e (List.mem_cons_self ..))).trans HTT.out.ht
         have y2 := blk_cell hx 2
         have yf := fun i => blk_frozen hx i
         simp at y2
         refine rg_skip rfl (by go_simp; rfl) ?_
         refine ⟨γ1, γ2, κ2, ?_, ?_⟩
         ·
          simp only [Act.put, List.setIfInBounds_toArray, List.set_cons_zero, List.set_cons_succ]; rfl
         ·
          exact hI.stored HTT.out HH.out.c HOO.out hl d14
       case hend =>
        rintro l a W ⟨γ1, γ2, κ2, rfl, hI⟩ hall
        have e0 := hall 0 (by decide)
        have e1 := hall 1 (by decide)
        have e2 := hall 2 (by decide)
        have e3 := hall 3 (by decide)
        have e4 := hall 4 (by decide)
        have e5 := hall 5 (by decide)
        have e6 := hall 6 (by decide)
        have e7 := hall 7 (by decide)
        have e8 := hall 8 (by decide)
        have e9 := hall 9 (by decide)
        have e10 := hall 10 (by decide)
        have e11 := hall 11 (by decide)
        have e12 := hall 12 (by decide)
        have e13 := hall 13 (by decide)
        have e14 := hall 14 (by decide)
        have e15 := hall 15 (by decide)
        have e16 := hall 16 (by decide)
        have e17 := hall 17 (by decide)
        clear hall
        have hQ := hI.hQ e17
        simp only [e0, e1, e2, e3, e4, e5, e6, e7, e8, e9, e10, e11, e12, e13, e14, e15, e16, e17, sel_true]
        clear e0 e1 e2 e3 e4 e5 e6 e7 e8 e9 e10 e11 e12 e13 e14 e15 e16 e17
        clear hI
        have HQ := aM' hQ
        clear hQ
        go_upto_region 17 with (fail)
        refine wp_forget (fun x => ({ tmps := #[.int .i64 wd, .slice (some ad) ls.length c, .pointer (some ⟨w.heap.size, 0, none⟩), x 3, .pointer (some ⟨w.heap.size + 1, 0, none⟩), .pointer (some ⟨w.heap.size + 1 + 1, 0, none⟩), x 6, x 7, .slice (some ⟨gc, 0, none⟩) cur.length cc, x 9, x 10, .pointer (some ⟨δ, 0, none⟩), x 12, x 13, x 14, x 15, x 16, x 17, x 18, x 19, x 20, x 21, x 22, x 23, x 24, x 25, x 26, x 27, x 28, x 29, x 30, x 31, x 32, x 33, x 34, x 35, x 36, x 37, x 38, x 39, x 40, x 41, x 42, x 43, x 44, x 45, x 46, x 47, x 48, x 49, x 50, x 51, x 52, x 53, x 54, x 55, x 56, x 57, x 58, x 59, x 60, x 61, x 62, x 63, x 64, x 65, x 66, x 67, x 68, x 69, x 70, x 71, x 72, x 73, x 74, x 75, x 76, x 77, x 78, x 79, x 80, x 81, x 82, x 83, x 84, x 85, x 86, x 87, x 88, x 89, x 90, x 91, x 92, x 93, x 94, x 95, x 96, x 97, x 98, x 99, x 100], defers := ds.map markD } : Act)) rfl ?_
        intro x
        by_cases h1 : cur.length = 1
        ·
         have b1 : ((cur.length : Int) == 1) = true := by simp; omega
         obtain ⟨ht, hr⟩ := HH.out.one h1
         have x4 := blk_cell HQ.out.bx.h4 0
         have x5 := blk_cell HQ.out.bx.h5 0
         have f4 := fun i => blk_frozen HQ.out.bx.h4 i
         have f5 := fun i => blk_frozen HQ.out.bx.h5 i
         simp at x4 x5
         have HR2 := aM' hr
         have HT2 := aM' ht
         clear h1 hr ht
         go_wp2
         exact newDone HQ.out HH.out.d rfl rfl (newI_ok HW.out HP.out HALL.out HT2.out) HR2.out
        ·
         have b1 : ((cur.length : Int) == 1) = false := by simp; omega
         have H1 := aM' h1
         clear h1
         go_wp2_with fail
         obtain ⟨b12, hb12⟩ : ∃ b, b = W.heap.size := ⟨_, rfl⟩
         obtain ⟨W2, hW2⟩ : ∃ V, V = W.alloc (.cells #[.slice none 0 0] 43) := ⟨_, rfl⟩
         have hx2 : NxS w wd ls δ γ κ (.slice (some ⟨γ2, 0, none⟩) (done.length + 1) κ2) (gs ++ [(gc, cc)]) (done ++ [cur]) ds b12 (b12 + 3) [] W2 := by
          rw [hW2, hb12]
          exact ⟨by omega, HQ.out.below (below_alloc (Below.refl _ _) _), HQ.out.bd, none, 0, blk_new W _, World.ownsRow_nil _ _ _ _⟩
         have hs2 : W2.heap.size = b12 + 1 := by rw [hW2, hb12]; simp
         obtain ⟨k, K, e1, -⟩ := HH.out.k
         obtain ⟨m, hm, hm1⟩ : ∃ m, cur.length = 2 * m ∧ 1 ≤ m := by
          cases k with
          | zero => exact absurd e1 H1.out
          | succ k => exact ⟨2 ^ k, by rw [e1, Nat.pow_succ, Nat.mul_comm], Nat.two_pow_pos k⟩
         rw [← hW2, ← hb12]
         clear hW2 hb12 b1 e1
         refine (chunk.calls (some ⟨gc, 0, none⟩) cur.length cc W2).mono ?_
         rintro e w3 ⟨rfl, hw3⟩
         have hS : w3.heap[W2.heap.size]? = some (.cells #[.slice (some ⟨gc, 0, none⟩) cur.length cc] 43 (0, 0)) := by rw [hw3]; exact blk_alloc (blk_new W2 _) _
         have hN : w3.heap[W2.heap.size + 1]? = some (.cells #[.int .i64 2] 3 (0, 0)) := by
          rw [hw3]
          have := blk_new (W2.alloc (.cells #[.slice (some ⟨gc, 0, none⟩) cur.length cc] 43)) (.cells #[.int .i64 2] 3)
          rwa [World.size_alloc] at this
         have hb3 : Below W2.heap.size W2 w3 := by rw [hw3]; exact below_alloc (below_alloc (Below.refl _ _) _) _
         have hx3 := hx2.below hb3
         have hz3 : w3.heap.size = W2.heap.size + 2 := by rw [hw3]; simp
         have HS2 := aM' hS
         have HN2 := aM' hN
         have HX3 := aM' hx3
         have HZ := aM' (And.intro hz3 hs2)
         have HM := aM' (And.intro hm hm1)
         clear hw3 hS hN hx3 hz3 hs2 hx2 hm hm1 hb3
         have HL9 := aM' HH.out.t.hg.len
         have HM5 := aM' (show m ≤ 1000000 by have := HM.out.1; have := HH.out.m.2.1; omega)
         have hW3 : w3.heap.size = b12 + 3 := by have := HZ.out.1; have := HZ.out.2; omega
         have HW3 := aM' hW3
         clear hW3
         go_wp2_with fail
         refine wp_forget (fun x => ({ tmps := #[.int .i64 wd, .slice (some ad) ls.length c, .pointer (some ⟨w.heap.size, 0, none⟩), x 3, .pointer (some ⟨w.heap.size + 1, 0, none⟩), .pointer (some ⟨w.heap.size + 1 + 1, 0, none⟩), x 6, x 7, .slice (some ⟨gc, 0, none⟩) cur.length cc, x 9, x 10, .pointer (some ⟨δ, 0, none⟩), .pointer (some ⟨b12, 0, none⟩), x 13, x 14, x 15, x 16, x 17, x 18, x 19, x 20, x 21, x 22, x 23, x 24, x 25, x 26, x 27, x 28, x 29, x 30, x 31, x 32, x 33, x 34, x 35, x 36, x 37, x 38, x 39, x 40, x 41, x 42, x 43, x 44, x 45, x 46, x 47, x 48, x 49, x 50, x 51, x 52, x 53, x 54, x 55, x 56, x 57, x 58, x 59, x 60, x 61, x 62, x 63, x 64, x 65, x 66, x 67, x 68, x 69, x 70, x 71, x 72, x 73, x 74, x 75, x 76, x 77, x 78, x 79, .func (.func 95) #[] #[.pointer (some ⟨W2.heap.size, 0, none⟩), .pointer (some ⟨W2.heap.size + 1, 0, none⟩)], x 81, x 82, x 83, x 84, x 85, x 86, x 87, x 88, x 89, x 90, x 91, x 92, x 93, x 94, x 95, x 96, x 97, x 98, x 99, x 100], defers := ds.map markD } : Act)) rfl ?_
         intro x
         refine (wpIn_wide (n := 3)).1 ?_
         refine wpIn_rangeFunc_ownH (α := { j : Nat // j < m }) (n := 3) rfl (by omega) (gf := 95) (lb := #[.pointer (some ⟨W2.heap.size, 0, none⟩), .pointer (some ⟨W2.heap.size + 1, 0, none⟩)]) rfl trivial (enters_of Tryd.func95 (by kernel_rfl) rfl) (encs := fun y => #[chunkV ⟨gc, 0, none⟩ y.1]) (Kp := KeepS (fun k => k = W2.heap.size ∨ k = W2.heap.size + 1))
          (S := fun ys => ys.map Subtype.val = List.range m) (Sp := fun pre => True) (N := m) (w0 := w3) ?hseq (fun h k => KeepS.trans h k) ?hKb (Below.refl _ _) (fun _ => rfl)
          (fun pre V => (∀ y ∈ pre, twoOk cur y.1) ∧ NxS w wd ls δ γ κ (.slice (some ⟨γ2, 0, none⟩) (done.length + 1) κ2) (gs ++ [(gc, cc)]) (done ++ [cur]) ds b12 (b12 + 3) (pre.map fun y => twoV wd cur y.1) V ∧ w3.heap.size ≤ V.heap.size)
          (fun c2 pre V => c2 = .ret ∧ (∃ y ∈ pre, ¬ twoOk cur y.1) ∧ NxE w ds V)
          ?hI ?hIx ⟨fun y hy => absurd hy (List.not_mem_nil), HX3.out, Nat.le_refl _⟩
          (fun y a' V => a' = ({ tmps := #[.int .i64 wd, .slice (some ad) ls.length c, .pointer (some ⟨w.heap.size, 0, none⟩), x 3, .pointer (some ⟨w.heap.size + 1, 0, none⟩), .pointer (some ⟨w.heap.size + 1 + 1, 0, none⟩), x 6, x 7, .slice (some ⟨gc, 0, none⟩) cur.length cc, x 9, x 10, .pointer (some ⟨δ, 0, none⟩), .pointer (some ⟨b12, 0, none⟩), chunkV ⟨gc, 0, none⟩ y.1, x 14, x 15, x 16, x 17, x 18, x 19, x 20, x 21, x 22, x 23, x 24, x 25, x 26, x 27, x 28, x 29, x 30, x 31, x 32, x 33, x 34, x 35, x 36, x 37, x 38, x 39, x 40, x 41, x 42, x 43, x 44, x 45, x 46, x 47, x 48, x 49, x 50, x 51, x 52, x 53, x 54, x 55, x 56, x 57, x 58, x 59, x 60, x 61, x 62, x 63, x 64, x 65, x 66, x 67, x 68, x 69, x 70, x 71, x 72, x 73, x 74, x 75, x 76, x 77, x 78, x 79, .func (.func 95) #[] #[.pointer (some ⟨W2.heap.size, 0, none⟩), .pointer (some ⟨W2.heap.size + 1, 0, none⟩)], chunkV ⟨gc, 0, none⟩ y.1, x 82, x 83, x 84, x 85, x 86, x 87, x 88, x 89, x 90, x 91, x 92, x 93, x 94, x 95, x 96, x 97, x 98, x 99, x 100], defers := [] } : Act)) ?hAx ?assign ?body ?done ?stop
         case hKb =>
          intro W' l2 o o' hl2 ho hc hw k hk
          have := HZ.out
          exact World.putObj_heap_other (by rcases hk with rfl | rfl <;> omega)
         case hI =>
          rintro s X Y row ⟨h1, h2, h3⟩ hg hr
          exact ⟨h1, h2.grown hg (fun r e => by have h4 := hr r e; exact ⟨by have := h4.1; have := HW3.out; omega, h4.2⟩), Nat.le_trans h3 hg.size⟩
         case hIx =>
          rintro c2 s X Y row ⟨rfl, h1, h2⟩ hg hr
          exact ⟨rfl, h1, h2.grown (H := b12 + 3) hg (fun r e => by have := (hr r e).1; have := HW3.out; omega) (by have := HX3.out.bd.b; omega) (fun D hD => by have := HX3.out.bd.d D hD; omega)⟩
         case hAx =>
          rintro y a' s X Y row h hg hr
          exact h
         case hseq =>
          intro l2 J Jx W hW hJ hJx hY h0
          refine (chunk1_in 2 (by omega) l2 W2.heap.size (W2.heap.size + 1) W.heap.size ⟨gc, 0, none⟩ m cur.length cc HM.out.1 HM5.out (ownNodes_C (HX3.out.t.hg.last HL9.out)).2.1 (fun k => k = W2.heap.size ∨ k = W2.heap.size + 1) (.inl rfl) (.inr rfl)
           (fun pre W => ∃ pre' : List { j : Nat // j < m }, pre'.map Subtype.val = pre ∧ J pre' W) (fun pre W => ∃ pre' : List { j : Nat // j < m }, pre'.map Subtype.val = pre ∧ Jx pre' W)
           (fun s X Y row ⟨pre', e, h⟩ hg hr => ⟨pre', e, hJ _ _ _ row h hg hr⟩) ?_ W (blk_below HS2.out hW) (blk_below HN2.out hW) ⟨[], rfl, h0⟩).mono ?_
          ·
           rintro j W1 ⟨pre', e1, hj⟩ hlt
           have hpl : pre'.length = j := by have := congrArg List.length e1; simpa using this
           obtain ⟨fn, tmps, asg, bd, hy, hR⟩ := hY pre' ⟨j, hlt⟩ W1 hj (by omega)
           refine ⟨fn, tmps, asg, bd, hy, hR.mono ?_⟩
           rintro e W2 (⟨rfl, h1, h2⟩ | ⟨rfl, h1⟩)
           ·
            exact .inl ⟨rfl, ⟨_, by rw [List.map_append, e1, List.range_succ]; rfl, h1⟩, h2⟩
           ·
            exact .inr ⟨rfl, ⟨_, by rw [List.map_append, e1, List.range_succ]; rfl, h1⟩⟩
          ·
           rintro e W2 ⟨hv, ⟨ys', e1, h1⟩ | ⟨j, hj, pre', e1, h1⟩⟩
           ·
            exact ⟨hv, .inl ⟨ys', e1, h1⟩⟩
           ·
            exact ⟨hv, .inr ⟨pre', trivial, h1⟩⟩
         case assign =>
          rintro l2 pre y W K hI hK
          gi_wp2
          exact hK _ _ (KeepsFrom.refl _ _) (fun k hk => rfl) hI rfl
         case body =>
          rintro l2 pre ⟨j, hj⟩ a' Wb hl2 - ⟨hok, hP, hz⟩ rfl hlen
          have hjl : 2 * j + 1 < cur.length := by have := HM.out.1; omega
          obtain ⟨na, ha⟩ : ∃ na, na = cur.getD (2 * j) zeroN := ⟨_, rfl⟩
          obtain ⟨nb, hb⟩ : ∃ nb, nb = cur.getD (2 * j + 1) zeroN := ⟨_, rfl⟩
          obtain ⟨ap, hap⟩ : ∃ ap, ap = (⟨gc, 0, none⟩ : Addr).add (2 * j * 3) := ⟨_, rfl⟩
          have hka : NodeK wd na := HH.out.n _ (by rw [ha]; have h1 : cur.getD (2 * j) zeroN = cur[2 * j]'(by omega) := (by simp [List.getD_eq_getElem?_getD, show 2 * j < cur.length by omega]); rw [h1]; exact List.getElem_mem _)
          have hkb : NodeK wd nb := HH.out.n _ (by rw [hb]; have h1 : cur.getD (2 * j + 1) zeroN = cur[2 * j + 1] := (by simp [List.getD_eq_getElem?_getD, hjl]); rw [h1]; exact List.getElem_mem _)
          have htw : twoV wd cur j = joinV wd na nb := by rw [ha, hb]; rfl
          have hto : twoOk cur j ↔ valU na.f1 + valU nb.f1 < 340282366920938463463374607431768211456 := by rw [ha, hb]; rfl
          have HT := fun (V : World) (hV : Below Wb.heap.size Wb V) => two_at' ((ownNodes_C ((hP.below hV).t.hg.last HL9.out)).2.2) j hjl na nb ha hb ap hap
          have hch : chunkV ⟨gc, 0, none⟩ j = .slice (some ap) 2 2 := by rw [hap]; rfl
          obtain ⟨kj, hkj⟩ := (join_ev wd na nb hka.u hkb.u).rounds
          have HT := aM' HT
          have HKA := aM' hka
          have HKB := aM' hkb
          have HTW := aM' htw
          have HTO := aM' hto
          have HOK := aM' hok
          have HP := aM' hP
          have HZZ := aM' hz
          have HLEN := aM' hlen
          have HKJ := aM' hkj
          dsimp only
          rw [hch]
          clear ha hb hap hka hkb htw hto hok hP hz hlen hch hjl hkj
          rcases hjn : joinI wd na nb with ⟨r1, r2, r3, r4⟩
          rw [hjn] at HKJ
          have HJN := aM' hjn
          clear hjn
          gi_wp2
          refine region_invIn (fun l a W => ∃ γx : Nat, a = ({ tmps := #[.int .i64 wd, .slice (some ad) ls.length c, .pointer (some ⟨w.heap.size, 0, none⟩), x 3, .pointer (some ⟨w.heap.size + 1, 0, none⟩), .pointer (some ⟨w.heap.size + 1 + 1, 0, none⟩), x 6, x 7, .slice (some ⟨gc, 0, none⟩) cur.length cc, x 9, x 10, .pointer (some ⟨δ, 0, none⟩), .pointer (some ⟨b12, 0, none⟩), .slice (some ap) 2 2, sel (l 11) (.pointer (some ⟨γx, 0, none⟩)) (x 14), sel (l 13) (.int .i64 r4) (x 15), x 16, x 17, x 18, x 19, x 20, x 21, x 22, x 23, x 24, x 25, x 26, x 27, x 28, x 29, x 30, x 31, x 32, x 33, x 34, x 35, x 36, x 37, x 38, x 39, x 40, x 41, x 42, x 43, x 44, x 45, x 46, x 47, x 48, x 49, x 50, x 51, x 52, x 53, x 54, x 55, x 56, x 57, x 58, x 59, x 60, x 61, x 62, x 63, x 64, x 65, x 66, x 67, x 68, x 69, x 70, x 71, x 72, x 73, x 74, x 75, x 76, x 77, x 78, x 79, .func (.func 95) #[] #[.pointer (some ⟨W2.heap.size, 0, none⟩), .pointer (some ⟨W2.heap.size + 1, 0, none⟩)], .slice (some ap) 2 2, sel (l 8) (.tuple #[.agg #[.string r1, .int .u64 r2, .int .u64 r3], .int .i64 r4]) (x 82), sel (l 0) (.int .i64 wd) (x 83), sel (l 1) (.slice (some ap) 2 2) (x 84), sel (l 2) (.pointer (some ap)) (x 85), sel (l 3) (.agg #[.string na.f0, .int .u64 na.f1.f0, .int .u64 na.f1.f1]) (x 86), sel (l 4) (.slice (some ap) 2 2) (x 87), sel (l 5) (.pointer (some (ap.add 3))) (x 88), sel (l 6) (.agg #[.string nb.f0, .int .u64 nb.f1.f0, .int .u64 nb.f1.f1]) (x 89), sel (l 7) (.tuple #[.agg #[.string r1, .int .u64 r2, .int .u64 r3], .int .i64 r4]) (x 90), sel (l 9) (.agg #[.string r1, .int .u64 r2, .int .u64 r3]) (x 91), sel (l 10) (.int .i64 r4) (x 92), x 93, x 94, x 95, x 96, x 97, x 98, x 99, x 100], defers := [] } : Act) ∧ Pr4 Wb W ⟨r1, ⟨r2, r3⟩⟩ l γx) 14 rfl rfl (by kernel_rfl) ?h0 ?hend ?hstep
          case h0 => exact ⟨0, rfl, below_drew (Below.refl _ _), (fun h => by cases h), (fun h => by cases h)⟩
          case hstep =>
           refine rg_cons (rg_cons (rg_cons (rg_cons (rg_cons (rg_cons (rg_cons (rg_cons (rg_cons (rg_cons (rg_cons (rg_cons (rg_cons (rg_cons (rg_nil) ?s0) ?s1) ?s2) ?s3) ?s4) ?s5) ?s6) ?s7) ?s8) ?s9) ?s10) ?s11) ?s12) ?s13
           case s0 =>
            refine rgi_step rfl ?_
            rintro l a W ⟨γx, rfl, hI⟩ hl hd
            clear hd
            have x0 := blk_cell (HP.out.below hI.hB).t.bx.h2 0
            simp at x0
            refine rgi_val (v := .int .i64 wd) (w' := W) (fun _ => trivial) rfl (fun _ h => by cases h) (by go_simp) ?_
            refine ⟨γx, ?_, ?_⟩
            ·
             simp only [Act.put, List.setIfInBounds_toArray, List.set_cons_zero, List.set_cons_succ]; rfl
            ·
             exact hI.other _ (by decide) (by decide) (Below.refl _ _)
           case s1 =>
            refine rgi_step rfl ?_
            rintro l a W ⟨γx, rfl, hI⟩ hl hd
            clear hd
            refine rgi_val (v := .slice (some ap) 2 2) (w' := W) (fun _ => trivial) rfl (fun _ h => by cases h) (by go_simp) ?_
            refine ⟨γx, ?_, ?_⟩
            ·
             simp only [Act.put, List.setIfInBounds_toArray, List.set_cons_zero, List.set_cons_succ]; rfl
            ·
             exact hI.other _ (by decide) (by decide) (Below.refl _ _)
           case s2 =>
            refine rgi_step rfl ?_
            rintro l a W ⟨γx, rfl, hI⟩ hl hd
            have d1 := hd 1 (by decide)
            clear hd
            refine rgi_val (v := .pointer (some ap)) (w' := W) (fun _ => trivial) rfl (fun _ h => by cases h) (by go_simp) ?_
            refine ⟨γx, ?_, ?_⟩
            ·
             simp only [Act.put, List.setIfInBounds_toArray, List.set_cons_zero, List.set_cons_succ]; rfl
            ·
             exact hI.other _ (by decide) (by decide) (Below.refl _ _)
           case s3 =>
            refine rgi_step rfl ?_
            rintro l a W ⟨γx, rfl, hI⟩ hl hd
            have d2 := hd 2 (by decide)
            clear hd
            obtain ⟨⟨x0, x1, x2⟩, y0, y1, y2⟩ := HT.out W hI.hB
            refine rgi_val (v := .agg #[.string na.f0, .int .u64 na.f1.f0, .int .u64 na.f1.f1]) (w' := W) (fun _ => trivial) rfl (fun _ h => by cases h) (by go_simp) ?_
            refine ⟨γx, ?_, ?_⟩
            ·
             simp only [Act.put, List.setIfInBounds_toArray, List.set_cons_zero, List.set_cons_succ]; rfl
            ·
             exact hI.other _ (by decide) (by decide) (Below.refl _ _)
           case s4 =>
            refine rgi_step rfl ?_
            rintro l a W ⟨γx, rfl, hI⟩ hl hd
            clear hd
            refine rgi_val (v := .slice (some ap) 2 2) (w' := W) (fun _ => trivial) rfl (fun _ h => by cases h) (by go_simp) ?_
            refine ⟨γx, ?_, ?_⟩
            ·
             simp only [Act.put, List.setIfInBounds_toArray, List.set_cons_zero, List.set_cons_succ]; rfl
            ·
             exact hI.other _ (by decide) (by decide) (Below.refl _ _)
           case s5 =>
            refine rgi_step rfl ?_
            rintro l a W ⟨γx, rfl, hI⟩ hl hd
            have d4 := hd 4 (by decide)
            clear hd
            refine rgi_val (v := .pointer (some (ap.add 3))) (w' := W) (fun _ => trivial) rfl (fun _ h => by cases h) (by go_simp) ?_
            refine ⟨γx, ?_, ?_⟩
            ·
             simp only [Act.put, List.setIfInBounds_toArray, List.set_cons_zero, List.set_cons_succ]; rfl
            ·
             exact hI.other _ (by decide) (by decide) (Below.refl _ _)
           case s6 =>
            refine rgi_step rfl ?_
            rintro l a W ⟨γx, rfl, hI⟩ hl hd
            have d5 := hd 5 (by decide)
            clear hd
            obtain ⟨⟨x0, x1, x2⟩, y0, y1, y2⟩ := HT.out W hI.hB
            refine rgi_val (v := .agg #[.string nb.f0, .int .u64 nb.f1.f0, .int .u64 nb.f1.f1]) (w' := W) (fun _ => trivial) rfl (fun _ h => by cases h) (by go_simp) ?_
            refine ⟨γx, ?_, ?_⟩
            ·
             simp only [Act.put, List.setIfInBounds_toArray, List.set_cons_zero, List.set_cons_succ]; rfl
            ·
             exact hI.other _ (by decide) (by decide) (Below.refl _ _)
           case s7 =>
            refine rgi_step rfl ?_
            rintro l a W ⟨γx, rfl, hI⟩ hl hd
            have d0 := hd 0 (by decide)
            have d3 := hd 3 (by decide)
            have d6 := hd 6 (by decide)
            clear hd
            refine rgi_call (fun _ => trivial) rfl rfl (fun _ h => by cases h) (by go_simp; exact ⟨rfl, rfl⟩) ?_
            refine (CallsIn.inRound l2 (callsIn_wide.2 (node_Join.calls kj wd na.f0 na.f1.f0 na.f1.f1 nb.f0 nb.f1.f0 nb.f1.f1 r1 r2 r3 r4 W (HK.out.below (HP.out.t.bx.hB.trans (hI.hB.mono HP.out.t.bx.hB.size))).1 HKJ.out))).mono ?_
            rintro xx W' ⟨rfl, hb⟩
            refine ⟨_, rfl, γx, ?_, ?_⟩
            ·
             simp only [Act.put, List.setIfInBounds_toArray, List.set_cons_zero, List.set_cons_succ]; rfl
            ·
             exact hI.other 7 (by decide) (by decide) hb
           case s8 =>
            refine rgi_step rfl ?_
            rintro l a W ⟨γx, rfl, hI⟩ hl hd
            have d7 := hd 7 (by decide)
            clear hd
            refine rgi_val (v := .tuple #[.agg #[.string r1, .int .u64 r2, .int .u64 r3], .int .i64 r4]) (w' := W) (fun _ => trivial) rfl (fun _ h => by cases h) (by go_simp) ?_
            refine ⟨γx, ?_, ?_⟩
            ·
             simp only [Act.put, List.setIfInBounds_toArray, List.set_cons_zero, List.set_cons_succ]; rfl
            ·
             exact hI.other _ (by decide) (by decide) (Below.refl _ _)
           case s9 =>
            refine rgi_step rfl ?_
            rintro l a W ⟨γx, rfl, hI⟩ hl hd
            have d8 := hd 8 (by decide)
            clear hd
            refine rgi_val (v := .agg #[.string r1, .int .u64 r2, .int .u64 r3]) (w' := W) (fun _ => trivial) rfl (fun _ h => by cases h) (by go_simp) ?_
            refine ⟨γx, ?_, ?_⟩
            ·
             simp only [Act.put, List.setIfInBounds_toArray, List.set_cons_zero, List.set_cons_succ]; rfl
            ·
             exact hI.other _ (by decide) (by decide) (Below.refl _ _)
           case s10 =>
            refine rgi_step rfl ?_
            rintro l a W ⟨γx, rfl, hI⟩ hl hd
            have d8 := hd 8 (by decide)
            clear hd
            refine rgi_val (v := .int .i64 r4) (w' := W) (fun _ => trivial) rfl (fun _ h => by cases h) (by go_simp) ?_
            refine ⟨γx, ?_, ?_⟩
            ·
             simp only [Act.put, List.setIfInBounds_toArray, List.set_cons_zero, List.set_cons_succ]; rfl
            ·
             exact hI.other _ (by decide) (by decide) (Below.refl _ _)
           case s11 =>
            refine rgi_step rfl ?_
            rintro l a W ⟨γx, rfl, hI⟩ hl hd
            clear hd
            refine rgi_val (v := .pointer (some ⟨W.heap.size, 0, none⟩)) (w' := W.alloc (.cells #[.string ⟨#[]⟩, .int .u64 0, .int .u64 0] 46 (0, 0))) (fun _ => trivial) rfl (fun _ h => by cases h) (by go_simp) ?_
            refine ⟨W.heap.size, ?_, ?_⟩
            ·
             simp only [Act.put, List.setIfInBounds_toArray, List.set_cons_zero, List.set_cons_succ]; rfl
            ·
             exact hI.alloc hl
           case s12 =>
            refine rgi_step rfl ?_
            rintro l a W ⟨γx, rfl, hI⟩ hl hd
            have d11 := hd 11 (by decide)
            have d9 := hd 9 (by decide)
            clear hd
            have hg := (hI.hg d11).2
            rw [show l 12 = false from hl, if_neg (by decide)] at hg
            have y0 := blk_cell hg 0
            have y1 := blk_cell hg 1
            have y2 := blk_cell hg 2
            have yf := fun i => blk_frozen hg i
            simp at y0 y1 y2
            refine rgi_skip (fun _ => trivial) rfl (fun _ h => by cases h) (by go_simp; rfl) ?_
            refine ⟨γx, ?_, ?_⟩
            ·
             simp only [Act.put, List.setIfInBounds_toArray, List.set_cons_zero, List.set_cons_succ]; rfl
            ·
             exact hI.store d11 hl
           case s13 =>
            refine rgi_step rfl ?_
            rintro l a W ⟨γx, rfl, hI⟩ hl hd
            have d10 := hd 10 (by decide)
            clear hd
            refine rgi_val (v := .int .i64 r4) (w' := W) (fun _ => trivial) rfl (fun _ h => by cases h) (by go_simp) ?_
            refine ⟨γx, ?_, ?_⟩
            ·
             simp only [Act.put, List.setIfInBounds_toArray, List.set_cons_zero, List.set_cons_succ]; rfl
            ·
             exact hI.other _ (by decide) (by decide) (Below.refl _ _)
          case hend =>
           rintro l a W ⟨γx, rfl, hI⟩ hall
           have e0 := hall 0 (by decide)
           have e1 := hall 1 (by decide)
           have e2 := hall 2 (by decide)
           have e3 := hall 3 (by decide)
           have e4 := hall 4 (by decide)
           have e5 := hall 5 (by decide)
           have e6 := hall 6 (by decide)
           have e7 := hall 7 (by decide)
           have e8 := hall 8 (by decide)
           have e9 := hall 9 (by decide)
           have e10 := hall 10 (by decide)
           have e11 := hall 11 (by decide)
           have e12 := hall 12 (by decide)
           have e13 := hall 13 (by decide)
           clear hall
           have hD := hI.hg e11
           rw [if_pos e12] at hD
           obtain ⟨hγ, hγc⟩ := hD
           have hBb := hI.hB
           have hP5 := HP.out.below hBb
           have HBb := aM' hBb
           have HP5 := aM' hP5
           have HG := aM' hγ
           have HGC := aM' hγc
           clear hI hγ hγc hBb hP5 HP
           simp only [e0, e1, e2, e3, e4, e5, e6, e7, e8, e9, e10, e11, e12, e13, sel_true]
           clear e0 e1 e2 e3 e4 e5 e6 e7 e8 e9 e10 e11 e12 e13
           obtain ⟨dn, hdn⟩ : ∃ dn, (pre.map fun y => twoV wd cur y.1) = dn := ⟨_, rfl⟩
           rw [hdn] at HP5
           have hdl : dn.length = pre.length := by rw [← hdn]; simp
           have HDN := aM' hdn
           have HDL := aM' hdl
           obtain ⟨A12, c12, hbx, hown0⟩ := HP5.out.b
           have HBX := aM' hbx
           have HOWN0 := aM' hown0
           have hbd := HP5.out.bd
           have HBD := aM' hbd
           have hw3 := HW3.out
           have hz := HZ.out
           have hzz := HZZ.out
           have hbz := HBb.out.size
           have hlt := HP5.out.lt
           have HSZ := aM' (show b12 < W.heap.size ∧ b12 + 3 ≤ Wb.heap.size ∧ Wb.heap.size ≤ W.heap.size ∧ W2.heap.size = b12 + 1 ∧ w3.heap.size = b12 + 3 from ⟨hlt, by omega, hbz, hz.2, hw3⟩)
           have y12 : W.cell? ⟨b12, 0, none⟩ = some (.slice A12 dn.length c12) := blk_cell hbx 0
           have y0 : W.cell? ⟨γx, 0, none⟩ = some (.string r1) := blk_cell HGC.out 0
           have y1 : W.cell? ⟨γx, 1, none⟩ = some (.int .u64 r2) := blk_cell HGC.out 1
           have y2 : W.cell? ⟨γx, 2, none⟩ = some (.int .u64 r3) := blk_cell HGC.out 2
           clear hdn hdl hbx hown0 hbd hw3 hz hzz hbz hlt
           by_cases h0 : r4 = 0
           ·
            subst h0
            have hroom : valU na.f1 + valU nb.f1 < 340282366920938463463374607431768211456 := by
             rcases Int.lt_or_le (valU na.f1 + valU nb.f1) 340282366920938463463374607431768211456 with h | h
             ·
              exact h
             ·
              have := joinI_full HKA.out HKB.out (by omega)
              rw [HJN.out] at this
              simp at this
            have hjv : (⟨r1, ⟨r2, r3⟩⟩ : SNode) = joinV wd na nb := by
             have := joinI_room HKA.out HKB.out hroom
             rw [HJN.out] at this
             simp only [Prod.mk.injEq] at this
             obtain ⟨e1, e2, e3, -⟩ := this
             rw [e1, e2, e3]
            have HRM := aM' hroom
            have HJV := aM' hjv
            clear hroom hjv
            gi_upto_region 25 with (fail)
            refine wpIn_region_list ?_
            refine li_val (v := .slice A12 dn.length c12) (w' := W) rfl (fun _ => trivial) (fun _ h => by cases h) (by go_simp; done) ?_
            refine li_val (v := .agg #[.string r1, .int .u64 r2, .int .u64 r3]) (w' := W) rfl (fun _ => trivial) (fun _ h => by cases h) (by go_simp; done) ?_
            refine li_val (v := .slice (some ⟨W.heap.size, 0, none⟩) 1 1) (w' := W.alloc (.cells #[.string r1, .int .u64 r2, .int .u64 r3] 46 (0, 0))) rfl (fun _ => trivial) (fun _ h => by cases h) (by go_simp; done) ?_
            refine wpListIn_append_own _ rfl _ _ 43 rfl (b12 + 3) 46 i0 (.agg #[(.string ⟨#[]⟩), (.int .u64 0), (.int .u64 0)]) 3 32 Tryd.underlying43 hi hz0 hz1 hz2 rfl (by decide) (.slice A12 dn.length c12) dn.length (cellsN dn) rfl ?own ⟨W.heap.size, 0, none⟩ 1 1 [.string r1, .int .u64 r2, .int .u64 r3] rfl rfl ?cells ?one ?b1 ?b2 ?b3 ?_
            (case own => exact ownB HOWN0.out (below_alloc (Below.refl _ _) _))
            (case cells => exact World.news_of_block (blk_new W _))
            (case one => intro u hu; simp at hu; rcases hu with rfl | rfl | rfl <;> rfl)
            (case b1 => have h1 := HLEN.out; have h2 := HDL.out; have := HM5.out; unfold maxLen; omega)
            (case b2 => have h1 := HLEN.out; have h2 := HDL.out; have := HM5.out; omega)
            (case b3 => rw [World.size_alloc]; have := HSZ.out; omega)
            intro v' w7 hown hgr hnil
            obtain ⟨g, cap, rfl, -, hg7⟩ := hown.form (by omega)
            have HOWN := aM' hown
            have HGR := aM' hgr
            have hne : ∀ e, (Value.slice A12 dn.length c12).ownBlock = some e → b12 + 3 ≤ e := fun e he => (HOWN0.out.lt e he).1
            have HNE := aM' hne
            have hz6 := (hgr.block b12 (by rw [World.size_alloc]; have := HSZ.out; omega) (fun e => by have := hne _ e.symm; omega)).trans (blk_alloc HBX.out _)
            have z6 : w7.cell? ⟨b12, 0, none⟩ = some (.slice A12 dn.length c12) := blk_cell hz6 0
            have zf : ∀ i, w7.frozen? ⟨b12, i, none⟩ = false := fun i => blk_frozen hz6 i
            clear hown hgr hz6 hnil hne hg7
            refine li_skip (w' := w7.setCell ⟨b12, 0, none⟩ (.slice (some ⟨g, 0, none⟩) (dn.length + 1) cap)) rfl (fun _ => trivial) (fun _ h => by cases h) (by go_simp; first | done | rfl) ?_
            gi_wp2
            have hW1 : ∀ k, k < Wb.heap.size → (W.alloc (.cells #[.string r1, .int .u64 r2, .int .u64 r3] 46 (0, 0))).heap[k]? = Wb.heap[k]? := fun k hk => by
             rw [(below_alloc (Below.refl W.heap.size W) _).block k (lL' hk HSZ.out.2.2.1)]
             exact HBb.out.block k hk
            have hend : ∀ k, k < Wb.heap.size → (Value.slice A12 dn.length c12).ownBlock ≠ some k → k ≠ b12 → (w7.setCell ⟨b12, 0, none⟩ (.slice (some ⟨g, 0, none⟩) (dn.length + 1) cap)).heap[k]? = Wb.heap[k]? := fun k hk h1 h2 =>
             (Below.heap_setCell _ _ _ _ h2).trans ((HGR.out.block k (by rw [World.size_alloc]; have := HSZ.out; omega) (fun e => h1 e.symm)).trans (hW1 k hk))
            have hsz : Wb.heap.size ≤ w7.heap.size := by have h1 := HGR.out.size; rw [World.size_alloc] at h1; have := HSZ.out; omega
            refine ⟨⟨by simpa using hsz, fun k o hk h0 ho => ?_⟩, ?_, ?_, ?_, ?_⟩
            ·
             rw [hend k (Array.getElem?_eq_some_iff.1 h0).1 (fun e => ?_) (by have := HSZ.out; omega)]
             ·
              exact h0
             ·
              obtain ⟨cs, h3⟩ := own_cells HOWN0.out e
              rw [HBb.out.block k (Array.getElem?_eq_some_iff.1 h0).1] at h3
              rw [h0] at h3
              cases h3
              cases ho
            ·
             intro k hk
             refine hend k (by have := HSZ.out; rcases hk with rfl | rfl <;> omega) (fun e => by have := HNE.out _ e; have := HSZ.out; rcases hk with rfl | rfl <;> omega) (by have := HSZ.out; rcases hk with rfl | rfl <;> omega)
            ·
             intro y hy
             rcases List.mem_append.1 hy with hy | hy
             ·
              exact HOK.out y hy
             ·
              obtain rfl := List.mem_singleton.1 hy
              exact HTO.out.2 HRM.out
            ·
             have hm := (HP5.out.below (below_alloc (Below.refl _ _) (.cells #[.string r1, .int .u64 r2, .int .u64 r3] 46))).more (x := ⟨r1, ⟨r2, r3⟩⟩) (blk_alloc HBX.out _) (ownB HOWN0.out (below_alloc (Below.refl _ _) _)) HGR.out HOWN.out
             rw [List.map_append, HDN.out]
             have hx : (List.map (fun y : { j : Nat // j < m } => twoV wd cur y.1) [⟨j, hj⟩]) = [⟨r1, ⟨r2, r3⟩⟩] := by rw [HJV.out, ← HTW.out]; rfl
             rw [hx]
             exact hm
            ·
             exact Nat.le_trans HZZ.out (by simpa using hsz)
           ·
            have b1 : (r4 != 0) = true := by simp [h0]
            have hroom : ¬ valU na.f1 + valU nb.f1 < 340282366920938463463374607431768211456 := fun h => by
             have := joinI_room HKA.out HKB.out h
             rw [HJN.out] at this
             simp only [Prod.mk.injEq] at this
             exact h0 this.2.2.2
            have h10 : r4 = 10 := by
             have := joinI_full HKA.out HKB.out hroom
             rw [HJN.out] at this
             simp only [Prod.mk.injEq] at this
             exact this.2.2.2
            have HRM := aM' hroom
            clear hroom
            have y4 : W.cell? ⟨w.heap.size + 1, 0, none⟩ = some (.pointer none) := blk_cell HP5.out.t.bx.h4 0
            have f4 : ∀ i, W.frozen? ⟨w.heap.size + 1, i, none⟩ = false := fun i => blk_frozen HP5.out.t.bx.h4 i
            have y5 : W.cell? ⟨w.heap.size + 1 + 1, 0, none⟩ = some (.int .i64 0) := blk_cell HP5.out.t.bx.h5 0
            have f5 : ∀ i, W.frozen? ⟨w.heap.size + 1 + 1, i, none⟩ = false := fun i => blk_frozen HP5.out.t.bx.h5 i
            gi_wp2
            have hNE : NxE w ds ((W.setCell ⟨w.heap.size + 1, 0, none⟩ (.pointer none)).setCell ⟨w.heap.size + 1 + 1, 0, none⟩ (.int .i64 10)) := NxE.made HP5.out.t
            refine ⟨⟨by have := HSZ.out; simpa using this.2.2.1, fun k o hk h0 ho => ?_⟩, rfl, ⟨j, ⟨hj, by simp⟩, fun h => absurd (HTO.out.1 h) (by have := HRM.out; omega)⟩, by first | exact hNE | (rw [h10]; exact hNE)⟩
            have := HBD.out.b
            have := HSZ.out
            exact (Below.heap_setCell _ _ _ _ (by show k ≠ w.heap.size + 1 + 1; omega)).trans ((Below.heap_setCell _ _ _ _ (by show k ≠ w.heap.size + 1; omega)).trans ((HBb.out.block k (Array.getElem?_eq_some_iff.1 h0).1).trans h0))
         case done =>
          rintro D ys W hD hys ⟨hok, hP, hz⟩ hdf
          have hdn : (ys.map fun y => twoV wd cur y.1) = pairsV wd cur := by
           rw [pairsV_range wd m cur HM.out.1, ← hys, List.map_map]; rfl
          have hpo : pairsOk cur = true := (pairsOk_range m cur HM.out.1).2 (fun j hj => by
           have h1 : j ∈ ys.map Subtype.val := by rw [hys]; exact List.mem_range.2 hj
           obtain ⟨y, hy, rfl⟩ := List.mem_map.1 h1
           exact hok y hy)
          rw [hdn] at hP
          have hpl : (pairsV wd cur).length = m := pairsV_len wd m cur HM.out.1
          obtain ⟨A12, c12, hbx, hown⟩ := hP.b
          rw [hpl] at hbx hown
          obtain ⟨g, cap, hv, -, -⟩ := hown.form HM.out.2
          cases hv
          have HNX := aM' (HH.out.next HM.out.1 HM.out.2 hpo hP hown (by have := HW3.out; omega) hdf)
          have y12 : W.cell? ⟨b12, 0, none⟩ = some (.slice (some ⟨g, 0, none⟩) m c12) := blk_cell hbx 0
          have HPL := aM' hpl
          clear hok hP hz hdn hpo hpl hbx hown hdf hys hD
          dsimp only
          go_wp2
          refine ⟨?_, ?_⟩
          ·
           rw [HI.out]
           refine ⟨fun i => if i = 12 then .pointer (some ⟨b12, 0, none⟩) else if i = 80 then .func (.func 95) #[] #[.pointer (some ⟨W2.heap.size, 0, none⟩), .pointer (some ⟨W2.heap.size + 1, 0, none⟩)] else if i = 100 then .slice (some ⟨g, 0, none⟩) m c12 else x i, gs ++ [(gc, cc)], done ++ [cur], D :: ds, pairsV wd cur, g, c12, some ⟨γ2, 0, none⟩, κ2, ?_, HNX.out⟩
           rw [HPL.out]
           rfl
          ·
           show m < cur.length
           have := HM.out
           omega
         case stop =>
          rintro D c2 pre W hD - ⟨rfl, ⟨y, hy, hno⟩, hE⟩ hdf
          have hpo : pairsOk cur = false := by
           cases h : pairsOk cur with
           | false => rfl
           | true => exact absurd ((pairsOk_range m cur HM.out.1).1 h y.1 y.2) hno
          have htot : ¬ totL (ls.map (leafNodeI wd)) < 340282366920938463463374607431768211456 := by
           rw [← HH.out.s]
           exact pairsOk_tot m cur HM.out.1 HH.out.n hpo
          have HE := aM' hE
          have HDF := aM' hdf
          have HTOT := aM' htot
          have HDB := aM' hD
          clear hE hdf htot hD hno hpo
          gi_wp2
          refine newErrD (ds := D :: ds) HE.out.hB (List.nodup_cons.2 ⟨fun h => by have := HX3.out.bd.d D h; have := HDB.out; have := HW3.out; omega, HH.out.t.dn⟩) (fun D' hD' => ?_) (fun D' hD' => ?_) rfl rfl HE.out.h4 HE.out.h5 (newI_full HW.out HP.out HALL.out (by have := HTOT.out; omega)) (by decide)
          ·
           rcases List.mem_cons.1 hD' with rfl | hD'
           ·
            exact HDF.out
           ·
            exact HE.out.hd D' hD'
          ·
           rcases List.mem_cons.1 hD' with rfl | hD'
           ·
            have := HDB.out; have := HW3.out; have := HX3.out.bd.b; omega
           ·
            exact HH.out.d D' hD'
end Go.Proofs.YtfcodmdckcihmaaDoor.P
namespace Go.Proofs.YtfcodmdckcihmaaDoor.P
open Go.RowKit Go.Proofs.YtfcodmdckcihmaaDoorW.PrintWords Go.Proofs.YtfcodmdckcihmaaDoorW.PrintLast Go.Proofs.YtfcodmdckcihmaaDoorW.PrintMore
set_option linter.unusedVariables false
set_option linter.unusedSimpArgs false
set_option linter.unnecessarySimpa false
theorem TreeOwn.far {base a gl cl : Nat} {VV : Value} {gs : List RowG} {T : STree} {W W' : World} (h : TreeOwn base W a T gl cl VV gs) (hk : ∀ k, base ≤ k → k < W.heap.size → W'.heap[k]? = W.heap[k]?) : TreeOwn base W' a T gl cl VV gs := by
 have hg := h.hl.lt gl rfl
 exact ⟨(hk a h.lo (blk_lt h.ht)).trans h.ht, own_keep h.hl (hk gl hg.1 hg.2), ownAny_keep h.hv (fun g hgg => hk g (h.hv.lt g hgg).1 (h.hv.lt g hgg).2), h.hg.keep (fun k hm => hk k (h.hg.lt k hm).1 (h.hg.lt k hm).2), h.ap, h.av, h.lo⟩
theorem cellsV_get : ∀ (i n : Nat) (gs : List RowG) (rs : List (List SNode)) (p : RowG) (r : List SNode), gs[n]? = some p → rs[n]? = some r → (cellsV i gs rs)[n * 2]? = some (rowV p r) ∧ (cellsV i gs rs)[n * 2 + 1]? = some (.int .i64 ((i + n : Nat) : Int))
 | i, n, [], rs, p, r, h, _ => by simp at h
 | i, n, q :: gs, [], p, r, _, h => by simp at h
 | i, 0, q :: gs, s :: rs, p, r, h1, h2 => by
  obtain rfl := Option.some.inj h1
  obtain rfl := Option.some.inj h2
  exact ⟨rfl, rfl⟩
 | i, n + 1, q :: gs, s :: rs, p, r, h1, h2 => by
  have := cellsV_get (i + 1) n gs rs p r (by simpa using h1) (by simpa using h2)
  rw [cellsV, show (n + 1) * 2 = n * 2 + 2 by omega]
  simp only [List.getElem?_cons_succ]
  refine ⟨this.1, ?_⟩
  rw [this.2, show i + 1 + n = i + (n + 1) by omega]
theorem OwnRows.get {W : World} {base : Nat} : ∀ {gs : List RowG} {rs : List (List SNode)} {n : Nat} {r : List SNode}, OwnRows W base gs rs → rs[n]? = some r → ∃ p, gs[n]? = some p ∧ W.ownsRow base 46 3 (rowV p r) r.length (cellsN r)
 | [], [], n, r, _, h => by simp at h
 | p :: gs, s :: rs, 0, r, h, hr => by
  obtain rfl := Option.some.inj hr
  exact ⟨p, rfl, h.1⟩
 | p :: gs, s :: rs, n + 1, r, h, hr => by
  obtain ⟨q, h1, h2⟩ := h.2.get (n := n) (by simpa using hr)
  exact ⟨q, by simpa using h1, h2⟩
theorem TreeOwn.read {base a gl cl : Nat} {VV : Value} {gs : List RowG} {T : STree} {W : World} (h : TreeOwn base W a T gl cl VV gs) (hl : 1 ≤ T.leaves.length ∧ T.leaves.length ≤ 1024) (hv : 1 ≤ T.rows.length ∧ T.rows.length ≤ 11) (hr : ∀ r ∈ T.rows, 1 ≤ r.length ∧ r.length ≤ 1024) : TreeR a T W := by
 obtain ⟨q1, q2, q3⟩ := ownLeaves_C h.hl
 obtain ⟨gv, cv, hvv, hbb, hlt⟩ := h.hv.form hv.1
 have ht := h.ht
 rw [hvv] at ht
 have hcap : T.rows.length ≤ cv := by
  rcases h.hv.2 with ⟨_, h2⟩ | ⟨g', cap', cur, h1, _, _, h2, _⟩
  ·
   omega
  ·
   rw [hvv] at h1; cases h1; exact h2
 have hcell := h.hv.cells (g := gv) (by rw [hvv]; rfl)
 refine ⟨some ⟨gl, 0, none⟩, cl, ⟨gv, 0, none⟩, cv, ht, q2, q3, hl.1, hl.2, hcap, hv.1, hv.2, fun i hi => ?_⟩
 obtain ⟨p, hp, ho⟩ := h.hg.get (n := i) (List.getElem?_eq_getElem hi)
 obtain ⟨c1, c2⟩ := cellsV_get 0 i gs T.rows p T.rows[i] hp (List.getElem?_eq_getElem hi)
 obtain ⟨r1, r2, r3⟩ := ownNodes_C ho
 have hm := hr T.rows[i] (List.getElem_mem hi)
 refine ⟨⟨p.1, 0, none⟩, p.2, hcell _ _ c1, ?_, r2, r3, hm⟩
 have := hcell _ _ c2
 rw [Nat.zero_add] at this
 have ea : ∀ n, (⟨gv, 0, none⟩ : Addr).add n = ⟨gv, n, none⟩ := fun n => by unfold Addr.add; split <;> simp_all
 rw [ea] at this ⊢
 exact this
theorem levels_ok {wd : Int} {ls : List SLeaf} (hk : NewOk wd ls) (hn : ls.length ≤ 1024) : (1 ≤ (treeT wd ls).rows.length ∧ (treeT wd ls).rows.length ≤ 11) ∧ (∀ r ∈ (treeT wd ls).rows, 1 ≤ r.length ∧ r.length ≤ 1024) ∧ 1 ≤ ls.length := by
 have h : (treeT wd ls).rows = levelsV wd ls.length.log2 (ls.map (leafNodeI wd)) := rfl
 have hp := hk.p
 have hK : ls.length.log2 ≤ 10 := by
  rcases Nat.lt_or_ge 10 ls.length.log2 with h1 | h1
  ·
   have h2 := Nat.pow_le_pow_right (n := 2) (by decide) (show 11 ≤ ls.length.log2 by omega)
   omega
  ·
   exact h1
 rw [h, levelsV_len]
 refine ⟨⟨by omega, by omega⟩, fun r hr => ?_, by have := Nat.two_pow_pos ls.length.log2; omega⟩
 obtain ⟨i, hi, rfl⟩ := List.getElem_of_mem hr
 have hi2 : i ≤ ls.length.log2 := by rw [levelsV_len] at hi; omega
 have e := levelsV_get wd ls.length.log2 i (ls.map (leafNodeI wd)) hi2
 rw [List.getElem?_eq_getElem hi] at e
 rw [Option.some.inj e, (up_ok (K := ls.length.log2) (by rw [List.length_map]; exact hk.p) hk.k hk.t i hi2).1]
 have h1 := Nat.two_pow_pos (ls.length.log2 - i)
 have h2 : 2 ^ (ls.length.log2 - i) ≤ 2 ^ ls.length.log2 := Nat.pow_le_pow_right (by decide) (by omega)
 omega
theorem TreeOwn.readT {base a gl cl : Nat} {VV : Value} {gs : List RowG} {wd : Int} {ls : List SLeaf} {W : World} (h : TreeOwn base W a (treeT wd ls) gl cl VV gs) (hk : NewOk wd ls) (hn : ls.length ≤ 1024) : TreeR a (treeT wd ls) W := by
 obtain ⟨h1, h2, h3⟩ := levels_ok hk hn
 exact h.read ⟨h3, hn⟩ h1 h2
end Go.Proofs.YtfcodmdckcihmaaDoor.P
namespace Go.Proofs.YtfcodmdckcihmaaDoor.P
open Go.RowKit Go.Proofs.YtfcodmdckcihmaaDoorW.PrintWords Go.Proofs.YtfcodmdckcihmaaDoorW.PrintLast Go.Proofs.YtfcodmdckcihmaaDoorW.PrintMore
set_option linter.unusedVariables false
set_option linter.unusedSimpArgs false
set_option linter.unnecessarySimpa false
theorem own_put {w : World} {base g n cap size : Nat} {e : TypeId} {xs : List Value} (h : w.ownsRow base e size (.slice (some ⟨g, 0, none⟩) n cap) n xs) (i : Nat) (v : Value) : (w.setCell ⟨g, i, none⟩ v).ownsRow base e size (.slice (some ⟨g, 0, none⟩) n cap) n (xs.set i v) := by
 obtain ⟨hlen, h⟩ := h
 refine ⟨by rw [List.length_set]; exact hlen, ?_⟩
 rcases h with ⟨h, _⟩ | ⟨g', cap', cur, hv, hb, hg, hcap, hmax, hsz, htk⟩
 ·
  cases h
 ·
  cases hv
  exact .inr ⟨_, _, cur.setIfInBounds i v, rfl, hb, blk_put hg i v rfl, hcap, hmax, by simpa using hsz, by rw [Array.toList_setIfInBounds, List.take_set, htk]⟩
theorem cellsL_set (x : SLeaf) : ∀ (l : List SLeaf) (p : Nat), p < l.length → (((((cellsL l).set (p * 5) (.bool x.f0)).set (p * 5 + 1) (.string x.f1)).set (p * 5 + 2) (.string x.f2)).set (p * 5 + 3) (.int .u64 x.f3.f0)).set (p * 5 + 4) (.int .u64 x.f3.f1) = cellsL (l.set p x)
 | y :: l, 0, _ => rfl
 | y :: l, p + 1, h => by
  have ih := cellsL_set x l p (by simpa using h)
  rw [List.set_cons_succ, cellsL, cellsL, ← ih, show (p + 1) * 5 = p * 5 + 1 + 1 + 1 + 1 + 1 by omega]
  simp only [List.set_cons_succ, show p * 5 + 1 + 1 + 1 + 1 + 1 + 1 = (p * 5 + 1) + 1 + 1 + 1 + 1 + 1 by omega, show p * 5 + 1 + 1 + 1 + 1 + 1 + 2 = (p * 5 + 2) + 1 + 1 + 1 + 1 + 1 by omega, show p * 5 + 1 + 1 + 1 + 1 + 1 + 3 = (p * 5 + 3) + 1 + 1 + 1 + 1 + 1 by omega, show p * 5 + 1 + 1 + 1 + 1 + 1 + 4 = (p * 5 + 4) + 1 + 1 + 1 + 1 + 1 by omega]
theorem cellsN_set (x : SNode) : ∀ (l : List SNode) (p : Nat), p < l.length → (((cellsN l).set (p * 3) (.string x.f0)).set (p * 3 + 1) (.int .u64 x.f1.f0)).set (p * 3 + 2) (.int .u64 x.f1.f1) = cellsN (l.set p x)
 | y :: l, 0, _ => rfl
 | y :: l, p + 1, h => by
  have ih := cellsN_set x l p (by simpa using h)
  rw [List.set_cons_succ, cellsN, cellsN, ← ih]
  simp only [List.set_cons_succ, show (p + 1) * 3 = p * 3 + 1 + 1 + 1 by omega, show p * 3 + 1 + 1 + 1 + 1 = (p * 3 + 1) + 1 + 1 + 1 by omega, show p * 3 + 1 + 1 + 1 + 2 = (p * 3 + 2) + 1 + 1 + 1 by omega]
theorem cellsV_set {r r' : List SNode} (hl : r'.length = r.length) : ∀ (i j : Nat) (gs : List RowG) (rs : List (List SNode)), rs[j]? = some r → cellsV i gs (rs.set j r') = cellsV i gs rs
 | i, j, [], rs, _ => by cases rs <;> rfl
 | i, j, p :: gs, [], h => by simp at h
 | i, 0, p :: gs, s :: rs, h => by
  obtain rfl := Option.some.inj h
  rw [List.set_cons_zero, cellsV, cellsV, hl]
 | i, j + 1, p :: gs, s :: rs, h => by
  rw [List.set_cons_succ, cellsV, cellsV, cellsV_set hl (i + 1) j gs rs (by simpa using h)]
theorem OwnRows.put {W W' : World} {base : Nat} : ∀ {gs : List RowG} {rs : List (List SNode)} {i : Nat} {p : RowG} {r' : List SNode}, OwnRows W base gs rs → (gs.map Prod.fst).Nodup → gs[i]? = some p → W'.ownsRow base 46 3 (rowV p r') r'.length (cellsN r') → (∀ k ∈ gs.map Prod.fst, k ≠ p.1 → W'.heap[k]? = W.heap[k]?) → OwnRows W' base gs (rs.set i r')
 | [], [], i, p, r', _, _, hp, _, _ => by simp at hp
 | q :: gs, s :: rs, 0, p, r', h, hn, hp, ho, hk => by
  obtain rfl := Option.some.inj hp
  rw [List.map_cons] at hn
  obtain ⟨n1, n2⟩ := List.nodup_cons.1 hn
  exact ⟨ho, h.2.keep (fun k hm => hk k (by simp at hm ⊢; exact .inr hm) (fun e => n1 (e ▸ hm)))⟩
 | q :: gs, s :: rs, i + 1, p, r', h, hn, hp, ho, hk => by
  rw [List.map_cons] at hn
  obtain ⟨n1, n2⟩ := List.nodup_cons.1 hn
  have hp2 : gs[i]? = some p := by simpa using hp
  have hm : p.1 ∈ gs.map Prod.fst := List.mem_map.2 ⟨p, List.mem_of_getElem? hp2, rfl⟩
  exact ⟨own_keep h.1 (hk q.1 (by simp) (fun e => n1 (e ▸ hm))), h.2.put n2 hp2 ho (fun k hm hne => hk k (by simp at hm ⊢; exact .inr hm) hne)⟩
structure Tch (S : List Nat) (w w' : World) : Prop where
 os : w'.os = w.os
 tape : w'.tape = w.tape
 output : w'.output = w.output
 size : w.heap.size ≤ w'.heap.size
 block : ∀ k, k < w.heap.size → k ∉ S → w'.heap[k]? = w.heap[k]?
theorem Tch.of {S : List Nat} {w w' : World} (h : Below w.heap.size w w') : Tch S w w' := ⟨h.os, h.tape, h.output, h.size, fun k hk _ => h.block k hk⟩
theorem Tch.refl (S : List Nat) (w : World) : Tch S w w := .of (Below.refl _ _)
theorem Tch.trans {S : List Nat} {w w1 w2 : World} (h : Tch S w w1) (h2 : Tch S w1 w2) : Tch S w w2 :=
 ⟨h2.os.trans h.os, h2.tape.trans h.tape, h2.output.trans h.output, Nat.le_trans h.size h2.size, fun k hk hn => (h2.block k (lL' hk h.size) hn).trans (h.block k hk hn)⟩
theorem Tch.below {S : List Nat} {w w1 w2 : World} (h : Tch S w w1) (h2 : Below w1.heap.size w1 w2) : Tch S w w2 := h.trans (.of h2)
theorem Tch.set {S : List Nat} {w W : World} (h : Tch S w W) {g i : Nat} (v : Value) (hg : g ∈ S ∨ w.heap.size ≤ g) : Tch S w (W.setCell ⟨g, i, none⟩ v) :=
 ⟨h.os, h.tape, h.output, by simpa using h.size, fun k hk hn => (Below.heap_setCell _ _ _ _ (by
  show k ≠ g
  rintro rfl
  rcases hg with h | h
  ·
   exact hn h
  ·
   omega)).trans (h.block k hk hn)⟩
theorem Tch.toBelow {S : List Nat} {w w' : World} {b : Nat} (h : Tch S w w') (hs : ∀ k ∈ S, b ≤ k) (hb : b ≤ w.heap.size) : Below b w w' :=
 ⟨h.os, h.tape, h.output, h.size, fun k hk => h.block k (lL' hk hb) (fun hm => by have := hs k hm; omega)⟩
abbrev RowG.blocks (gs : List RowG) : List Nat := gs.map Prod.fst
abbrev parts (gl : Nat) (gs : List RowG) : List Nat := gl :: gs.map Prod.fst
theorem TreeOwn.keep {base a gl cl : Nat} {VV : Value} {gs : List RowG} {T : STree} {W W' : World} (h : TreeOwn base W a T gl cl VV gs) (hb : Below W.heap.size W W') : TreeOwn base W' a T gl cl VV gs := h.far (fun k _ hk => hb.block k hk)
theorem TreeOwn.lt {base a gl cl : Nat} {VV : Value} {gs : List RowG} {T : STree} {W : World} (h : TreeOwn base W a T gl cl VV gs) : ∀ k ∈ parts gl gs, base ≤ k ∧ k < W.heap.size := by
 intro k hk
 rcases List.mem_cons.1 hk with rfl | hk
 ·
  exact h.hl.lt _ rfl
 ·
  exact h.hg.lt k hk
theorem TreeOwn.putNode {base a gl cl : Nat} {VV : Value} {gs : List RowG} {T : STree} {W : World} (h : TreeOwn base W a T gl cl VV gs) {i q : Nat} {p : RowG} {r : List SNode} (x : SNode) (hp : gs[i]? = some p) (hr : T.rows[i]? = some r) (hq : q < r.length) :
  TreeOwn base (((W.setCell ⟨p.1, q * 3, none⟩ (.string x.f0)).setCell ⟨p.1, q * 3 + 1, none⟩ (.int .u64 x.f1.f0)).setCell ⟨p.1, q * 3 + 2, none⟩ (.int .u64 x.f1.f1)) a ⟨T.wd, T.leaves, T.rows.set i (r.set q x)⟩ gl cl VV gs := by
 obtain ⟨p', hp', hown⟩ := h.hg.get hr
 rw [hp] at hp'
 obtain rfl := Option.some.inj hp'
 have hm : p.1 ∈ gs.map Prod.fst := List.mem_map.2 ⟨p, List.mem_of_getElem? hp, rfl⟩
 have hap := h.ap
 have h1 : a ≠ p.1 := fun e => (List.nodup_cons.1 hap).1 (e ▸ List.mem_cons_of_mem _ hm)
 have h2 : gl ≠ p.1 := fun e => (List.nodup_cons.1 (List.nodup_cons.1 hap).2).1 (e ▸ hm)
 have hk : ∀ k, k ≠ p.1 → (((W.setCell ⟨p.1, q * 3, none⟩ (.string x.f0)).setCell ⟨p.1, q * 3 + 1, none⟩ (.int .u64 x.f1.f0)).setCell ⟨p.1, q * 3 + 2, none⟩ (.int .u64 x.f1.f1)).heap[k]? = W.heap[k]? := fun k hk =>
  (Below.heap_setCell _ _ _ _ hk).trans ((Below.heap_setCell _ _ _ _ hk).trans (Below.heap_setCell _ _ _ _ hk))
 have hlen : (r.set q x).length = r.length := List.length_set ..
 have hown2 := own_put (own_put (own_put hown (q * 3) (.string x.f0)) (q * 3 + 1) (.int .u64 x.f1.f0)) (q * 3 + 2) (.int .u64 x.f1.f1)
 rw [cellsN_set x r q hq] at hown2
 refine ⟨(hk a h1).trans h.ht, own_keep h.hl (hk gl h2), ?_, ?_, h.ap, h.av, h.lo⟩
 ·
  show World.ownsRow _ base _ 2 VV (T.rows.set i (r.set q x)).length (cellsV 0 gs (T.rows.set i (r.set q x)))
  rw [List.length_set, cellsV_set hlen 0 i gs T.rows hr]
  refine ownAny_keep h.hv (fun g hg => hk g (fun e => h.av g hg (e ▸ ?_)))
  exact List.mem_cons_of_mem _ (List.mem_cons_of_mem _ hm)
 ·
  refine h.hg.put (List.nodup_cons.1 (List.nodup_cons.1 hap).2).2 hp ?_ (fun k _ hne => hk k hne)
  rw [hlen]
  rw [rowV, hlen]
  exact hown2
theorem TreeOwn.putLeaf {base a gl cl : Nat} {VV : Value} {gs : List RowG} {T : STree} {W : World} (h : TreeOwn base W a T gl cl VV gs) {p : Nat} (x : SLeaf) (hp : p < T.leaves.length) :
  TreeOwn base (((((W.setCell ⟨gl, p * 5, none⟩ (.bool x.f0)).setCell ⟨gl, p * 5 + 1, none⟩ (.string x.f1)).setCell ⟨gl, p * 5 + 2, none⟩ (.string x.f2)).setCell ⟨gl, p * 5 + 3, none⟩ (.int .u64 x.f3.f0)).setCell ⟨gl, p * 5 + 4, none⟩ (.int .u64 x.f3.f1)) a ⟨T.wd, T.leaves.set p x, T.rows⟩ gl cl VV gs := by
 have hap := h.ap
 have h1 : a ≠ gl := fun e => (List.nodup_cons.1 hap).1 (e ▸ List.mem_cons_self ..)
 have h2 : ∀ k ∈ gs.map Prod.fst, k ≠ gl := fun k hm e => (List.nodup_cons.1 (List.nodup_cons.1 hap).2).1 (e ▸ hm)
 have hk : ∀ k, k ≠ gl → (((((W.setCell ⟨gl, p * 5, none⟩ (.bool x.f0)).setCell ⟨gl, p * 5 + 1, none⟩ (.string x.f1)).setCell ⟨gl, p * 5 + 2, none⟩ (.string x.f2)).setCell ⟨gl, p * 5 + 3, none⟩ (.int .u64 x.f3.f0)).setCell ⟨gl, p * 5 + 4, none⟩ (.int .u64 x.f3.f1)).heap[k]? = W.heap[k]? := fun k hk =>
  (Below.heap_setCell _ _ _ _ hk).trans ((Below.heap_setCell _ _ _ _ hk).trans ((Below.heap_setCell _ _ _ _ hk).trans ((Below.heap_setCell _ _ _ _ hk).trans (Below.heap_setCell _ _ _ _ hk))))
 have hown2 := own_put (own_put (own_put (own_put (own_put h.hl (p * 5) (.bool x.f0)) (p * 5 + 1) (.string x.f1)) (p * 5 + 2) (.string x.f2)) (p * 5 + 3) (.int .u64 x.f3.f0)) (p * 5 + 4) (.int .u64 x.f3.f1)
 rw [cellsL_set x _ p hp] at hown2
 have hlen : (T.leaves.set p x).length = T.leaves.length := List.length_set ..
 refine ⟨?_, ?_, ownAny_keep h.hv (fun g hg => hk g (fun e => h.av g hg (e ▸ ?_))), h.hg.keep (fun k hm => hk k (h2 k hm)), h.ap, h.av, h.lo⟩
 ·
  show _ = some (Obj.cells #[_, .slice _ (T.leaves.set p x).length _, _] _ _)
  rw [hlen]; exact (hk a h1).trans h.ht
 ·
  show World.ownsRow _ base _ 5 (.slice _ (T.leaves.set p x).length _) (T.leaves.set p x).length _
  rw [hlen]; exact hown2
 ·
  exact List.mem_cons_of_mem _ (List.mem_cons_self ..)
theorem TreeOwn.levels {base a gl cl : Nat} {VV : Value} {gs : List RowG} {T : STree} {W : World} (h : TreeOwn base W a T gl cl VV gs) (hv : 1 ≤ T.rows.length) :
  ∃ gv cv, VV = .slice (some ⟨gv, 0, none⟩) T.rows.length cv ∧ T.rows.length ≤ cv ∧ gv < W.heap.size ∧ gv ∉ a :: gl :: gs.map Prod.fst := by
 obtain ⟨gv, cv, hvv, hbb, hlt⟩ := h.hv.form hv
 refine ⟨gv, cv, hvv, ?_, (h.hv.lt gv (by rw [hvv]; rfl)).2, h.av gv (by rw [hvv]; rfl)⟩
 rcases h.hv.2 with ⟨_, h2⟩ | ⟨g', cap', cur, h1, _, _, h2, _⟩
 ·
  omega
 ·
  rw [hvv] at h1; cases h1; exact h2
theorem TreeOwn.level {base a gl cl gv cv i : Nat} {gs : List RowG} {T : STree} {W : World} {r : List SNode} (h : TreeOwn base W a T gl cl (.slice (some ⟨gv, 0, none⟩) T.rows.length cv) gs) (hr : T.rows[i]? = some r) :
  ∃ p, gs[i]? = some p ∧ W.cell? ⟨gv, i * 2, none⟩ = some (rowV p r) ∧ W.cell? ⟨gv, i * 2 + 1, none⟩ = some (.int .i64 (i : Int)) ∧ r.length ≤ p.2 ∧ Kd.C kNode W (some ⟨p.1, 0, none⟩) r.length r ∧ p.1 ∈ gs.map Prod.fst ∧ ∃ c, W.heap[p.1]? = some (.cells c 46 (0, 0)) ∧ r.length * 3 ≤ c.size := by
 obtain ⟨p, hp, ho⟩ := h.hg.get hr
 obtain ⟨c1, c2⟩ := cellsV_get 0 i gs T.rows p r hp hr
 obtain ⟨r1, r2, r3⟩ := ownNodes_C ho
 have hcell := h.hv.cells (g := gv) rfl
 have ea : ∀ n, (⟨gv, 0, none⟩ : Addr).add n = ⟨gv, n, none⟩ := fun n => by unfold Addr.add; split <;> simp_all
 have c0 := hcell _ _ c1
 have := hcell _ _ c2
 rw [Nat.zero_add] at this
 rw [ea] at this c0
 refine ⟨p, hp, c0, this, r2, r3, List.mem_map.2 ⟨p, List.mem_of_getElem? hp, rfl⟩, ?_⟩
 rcases ho.2 with ⟨h1, _⟩ | ⟨g', cap', cur, h1, _, h2, h3, _, h5, _⟩
 ·
  cases h1
 ·
  cases h1
  exact ⟨cur, h2, by rw [h5]; exact Nat.mul_le_mul_right 3 h3⟩
end Go.Proofs.YtfcodmdckcihmaaDoor.P
namespace Go.Proofs.YtfcodmdckcihmaaDoor.P
open Go.RowKit Go.Proofs.YtfcodmdckcihmaaDoorW.PrintWords Go.Proofs.YtfcodmdckcihmaaDoorW.PrintLast Go.Proofs.YtfcodmdckcihmaaDoorW.PrintMore
set_option linter.unusedVariables false
set_option linter.unusedSimpArgs false
set_option linter.unnecessarySimpa false
def besN (n : Nat) : Nat := if n % 2 = 1 then n - 1 else n + 1
theorem xor_one (n : Nat) : n ^^^ 1 = besN n := by
 have h1 : (n ^^^ 1) / 2 = n / 2 := by rw [Nat.xor_div_two]; simp
 have h2 : (n ^^^ 1) % 2 = (n + 1) % 2 := by
  have h := Nat.xor_mod_two_eq_one (a := n) (b := 1)
  have h3 := Nat.mod_two_eq_zero_or_one (n ^^^ 1)
  have h4 := Nat.mod_two_eq_zero_or_one n
  simp only [show (1 : Nat) % 2 = 1 from rfl, iff_true] at h
  generalize (n ^^^ 1) % 2 = u at h h3 ⊢
  omega
 unfold besN
 split <;> omega
theorem bits_bes (n : Nat) (h : n < 18446744073709551616) : Go.bits .xor .u64 (n : Int) 1 = (besN n : Int) := by
 have := bits_xor_u64_nat n 1 h (by decide)
 rw [xor_one] at this
 exact this
theorem bits_odd (n : Nat) (h : n < 18446744073709551616) : Go.bits .and .u64 (n : Int) 1 = ((n % 2 : Nat) : Int) := by
 have := bits_and_u64_nat n 1 h (by decide)
 rw [Nat.and_one_is_mod] at this
 exact this
end Go.Proofs.YtfcodmdckcihmaaDoor.P
namespace Go.Proofs.YtfcodmdckcihmaaDoor.P
open Go.RowKit Go.Proofs.YtfcodmdckcihmaaDoorW.PrintWords Go.Proofs.YtfcodmdckcihmaaDoorW.PrintLast Go.Proofs.YtfcodmdckcihmaaDoorW.PrintMore
set_option linter.unusedVariables false
set_option linter.unusedSimpArgs false
set_option linter.unnecessarySimpa false
attribute [local go_sem] sel_true
def SetPost (base a gl cl : Nat) (VV : Value) (gs : List RowG) (wd : Int) (ls : List SLeaf) (p : Nat) (x : SLeaf) (w : World) (e : Ending) (w' : World) : Prop :=
  e = .returned (.int .i64 (setI wd ls p x)) ∧ TreeOwn base w' a (treeT wd (setL wd ls p x)) gl cl VV gs ∧ Tch (parts gl gs) w w'
theorem SetPost.err {base a gl cl : Nat} {VV : Value} {gs : List RowG} {wd : Int} {ls : List SLeaf} {p : Nat} {x : SLeaf} {w w' : World} {e : Int} (hI : setI wd ls p x = e) (h0 : e ≠ 0) (hT : TreeOwn base w a (treeT wd ls) gl cl VV gs) (hB : Below w.heap.size w w') : SetPost base a gl cl VV gs wd ls p x w (.returned (.int .i64 e)) w' :=
  ⟨by rw [hI], by unfold setL; rw [if_neg (by rw [hI]; exact h0)]; exact hT.keep hB, .of hB⟩
theorem leafNode_k {wd : Int} {x : SLeaf} (hw : 1 ≤ wd ∧ wd ≤ 32) (hm : mayLeafI x = true) (hx : OkL x) : NodeK wd (leafNodeI wd x) := by
  refine ⟨?_, leafNodeI_ok wd x hx.ub⟩
  unfold leafNodeI
  rw [if_pos ⟨⟨by omega, by omega⟩, hm⟩]
  have e : ((dgI wd (leafTextI x)).size : Int) = wd := by rw [dgI_size _ _ (by omega) (by omega)]; omega
  simp only [nodeOf, e]
  simp
  omega
def waysL (wd : Int) (ls : List SLeaf) (p : Nat) (x : SLeaf) (n : Nat) : List SNode := (List.range n).map (wayV wd (ls.map (leafNodeI wd)) p (leafNodeI wd x))
theorem waysL_succ (wd : Int) (ls : List SLeaf) (p : Nat) (x : SLeaf) (n : Nat) : waysL wd ls p x (n + 1) = waysL wd ls p x n ++ [wayV wd (ls.map (leafNodeI wd)) p (leafNodeI wd x) n] := by
  unfold waysL; rw [List.range_succ, List.map_append]; rfl
theorem waysL_len (wd : Int) (ls : List SLeaf) (p : Nat) (x : SLeaf) (n : Nat) : (waysL wd ls p x n).length = n := by unfold waysL; simp
theorem treeR_of {base a gl cl gv cv K : Nat} {gs : List RowG} {wd : Int} {ls : List SLeaf} {V : World} (h : TreeOwn base V a (treeT wd ls) gl cl (.slice (some ⟨gv, 0, none⟩) (K + 1) cv) gs) (hr : (treeT wd ls).rows.length = K + 1) (hk : NewOk wd ls) (hn : ls.length ≤ 1024) : TreeR a (treeT wd ls) V := h.readT hk hn
structure StL (base a gl cl : Nat) (VV : Value) (gs : List RowG) (wd : Int) (ls : List SLeaf) (p : Nat) (x : SLeaf) (w : World) (i : Nat) (way : Value) (V : World) : Prop where
  b : Below w.heap.size w V
  t : TreeOwn base V a (treeT wd ls) gl cl VV gs
  o : V.ownsRow (w.heap.size + 1) 46 3 way (i + 1) (cellsN (waysL wd ls p x (i + 1)))
  k : ∀ j, j ≤ i → NodeK wd (wayV wd (ls.map (leafNodeI wd)) p (leafNodeI wd x) j)
  l : V.heap[w.heap.size]? = some (.cells (acL x) 36 (0, 0))
theorem StL.below {base a gl cl : Nat} {VV : Value} {gs : List RowG} {wd : Int} {ls : List SLeaf} {p : Nat} {x : SLeaf} {w : World} {i : Nat} {way : Value} {V V' : World} (h : StL base a gl cl VV gs wd ls p x w i way V) (hb : Below V.heap.size V V') : StL base a gl cl VV gs wd ls p x w i way V' :=
  ⟨h.b.trans (hb.mono h.b.size), h.t.keep hb, ownB h.o hb, h.k, blk_below h.l hb⟩
structure St12 (V W : World) (wn sn : SNode) (l : Nat → Bool) (γ δ : Nat) : Prop where
  b : Below V.heap.size V W
  h12 : l 12 = true → V.heap.size ≤ γ ∧ W.heap[γ]? = some (.cells (if l 14 = true then nodeA wn else nodeA nodeZ) 46 (0, 0))
  h13 : l 13 = true → V.heap.size ≤ δ ∧ W.heap[δ]? = some (.cells (if l 15 = true then nodeA sn else nodeA nodeZ) 46 (0, 0))
  ne : l 12 = true → l 13 = true → γ ≠ δ
  o14 : l 14 = true → l 12 = true
  o15 : l 15 = true → l 13 = true
section
variable {V W : World} {wn sn : SNode} {l : Nat → Bool} {γ δ : Nat}
theorem St12.start (V : World) (wn sn : SNode) : St12 V V.drew wn sn (fun _ => false) 0 0 := ⟨below_drew (Below.refl _ _), (fun h => by cases h), (fun h => by cases h), (fun h => by cases h), (fun h => by cases h), (fun h => by cases h)⟩
theorem St12.same (h : St12 V W wn sn l γ δ) (i : Nat) (hi : i < 12) : St12 V W wn sn (upd l i) γ δ := by
  have e12 : upd l i 12 = l 12 := upd_no (by omega)
  have e13 : upd l i 13 = l 13 := upd_no (by omega)
  have e14 : upd l i 14 = l 14 := upd_no (by omega)
  have e15 : upd l i 15 = l 15 := upd_no (by omega)
  exact ⟨h.b, by rw [e12, e14]; exact h.h12, by rw [e13, e15]; exact h.h13, by rw [e12, e13]; exact h.ne, by rw [e14, e12]; exact h.o14, by rw [e15, e13]; exact h.o15⟩
theorem St12.no12 (h : St12 V W wn sn l γ δ) (hl : l 12 = false) : l 14 = false := by
  cases hx : l 14 with
  | false => rfl
  | true => rw [h.o14 hx] at hl; cases hl
theorem St12.no13 (h : St12 V W wn sn l γ δ) (hl : l 13 = false) : l 15 = false := by
  cases hx : l 15 with
  | false => rfl
  | true => rw [h.o15 hx] at hl; cases hl
theorem St12.made12 (h : St12 V W wn sn l γ δ) (hl : l 12 = false) : St12 V (W.alloc (.cells #[.string ⟨#[]⟩, .int .u64 0, .int .u64 0] 46)) wn sn (upd l 12) W.heap.size δ := by
  have h14 : upd l 12 14 = false := h.no12 hl
  refine ⟨below_alloc h.b _, fun _ => ⟨h.b.size, ?_⟩, fun hx => ⟨(h.h13 hx).1, blk_alloc (h.h13 hx).2 _⟩, fun _ hx => ?_, (fun hx => by rw [h14] at hx; cases hx), h.o15⟩
  · rw [if_neg (by rw [h14]; decide)]; exact blk_new W _
  · have := blk_lt (h.h13 hx).2; omega
theorem St12.made13 (h : St12 V W wn sn l γ δ) (hl : l 13 = false) : St12 V (W.alloc (.cells #[.string ⟨#[]⟩, .int .u64 0, .int .u64 0] 46)) wn sn (upd l 13) γ W.heap.size := by
  have h15 : upd l 13 15 = false := h.no13 hl
  refine ⟨below_alloc h.b _, fun hx => ⟨(h.h12 hx).1, blk_alloc (h.h12 hx).2 _⟩, fun _ => ⟨h.b.size, ?_⟩, fun hx _ => ?_, h.o14, (fun hx => by rw [h15] at hx; cases hx)⟩
  · rw [if_neg (by rw [h15]; decide)]; exact blk_new W _
  · have := blk_lt (h.h12 hx).2; omega
theorem St12.stored14 (h : St12 V W wn sn l γ δ) (hl : l 14 = false) (h12 : l 12 = true) : St12 V (((W.setCell ⟨γ, 0, none⟩ (.string wn.f0)).setCell ⟨γ, 1, none⟩ (.int .u64 wn.f1.f0)).setCell ⟨γ, 2, none⟩ (.int .u64 wn.f1.f1)) wn sn (upd l 14) γ δ := by
  have hz := h.h12 h12
  rw [if_neg (by rw [hl]; decide)] at hz
  refine ⟨below_set (below_set (below_set h.b hz.1) hz.1) hz.1, fun _ => ⟨hz.1, ?_⟩, fun hx => ⟨(h.h13 hx).1, ?_⟩, h.ne, fun _ => h12, h.o15⟩
  · rw [if_pos (show upd l 14 14 = true from rfl)]; exact blk_put (blk_put (blk_put hz.2 0 _ rfl) 1 _ rfl) 2 _ rfl
  · have hne : δ ≠ γ := fun e => h.ne h12 hx e.symm
    exact blk_far (blk_far (blk_far (h.h13 hx).2 (by exact hne) _) (by exact hne) _) (by exact hne) _
theorem St12.stored15 (h : St12 V W wn sn l γ δ) (hl : l 15 = false) (h13 : l 13 = true) : St12 V (((W.setCell ⟨δ, 0, none⟩ (.string sn.f0)).setCell ⟨δ, 1, none⟩ (.int .u64 sn.f1.f0)).setCell ⟨δ, 2, none⟩ (.int .u64 sn.f1.f1)) wn sn (upd l 15) γ δ := by
  have hz := h.h13 h13
  rw [if_neg (by rw [hl]; decide)] at hz
  refine ⟨below_set (below_set (below_set h.b hz.1) hz.1) hz.1, fun hx => ⟨(h.h12 hx).1, ?_⟩, fun _ => ⟨hz.1, ?_⟩, h.ne, h.o14, fun _ => h13⟩
  · have hne : γ ≠ δ := fun e => h.ne hx h13 e
    exact blk_far (blk_far (blk_far (h.h12 hx).2 (by exact hne) _) (by exact hne) _) (by exact hne) _
  · rw [if_pos (show upd l 15 15 = true from rfl)]; exact blk_put (blk_put (blk_put hz.2 0 _ rfl) 1 _ rfl) 2 _ rfl
theorem St12.done (h : St12 V W wn sn l γ δ) (h12 : l 12 = true) (h13 : l 13 = true) (h14 : l 14 = true) (h15 : l 15 = true) : (V.heap.size ≤ γ ∧ W.heap[γ]? = some (.cells (nodeA wn) 46 (0, 0))) ∧ (V.heap.size ≤ δ ∧ W.heap[δ]? = some (.cells (nodeA sn) 46 (0, 0))) ∧ γ ≠ δ := by
  have a := h.h12 h12
  have b := h.h13 h13
  rw [if_pos h14] at a
  rw [if_pos h15] at b
  exact ⟨a, b, h.ne h12 h13⟩
end
theorem StL.next {base a gl cl : Nat} {VV : Value} {gs : List RowG} {wd : Int} {ls : List SLeaf} {p : Nat} {x : SLeaf} {w : World} {i : Nat} {way v' : Value} {V V' : World} {jn : SNode} (h : StL base a gl cl VV gs wd ls p x w i way V) (hT : TreeOwn base w a (treeT wd ls) gl cl VV gs) (hgr : V.grownBy V' way.ownBlock)
    (hown : V'.ownsRow (w.heap.size + 1) 46 3 v' (i + 1 + 1) (cellsN (waysL wd ls p x (i + 1)) ++ [.string jn.f0, .int .u64 jn.f1.f0, .int .u64 jn.f1.f1])) (hj : jn = wayV wd (ls.map (leafNodeI wd)) p (leafNodeI wd x) (i + 1)) (hk : NodeK wd jn) : StL base a gl cl VV gs wd ls p x w (i + 1) v' V' := by
  have hb := below_grown h.b hgr (fun r e => by have := (h.o.lt r e).1; omega)
  refine ⟨hb, hT.keep hb, ?_, fun j hj2 => ?_, (hgr.block _ (blk_lt h.l) (fun e => by have := (h.o.lt _ e.symm).1; omega)).trans h.l⟩
  · rw [waysL_succ, cellsN_append, ← hj]; exact hown
  · rcases Nat.lt_or_ge i j with h1 | h1
    · obtain rfl : j = i + 1 := by omega
      rw [← hj]; exact hk
    · exact h.k j h1
theorem ownBlk {w : World} {base g n cap size : Nat} {e : TypeId} {xs : List Value} (h : w.ownsRow base e size (.slice (some ⟨g, 0, none⟩) n cap) n xs) : ∃ cs, w.heap[g]? = some (.cells cs e (0, 0)) ∧ n * size ≤ cs.size := by
  rcases h.2 with ⟨h1, _⟩ | ⟨g', cap', cur, h1, _, h2, h3, _, h5, _⟩
  · cases h1
  · cases h1
    exact ⟨cur, h2, by rw [h5]; exact Nat.mul_le_mul_right _ h3⟩
theorem StL.zero {base a gl cl K : Nat} {VV : Value} {gs : List RowG} {wd : Int} {ls : List SLeaf} {p : Nat} {x : SLeaf} {w : World} {way : Value} {V : World} (h : StL base a gl cl VV gs wd ls p x w K way V) (hT : TreeOwn base w a (treeT wd ls) gl cl VV gs) (hK : ls.length = 2 ^ K) (hk : NewOk wd ls) (hp : p < ls.length) (hx : OkL x) (hm : mayLeafI x = true) : setI wd ls p x = 0 := by
  have hl : (ls.map (leafNodeI wd)).length = 2 ^ K := by rw [List.length_map]; exact hK
  have h1 := upV_set wd hl (p := p) (by omega) (leafNodeI wd x) K (Nat.le_refl _)
  have h2 := upV_tot wd (K := K) (l := (ls.map (leafNodeI wd)).set p (leafNodeI wd x)) (by rw [List.length_set]; exact hl) K (Nat.le_refl _)
  have h3 : (upV wd K (ls.map (leafNodeI wd))).length = 1 := by rw [upV_len2 hl K (Nat.le_refl _), Nat.sub_self]
  rw [Nat.div_eq_of_lt (by omega)] at h1
  have h4 := valU_lt (h.k K (Nat.le_refl _)).u
  rw [h1] at h2
  match e : upV wd K (ls.map (leafNodeI wd)), h3 with
  | [y], _ =>
    rw [e, List.set_cons_zero] at h2
    unfold setI
    rw [if_neg (show ¬ ls.length ≤ p by omega), if_neg (by rw [hm]; decide), List.map_set, ← h2, totL, totL, if_pos (by omega)]
def rowsM (wd : Int) (ls : List SLeaf) (p : Nat) (x : SLeaf) (j : Nat) : List (List SNode) := (treeT wd (ls.set p x)).rows.take j ++ (treeT wd ls).rows.drop j
structure StP (base a gl cl : Nat) (VV : Value) (gs : List RowG) (wd : Int) (ls : List SLeaf) (p : Nat) (x : SLeaf) (w : World) (K : Nat) (way : Value) (j : Nat) (V : World) : Prop where
  c : Tch (parts gl gs) w V
  t : TreeOwn base V a ⟨wd, ls.set p x, rowsM wd ls p x j⟩ gl cl VV gs
  o : V.ownsRow (w.heap.size + 1) 46 3 way (K + 1) (cellsN (waysL wd ls p x (K + 1)))
section
variable {base a gl cl : Nat} {VV : Value} {gs : List RowG} {wd : Int} {ls : List SLeaf} {p : Nat} {x : SLeaf} {w : World} {K : Nat} {way : Value} {j : Nat} {V V' : World}
theorem StP.below (h : StP base a gl cl VV gs wd ls p x w K way j V) (hb : Below V.heap.size V V') : StP base a gl cl VV gs wd ls p x w K way j V' := ⟨h.c.below hb, h.t.keep hb, ownB h.o hb⟩
theorem StP.start (h : StL base a gl cl VV gs wd ls p x w K way V) (hT : TreeOwn base w a (treeT wd ls) gl cl VV gs) (hp : p < ls.length) :
    StP base a gl cl VV gs wd ls p x w K way 0 (((((V.setCell ⟨gl, p * 5, none⟩ (.bool x.f0)).setCell ⟨gl, p * 5 + 1, none⟩ (.string x.f1)).setCell ⟨gl, p * 5 + 2, none⟩ (.string x.f2)).setCell ⟨gl, p * 5 + 3, none⟩ (.int .u64 x.f3.f0)).setCell ⟨gl, p * 5 + 4, none⟩ (.int .u64 x.f3.f1)).drew := by
  have hm : gl ∈ parts gl gs := List.mem_cons_self ..
  have hg := (hT.lt gl hm).2
  have hk : ∀ k, way.ownBlock = some k → k ≠ gl := fun k e => by have := (h.o.lt k e).1; omega
  refine StP.below ⟨(((((Tch.of h.b).set _ (.inl hm)).set _ (.inl hm)).set _ (.inl hm)).set _ (.inl hm)).set _ (.inl hm), h.t.putLeaf x hp, ?_⟩ (below_drew (Below.refl _ _))
  exact ownAny_keep h.o (fun g e => (Below.heap_setCell _ _ _ _ (hk g e)).trans ((Below.heap_setCell _ _ _ _ (hk g e)).trans ((Below.heap_setCell _ _ _ _ (hk g e)).trans ((Below.heap_setCell _ _ _ _ (hk g e)).trans (Below.heap_setCell _ _ _ _ (hk g e))))))
theorem rowsM_get (hn : (treeT wd ls).rows.length = K + 1) (hn2 : (treeT wd (ls.set p x)).rows.length = K + 1) (hj : j < K + 1) : (rowsM wd ls p x j)[j]? = (treeT wd ls).rows[j]? := by
  unfold rowsM
  rw [List.getElem?_append_right (by rw [List.length_take]; omega), List.length_take, List.getElem?_drop]
  congr 1
  omega
theorem rowsM_len (hn : (treeT wd ls).rows.length = K + 1) (hn2 : (treeT wd (ls.set p x)).rows.length = K + 1) (hj : j ≤ K + 1) : (rowsM wd ls p x j).length = K + 1 := by
  unfold rowsM
  rw [List.length_append, List.length_take, List.length_drop]
  omega
theorem rowsM_set {r : List SNode} (hn : (treeT wd ls).rows.length = K + 1) (hn2 : (treeT wd (ls.set p x)).rows.length = K + 1) (hj : j < K + 1) (hr : (treeT wd (ls.set p x)).rows[j]? = some r) : (rowsM wd ls p x j).set j r = rowsM wd ls p x (j + 1) := by
  unfold rowsM
  have e : ((treeT wd (ls.set p x)).rows.take j).length = j := by rw [List.length_take]; omega
  have hd : (treeT wd ls).rows.drop j = (treeT wd ls).rows[j]'(by omega) :: (treeT wd ls).rows.drop (j + 1) := List.drop_eq_getElem_cons (by omega)
  rw [List.set_append_right _ _ (by omega), e, Nat.sub_self, hd, List.set_cons_zero]
  have ht : (treeT wd (ls.set p x)).rows.take (j + 1) = (treeT wd (ls.set p x)).rows.take j ++ [r] := by
    rw [List.take_add_one, hr]; rfl
  rw [ht, List.append_assoc]; rfl
theorem StP.put {pr : RowG} {q : Nat} {r : List SNode} {n : SNode} (h : StP base a gl cl VV gs wd ls p x w K way j V) (hT : TreeOwn base w a (treeT wd ls) gl cl VV gs) (hn : (treeT wd ls).rows.length = K + 1) (hn2 : (treeT wd (ls.set p x)).rows.length = K + 1) (hj : j < K + 1) (hp : gs[j]? = some pr) (hr : (rowsM wd ls p x j)[j]? = some r) (hq : q < r.length) (hs : (treeT wd (ls.set p x)).rows[j]? = some (r.set q n)) :
    StP base a gl cl VV gs wd ls p x w K way (j + 1) (((V.setCell ⟨pr.1, q * 3, none⟩ (.string n.f0)).setCell ⟨pr.1, q * 3 + 1, none⟩ (.int .u64 n.f1.f0)).setCell ⟨pr.1, q * 3 + 2, none⟩ (.int .u64 n.f1.f1)) := by
  have hm : pr.1 ∈ parts gl gs := List.mem_cons_of_mem _ (List.mem_map.2 ⟨pr, List.mem_of_getElem? hp, rfl⟩)
  have hg := (hT.lt pr.1 hm).2
  have hk : ∀ k, way.ownBlock = some k → k ≠ pr.1 := fun k e => by have := (h.o.lt k e).1; omega
  have ht := h.t.putNode n hp hr hq
  rw [rowsM_set hn hn2 hj hs] at ht
  refine ⟨((h.c.set _ (.inl hm)).set _ (.inl hm)).set _ (.inl hm), ht, ?_⟩
  exact ownAny_keep h.o (fun g e => (Below.heap_setCell _ _ _ _ (hk g e)).trans ((Below.heap_setCell _ _ _ _ (hk g e)).trans (Below.heap_setCell _ _ _ _ (hk g e))))
theorem StP.done (h : StP base a gl cl VV gs wd ls p x w K way (K + 1) V) (hn : (treeT wd ls).rows.length = K + 1) (hn2 : (treeT wd (ls.set p x)).rows.length = K + 1) (hz : setI wd ls p x = 0) : SetPost base a gl cl VV gs wd ls p x w (.returned (.int .i64 0)) V := by
  refine ⟨by rw [hz], ?_, h.c⟩
  have e : setL wd ls p x = ls.set p x := by unfold setL; rw [if_pos hz]
  have e2 : rowsM wd ls p x (K + 1) = (treeT wd (ls.set p x)).rows := by
    unfold rowsM; rw [List.take_of_length_le (by omega), List.drop_of_length_le (by omega), List.append_nil]
  have ht := h.t
  rw [e2] at ht
  rw [e]
  exact ht
end
set_option maxRecDepth 100000 in
set_option maxHeartbeats 4000000 in
theorem tSet.calls (base ta gl cl : Nat) (VV : Value) (gs : List RowG) (wd : Int) (ls : List SLeaf) (p : Nat) (x : SLeaf) (w : World) (hK : LaidT w) (hT : TreeOwn base w ta (treeT wd ls) gl cl VV gs) (hk : NewOk wd ls) (hn : ls.length ≤ 1024) (hx : OkL x) (hp : p < 18446744073709551616) :
    Calls Tryd.prog 27 #[ptrT ta, .int .u64 (p : Int), leafV x] w (SetPost base ta gl cl VV gs wd ls p x w) := by
  have HK := aM' hK
  have HT := aM' hT
  have HKK := aM' hk
  have HN := aM' hn
  have HX := aM' hx
  have HP := aM' hp
  obtain ⟨W1, hW1⟩ : ∃ V, V = w.alloc (.cells (acL x) 36) := ⟨_, rfl⟩
  have hb1 : Below w.heap.size w W1 := by rw [hW1]; exact below_alloc (Below.refl _ _) _
  have hx1 : W1.heap[w.heap.size]? = some (.cells (acL x) 36 (0, 0)) := by rw [hW1]; exact blk_new _ _
  have hT1 := hT.keep hb1
  have q := aM' (tNone.calls ta _ W1 (hT1.readT hk hn))
  have c1 : W1.cell? ⟨ta, 1, none⟩ = some (.slice (some ⟨gl, 0, none⟩) ls.length cl) := blk_cell hT1.ht 1
  have x0 := blk_cell hx1 0
  have x1 := blk_cell hx1 1
  have x2 := blk_cell hx1 2
  have x3 := blk_cell hx1 3
  have x4 := blk_cell hx1 4
  simp at x0 x1 x2 x3 x4
  have hw : IntKind.u64.wrap ((ls.length : Nat) : Int) = (ls.length : Int) := wrapu64_id (by omega) (by omega)
  have HB1 := aM' hb1
  have HX1 := aM' hx1
  clear hK hT hk hn hx hp hb1 hx1 hT1
  obtain ⟨i0, hi, hz0, hz1, hz2⟩ := info_parts nodeInfo
  have hu := Tryd.underlying105
  obtain ⟨K, hK⟩ : ∃ K, K = ls.length.log2 := ⟨_, rfl⟩
  have hrl : (treeT wd ls).rows.length = K + 1 := by
    have h : (treeT wd ls).rows = levelsV wd ls.length.log2 (ls.map (leafNodeI wd)) := rfl
    rw [h, levelsV_len, hK]
  have hKl : ls.length = 2 ^ K := by rw [hK]; exact HKK.out.p
  obtain ⟨gv, cv, rfl, hcv, -, hgv⟩ := HT.out.levels (by rw [hrl]; omega)
  rw [hrl] at hcv HT
  have HRL := aM' hrl
  have HKL := aM' hKl
  have HCV := aM' hcv
  have HGV := aM' hgv
  have HK10 := aM' (show K ≤ 10 by
    rcases Nat.lt_or_ge 10 K with h1 | h1
    · have h2 := Nat.pow_le_pow_right (n := 2) (by decide) (show 11 ≤ K by omega)
      have := HN.out
      omega
    · exact h1)
  rw [hrl]
  clear hK hrl hKl hcv hgv
  by_cases hlt : p < ls.length
  case neg =>
    have b1 : decide ((ls.length : Int) ≤ (p : Int)) = true := decide_eq_true (by omega)
    have b2 : decide (ls.length ≤ p) = true := decide_eq_true (by omega)
    have HI := aM' (show setI wd ls p x = 2 by unfold setI; rw [if_pos (by omega)])
    clear hlt
    go_enter Tryd.func27, Tryd.ntmps27
    go_wp2_with fail
    rw [← hW1]
    clear hW1
    refine q.out.mono ?_
    rintro e w1 ⟨rfl, rfl⟩
    go_wp2
    go_ret
    exact SetPost.err HI.out (by decide) HT.out HB1.out
  case pos =>
    have b1 : decide ((ls.length : Int) ≤ (p : Int)) = false := decide_eq_false (by omega)
    have b2 : decide (ls.length ≤ p) = false := decide_eq_false (by omega)
    have HLT := aM' hlt
    have HM := aM' (tagMayLeaf_eq x HX.out.id)
    clear hlt
    go_enter Tryd.func27, Tryd.ntmps27
    go_wp2_with fail
    rw [← hW1]
    clear hW1
    refine q.out.mono ?_
    rintro e w1 ⟨rfl, rfl⟩
    go_wp2_with fail
    refine (tag_MayLeaf.calls x.f0 x.f1 x.f2 x.f3.f0 x.f3.f1 (mayLeafI x) _ (HK.out.below HB1.out) HM.out).mono ?_
    rintro e w2 ⟨rfl, hb⟩
    have HB2 := aM' (HB1.out.trans (hb.mono HB1.out.size))
    have HX2 := aM' (blk_below HX1.out hb)
    clear hb b1 b2 c1 x0 x1 x2 x3 x4 hw q HX1
    cases hml : mayLeafI x with
    | false =>
      have HI := aM' (show setI wd ls p x = 130 by unfold setI; rw [if_neg (by have := HLT.out; omega), if_pos hml])
      clear hml
      go_wp2
      go_ret
      exact SetPost.err HI.out (by decide) HT.out HB2.out
    | true =>
      have HML := aM' hml
      clear hml
      obtain ⟨kl, hkl⟩ := (tagLeafNode_ev wd x HX.out.id HX.out.sa).rounds
      have HLN := aM' hkl
      clear hkl
      have HA2 := aM' (show w2.heap[ta]? = some (.cells #[.int .i64 wd, .slice (some ⟨gl, 0, none⟩) ls.length cl, .slice (some ⟨gv, 0, none⟩) (K + 1) cv] 105 (0, 0)) from (HT.out.keep HB2.out).ht)
      obtain ⟨ln, hln⟩ : ∃ n, n = leafNodeI wd x := ⟨_, rfl⟩
      rw [← hln] at HLN
      have HLNE := aM' hln
      clear hln
      go_upto_region 7 with (fail)
      refine wp_forget (fun y => ({ tmps := List.toArray (.pointer (some ⟨ta, 0, none⟩) :: .int .u64 (p : Int) :: leafV x :: y 3 :: y 4 :: .pointer (some ⟨w.heap.size, 0, none⟩) :: .int .i64 0 :: y 7 :: y 8 :: y 9 :: y 10 :: y 11 :: y 12 :: y 13 :: y 14 :: y 15 :: y 16 :: y 17 :: y 18 :: y 19 :: y 20 :: y 21 :: y 22 :: y 23 :: y 24 :: y 25 :: y 26 :: y 27 :: y 28 :: y 29 :: y 30 :: y 31 :: y 32 :: y 33 :: y 34 :: y 35 :: y 36 :: y 37 :: y 38 :: y 39 :: y 40 :: y 41 :: y 42 :: y 43 :: y 44 :: y 45 :: y 46 :: y 47 :: y 48 :: y 49 :: y 50 :: y 51 :: y 52 :: y 53 :: y 54 :: y 55 :: y 56 :: y 57 :: y 58 :: y 59 :: y 60 :: y 61 :: y 62 :: y 63 :: y 64 :: y 65 :: y 66 :: y 67 :: y 68 :: y 69 :: y 70 :: y 71 :: y 72 :: y 73 :: y 74 :: y 75 :: y 76 :: y 77 :: y 78 :: y 79 :: y 80 :: y 81 :: y 82 :: y 83 :: y 84 :: y 85 :: y 86 :: y 87 :: y 88 :: y 89 :: y 90 :: y 91 :: y 92 :: y 93 :: y 94 :: y 95 :: y 96 :: y 97 :: y 98 :: y 99 :: y 100 :: y 101 :: y 102 :: y 103 :: y 104 :: y 105 :: y 106 :: y 107 :: y 108 :: y 109 :: y 110 :: y 111 :: y 112 :: y 113 :: y 114 :: y 115 :: y 116 :: y 117 :: y 118 :: []), defers := [] } : Act)) rfl ?_
      intro y
      refine region_inv (fun l a W => ∃ γ : Nat, a = ({ tmps := #[.pointer (some ⟨ta, 0, none⟩), .int .u64 (p : Int), leafV x, y 3, y 4, .pointer (some ⟨w.heap.size, 0, none⟩), .int .i64 0, sel (l 7) (.slice (some ⟨γ, 0, none⟩) 1 1) (y 7), y 8, y 9, y 10, y 11, y 12, y 13, y 14, y 15, y 16, y 17, y 18, y 19, y 20, y 21, y 22, y 23, y 24, y 25, y 26, y 27, y 28, y 29, y 30, y 31, y 32, sel (l 0) (.pointer (some ⟨ta, 0, none⟩)) (y 33), sel (l 1) (.pointer (some ⟨ta, 0, none⟩)) (y 34), sel (l 2) (.pointer (some ⟨ta, 0, none⟩)) (y 35), sel (l 3) (.int .i64 wd) (y 36), sel (l 4) (.agg #[.bool x.f0, .string x.f1, .string x.f2, .int .u64 x.f3.f0, .int .u64 x.f3.f1]) (y 37), sel (l 5) (.agg #[.string ln.f0, .int .u64 ln.f1.f0, .int .u64 ln.f1.f1]) (y 38), sel (l 6) (.slice (some ⟨γ, 0, none⟩) 1 1) (y 39), y 40, y 41, y 42, y 43, y 44, y 45, y 46, y 47, y 48, y 49, y 50, y 51, y 52, y 53, y 54, y 55, y 56, y 57, y 58, y 59, y 60, y 61, y 62, y 63, y 64, y 65, y 66, y 67, y 68, y 69, y 70, y 71, y 72, y 73, y 74, y 75, y 76, y 77, y 78, y 79, y 80, y 81, y 82, y 83, y 84, y 85, y 86, y 87, y 88, y 89, y 90, y 91, y 92, y 93, y 94, y 95, y 96, y 97, y 98, y 99, y 100, y 101, y 102, y 103, y 104, y 105, y 106, y 107, y 108, y 109, y 110, y 111, y 112, y 113, y 114, y 115, y 116, y 117, y 118], defers := [] } : Act) ∧ (Below w2.heap.size w2 W ∧ (l 6 = true → w2.heap.size ≤ γ ∧ W.heap[γ]? = some (.cells #[.string ln.f0, .int .u64 ln.f1.f0, .int .u64 ln.f1.f1] 46 (0, 0))) ∧ (l 7 = true → l 6 = true))) 8 rfl rfl (by kernel_rfl) ?h0 ?hend ?hstep
      case h0 => exact ⟨0, rfl, below_drew (Below.refl _ _), (fun h => by cases h), (fun h => by cases h)⟩
      case hstep =>
        refine rg_cons (rg_cons (rg_cons (rg_cons (rg_cons (rg_cons (rg_cons (rg_cons (rg_nil) ?s0) ?s1) ?s2) ?s3) ?s4) ?s5) ?s6) ?s7
        case s0 =>
          refine rg_step rfl ?_
          rintro l a W ⟨γ, rfl, hI⟩ hl hd
          clear hd
          refine rg_val (v := .pointer (some ⟨ta, 0, none⟩)) (w' := W) rfl (by go_simp) ?_
          refine ⟨γ, ?_, ?_⟩
          · simp only [Act.put, List.setIfInBounds_toArray, List.set_cons_zero, List.set_cons_succ]; rfl
          · exact hI
        case s1 =>
          refine rg_step rfl ?_
          rintro l a W ⟨γ, rfl, hI⟩ hl hd
          have d0 := hd 0 (by decide)
          clear hd
          refine rg_val (v := .pointer (some ⟨ta, 0, none⟩)) (w' := W) rfl (by go_simp) ?_
          refine ⟨γ, ?_, ?_⟩
          · simp only [Act.put, List.setIfInBounds_toArray, List.set_cons_zero, List.set_cons_succ]; rfl
          · exact hI
        case s2 =>
          refine rg_step rfl ?_
          rintro l a W ⟨γ, rfl, hI⟩ hl hd
          have d1 := hd 1 (by decide)
          clear hd
          refine rg_val (v := .pointer (some ⟨ta, 0, none⟩)) (w' := W) rfl (by go_simp) ?_
          refine ⟨γ, ?_, ?_⟩
          · simp only [Act.put, List.setIfInBounds_toArray, List.set_cons_zero, List.set_cons_succ]; rfl
          · exact hI
        case s3 =>
          refine rg_step rfl ?_
          rintro l a W ⟨γ, rfl, hI⟩ hl hd
          have d2 := hd 2 (by decide)
          clear hd
          have x0 := blk_cell (blk_below HA2.out hI.1) 0
          simp at x0
          refine rg_val (v := .int .i64 wd) (w' := W) rfl (by go_simp) ?_
          refine ⟨γ, ?_, ?_⟩
          · simp only [Act.put, List.setIfInBounds_toArray, List.set_cons_zero, List.set_cons_succ]; rfl
          · exact hI
        case s4 =>
          refine rg_step rfl ?_
          rintro l a W ⟨γ, rfl, hI⟩ hl hd
          clear hd
          have x0 := blk_cell (blk_below HX2.out hI.1) 0
          have x1 := blk_cell (blk_below HX2.out hI.1) 1
          have x2 := blk_cell (blk_below HX2.out hI.1) 2
          have x3 := blk_cell (blk_below HX2.out hI.1) 3
          have x4 := blk_cell (blk_below HX2.out hI.1) 4
          simp at x0 x1 x2 x3 x4
          refine rg_val (v := .agg #[.bool x.f0, .string x.f1, .string x.f2, .int .u64 x.f3.f0, .int .u64 x.f3.f1]) (w' := W) rfl (by go_simp) ?_
          refine ⟨γ, ?_, ?_⟩
          · simp only [Act.put, List.setIfInBounds_toArray, List.set_cons_zero, List.set_cons_succ]; rfl
          · exact hI
        case s5 =>
          refine rg_step rfl ?_
          rintro l a W ⟨γ, rfl, hI⟩ hl hd
          have d3 := hd 3 (by decide)
          have d4 := hd 4 (by decide)
          clear hd
          refine rg_call rfl (by go_simp; exact ⟨rfl, rfl⟩) ?_
          refine (tag_LeafNode.calls kl wd x.f0 x.f1 x.f2 x.f3.f0 x.f3.f1 ln.f0 ln.f1.f0 ln.f1.f1 W (HK.out.below (HB2.out.trans (hI.1.mono HB2.out.size))) HLN.out).mono ?_
          rintro ee W' ⟨rfl, hb⟩
          refine ⟨_, rfl, γ, ?_, ?_⟩
          · simp only [Act.put, List.setIfInBounds_toArray, List.set_cons_zero, List.set_cons_succ]; rfl
          · exact ⟨hI.1.trans (hb.mono hI.1.size), fun h => ⟨(hI.2.1 h).1, blk_below (hI.2.1 h).2 hb⟩, hI.2.2⟩
        case s6 =>
          refine rg_step rfl ?_
          rintro l a W ⟨γ, rfl, hI⟩ hl hd
          have d5 := hd 5 (by decide)
          clear hd
          have h7 : l 7 = false := by
            cases hx : l 7 with
            | false => rfl
            | true => have := hI.2.2 hx; rw [hl] at this; cases this
          have h7' : upd l 6 7 = false := h7
          refine rg_val (v := .slice (some ⟨W.heap.size, 0, none⟩) 1 1) (w' := W.alloc (.cells #[.string ln.f0, .int .u64 ln.f1.f0, .int .u64 ln.f1.f1] 46)) rfl (by go_simp) ?_
          refine ⟨W.heap.size, ?_, ?_⟩
          · simp only [Act.put, List.setIfInBounds_toArray, List.set_cons_zero, List.set_cons_succ, h7, h7']; rfl
          · exact ⟨below_alloc hI.1 _, fun _ => ⟨hI.1.size, blk_new W _⟩, fun _ => rfl⟩
        case s7 =>
          refine rg_step rfl ?_
          rintro l a W ⟨γ, rfl, hI⟩ hl hd
          have d6 := hd 6 (by decide)
          clear hd
          refine rg_val (v := .slice (some ⟨γ, 0, none⟩) 1 1) (w' := W) rfl (by go_simp) ?_
          refine ⟨γ, ?_, ?_⟩
          · simp only [Act.put, List.setIfInBounds_toArray, List.set_cons_zero, List.set_cons_succ]; rfl
          · exact ⟨hI.1, hI.2.1, fun _ => d6⟩
      case hend =>
        rintro l a W ⟨γ, rfl, hI⟩ hall
        have e0 := hall 0 (by decide)
        have e1 := hall 1 (by decide)
        have e2 := hall 2 (by decide)
        have e3 := hall 3 (by decide)
        have e4 := hall 4 (by decide)
        have e5 := hall 5 (by decide)
        have e6 := hall 6 (by decide)
        have e7 := hall 7 (by decide)
        clear hall
        have hn := hI.2.1 e6
        simp only [e0, e1, e2, e3, e4, e5, e6, e7, sel_true]
        clear e0 e1 e2 e3 e4 e5 e6 e7
        obtain ⟨hB, -, -⟩ := hI
        have hb4 : Below w.heap.size w W := HB2.out.trans (hB.mono HB2.out.size)
        have hs2 := blk_lt HX2.out
        have hS4 : StL base ta gl cl (.slice (some ⟨gv, 0, none⟩) (K + 1) cv) gs wd ls p x w 0 (.slice (some ⟨γ, 0, none⟩) 1 1) W := by
          refine ⟨hb4, HT.out.keep hb4, ⟨rfl, .inr ⟨γ, 1, #[.string ln.f0, .int .u64 ln.f1.f0, .int .u64 ln.f1.f1], rfl, by omega, hn.2, Nat.le_refl _, by decide, rfl, ?_⟩⟩, ?_, blk_below HX2.out hB⟩
          · rw [HLNE.out]; rfl
          · intro j hj
            obtain rfl : j = 0 := by omega
            exact leafNode_k HKK.out.w HML.out HX.out
        have HS4 := aM' hS4
        have t2 : W.cell? ⟨ta, 2, none⟩ = some (.slice (some ⟨gv, 0, none⟩) (K + 1) cv) := blk_cell hS4.t.ht 2
        have CH := aM' (fun (V : World) (h : TreeR ta (treeT wd ls) V) => by have q := tHeight.calls ta _ V h; rw [HRL.out, show ((K + 1 : Nat) : Int) - 1 = (K : Int) by omega] at q; exact q)
        have hkc : K ≤ cv := by have := HCV.out; omega
        clear hB hb4 hs2 hS4 hn
        go_wp2_with fail
        have HR4 := aM' (fun n => treeR_of (HS4.out.below (pw_below_drewN (Below.refl _ _) n)).t HRL.out HKK.out HN.out)
        go_quiet (exact Calls.quiet_of_same ((CH.out _ (HR4.out _)).mono fun e w' h => ⟨h.1, h.2.symm⟩))
        obtain ⟨W5, hW5⟩ : ∃ V, V = W.drewN nq := ⟨_, rfl⟩
        have HS5 := aM' (HS4.out.below (pw_below_drewN (Below.refl _ _) nq))
        rw [← hW5] at HS5
        simp only [← hW5]
        clear hW5 t2 HR4 HS4 CH hkc HA2 HX2 HB2 HLN HLNE HB1
        go_wp2
        refine wp_forget (fun y => ({ tmps := List.toArray (.pointer (some ⟨ta, 0, none⟩) :: .int .u64 (p : Int) :: leafV x :: y 3 :: y 4 :: .pointer (some ⟨w.heap.size, 0, none⟩) :: .int .i64 0 :: .slice (some ⟨γ, 0, none⟩) 1 1 :: .int .u64 (p : Int) :: y 9 :: y 10 :: y 11 :: y 12 :: y 13 :: y 14 :: y 15 :: y 16 :: y 17 :: y 18 :: y 19 :: y 20 :: y 21 :: y 22 :: y 23 :: y 24 :: y 25 :: y 26 :: y 27 :: y 28 :: y 29 :: y 30 :: y 31 :: y 32 :: y 33 :: y 34 :: y 35 :: y 36 :: y 37 :: y 38 :: y 39 :: y 40 :: y 41 :: y 42 :: y 43 :: y 44 :: y 45 :: y 46 :: .slice (some ⟨gv, 0, none⟩) K cv :: .int .i64 (K : Int) :: .int .i64 0 :: y 50 :: y 51 :: y 52 :: y 53 :: y 54 :: y 55 :: y 56 :: y 57 :: y 58 :: y 59 :: y 60 :: y 61 :: y 62 :: y 63 :: y 64 :: y 65 :: y 66 :: y 67 :: y 68 :: y 69 :: y 70 :: y 71 :: y 72 :: y 73 :: y 74 :: y 75 :: y 76 :: y 77 :: y 78 :: y 79 :: y 80 :: y 81 :: y 82 :: y 83 :: y 84 :: y 85 :: y 86 :: y 87 :: y 88 :: y 89 :: y 90 :: y 91 :: y 92 :: y 93 :: y 94 :: y 95 :: y 96 :: y 97 :: y 98 :: y 99 :: y 100 :: y 101 :: y 102 :: y 103 :: y 104 :: y 105 :: y 106 :: y 107 :: y 108 :: y 109 :: y 110 :: y 111 :: y 112 :: y 113 :: y 114 :: y 115 :: y 116 :: y 117 :: y 118 :: []), defers := [] } : Act)) rfl ?_
        intro y
        go_loopw [7, 8, 49] (fun v7 v8 v49 wr => ∃ i q : Nat, v49 = .int .i64 (i : Int) ∧ v8 = .int .u64 (q : Int) ∧ Aside0 (i ≤ K ∧ q = p / 2 ^ i) ∧ Aside0 (StL base ta gl cl (.slice (some ⟨gv, 0, none⟩) (K + 1) cv) gs wd ls p x w i v7 wr)) (fun _ _ v49 _ => K - (intOf v49).toNat)
        case atStart => exact ⟨0, p, rfl, rfl, ⟨⟨Nat.zero_le _, by rw [Nat.pow_zero, Nat.div_one]⟩⟩, HS5⟩
        case round =>
          obtain ⟨i, q, rfl, rfl, HI, HS⟩ := hrel
          obtain ⟨g7, c7, rfl, -, hg7⟩ := HS.out.o.form (by omega)
          have hK10 := HK10.out
          have HG7 := aM' hg7
          clear hg7
          by_cases hlt : i < K
          · have b1 : decide ((i : Int) < (K : Int)) = true := decide_eq_true (by omega)
            have b2 : decide (i < K) = true := decide_eq_true hlt
            have hrow : (treeT wd ls).rows[i]? = some (upV wd i (ls.map (leafNodeI wd))) := levelsV_get wd _ i _ (by have := HRL.out; have h : (treeT wd ls).rows = levelsV wd ls.length.log2 (ls.map (leafNodeI wd)) := rfl; rw [h, levelsV_len] at this; omega)
            obtain ⟨pr, hpr, l0, l1, hrc, hrd, hpm, cs, hpb, hpc⟩ := TreeOwn.level (cv := cv) (by rw [HRL.out]; exact HS.out.t) hrow
            obtain ⟨r, hr⟩ : ∃ r, r = upV wd i (ls.map (leafNodeI wd)) := ⟨_, rfl⟩
            rw [← hr] at hrow l0 hrc hrd hpc
            have hq := div_lt (by rw [← HKL.out]; exact HLT.out) (show i ≤ K by omega)
            have hrl : r.length = 2 ^ (K - i) := by rw [hr]; exact upV_len2 (by rw [List.length_map]; exact HKL.out) i (by omega)
            obtain ⟨sq, hsq⟩ : ∃ s, s = besN (p / 2 ^ i) := ⟨_, rfl⟩
            have hnk := besV_k (w := wd) (K := K) (by rw [List.length_map]; exact HKL.out) HKK.out.k HKK.out.t (by rw [← HKL.out]; exact HLT.out) i hlt
            have hsl : sq < r.length := by rw [hsq, hr]; exact hnk.2
            obtain ⟨wn, hwn⟩ : ∃ n, n = wayV wd (ls.map (leafNodeI wd)) p (leafNodeI wd x) i := ⟨_, rfl⟩
            obtain ⟨sn, hsn⟩ : ∃ n, n = besV wd (ls.map (leafNodeI wd)) p i := ⟨_, rfl⟩
            have HXX := aM' (show Go.bits .xor .u64 (q : Int) 1 = (sq : Int) by rw [hsq, HI.out.2]; exact bits_bes _ (Nat.lt_of_le_of_lt (Nat.div_le_self _ _) HP.out))
            have HSQ := aM' hsl
            have HSN := aM' (show NodeK wd sn by rw [hsn]; exact hnk.1)
            have HWN := aM' (show NodeK wd wn by rw [hwn]; exact HS.out.k i (Nat.le_refl _))
            have HW1 := aM' (show wayV wd (ls.map (leafNodeI wd)) p (leafNodeI wd x) (i + 1) = (if q % 2 = 1 then joinV wd sn wn else joinV wd wn sn) by rw [hsn, hwn, HI.out.2]; rfl)
            have hsr : r[sq] = sn := by
              have : besV wd (ls.map (leafNodeI wd)) p i = r.getD sq zeroN := by rw [hr, hsq]; rfl
              rw [hsn, this, List.getD_eq_getElem?_getD, List.getElem?_eq_getElem hsl]; rfl
            have hwr : (waysL wd ls p x (i + 1))[i]? = some wn := by
              rw [waysL_succ, List.getElem?_append_right (by rw [waysL_len]; omega), waysL_len, Nat.sub_self, hwn]; rfl
            have hcs := HS.out.o.cells (g := g7) rfl
            have ea : ∀ n, (⟨g7, 0, none⟩ : Addr).add n = ⟨g7, n, none⟩ := fun n => by unfold Addr.add; split <;> simp_all
            have eb : ∀ n, (⟨pr.1, 0, none⟩ : Addr).add n = ⟨pr.1, n, none⟩ := fun n => by unfold Addr.add; split <;> simp_all
            have w0 := cellsN_get _ i 0 wn hwr (by decide)
            have w1' := cellsN_get _ i 1 wn hwr (by decide)
            have w2' := cellsN_get _ i 2 wn hwr (by decide)
            have W0 := hcs _ _ w0
            have W1 := hcs _ _ w1'
            have W2' := hcs _ _ w2'
            rw [ea] at W0 W1 W2'
            obtain ⟨ad, e1, p0, p1, p2⟩ := at_TNode hrd (sq : Int) (by omega) (by omega)
            cases e1
            rw [rdNode_nat r sq hsl, Int.toNat_natCast, hsr] at p0 p1 p2
            rw [eb] at p0 p1 p2
            have hb11 := below_alloc (Below.refl wr.heap.size wr) (.cells #[rowV pr r, .int .i64 (i : Int)] 109)
            have EW := aM' (show (wr.alloc (.cells #[rowV pr r, .int .i64 (i : Int)] 109)).cell? ⟨g7, i * 3, none⟩ = some (.string wn.f0) ∧ (wr.alloc (.cells #[rowV pr r, .int .i64 (i : Int)] 109)).cell? ⟨g7, i * 3 + 1, none⟩ = some (.int .u64 wn.f1.f0) ∧ (wr.alloc (.cells #[rowV pr r, .int .i64 (i : Int)] 109)).cell? ⟨g7, i * 3 + 2, none⟩ = some (.int .u64 wn.f1.f1) from ⟨pw_cell_below hb11 W0, pw_cell_below hb11 W1, pw_cell_below hb11 W2'⟩)
            have ES := aM' (show (wr.alloc (.cells #[rowV pr r, .int .i64 (i : Int)] 109)).cell? ⟨pr.1, sq * 3, none⟩ = some (.string sn.f0) ∧ (wr.alloc (.cells #[rowV pr r, .int .i64 (i : Int)] 109)).cell? ⟨pr.1, sq * 3 + 1, none⟩ = some (.int .u64 sn.f1.f0) ∧ (wr.alloc (.cells #[rowV pr r, .int .i64 (i : Int)] 109)).cell? ⟨pr.1, sq * 3 + 2, none⟩ = some (.int .u64 sn.f1.f1) from ⟨pw_cell_below hb11 p0, pw_cell_below hb11 p1, pw_cell_below hb11 p2⟩)
            have H10 := aM' (blk_new wr (.cells #[rowV pr r, .int .i64 (i : Int)] 109))
            have HS10 := aM' (HS.out.below hb11)
            clear hr hpr hpc hpb hpm hrc hrd hrow hq hrl hsq hnk hsl hwn hsn hsr hwr hcs ea eb w0 w1' w2' W0 W1 W2' p0 p1 p2 hb11
            go_upto_region 12 with (fail)
            obtain ⟨g10, hg10⟩ : ∃ g, g = wr.heap.size := ⟨_, rfl⟩
            obtain ⟨V, hV⟩ : ∃ V, V = wr.alloc (.cells #[rowV pr r, .int .i64 (i : Int)] 109) := ⟨_, rfl⟩
            rw [← hg10, ← hV] at H10
            rw [← hV] at EW ES HS10
            simp only [← hg10, ← hV]
            clear hg10 hV l0 l1
            refine wp_forget (fun z => ({ tmps := List.toArray (.pointer (some ⟨ta, 0, none⟩) :: .int .u64 (p : Int) :: leafV x :: y 3 :: y 4 :: .pointer (some ⟨w.heap.size, 0, none⟩) :: z 6 :: .slice (some ⟨g7, 0, none⟩) (i + 1) c7 :: .int .u64 (q : Int) :: y 9 :: .pointer (some ⟨g10, 0, none⟩) :: z 11 :: z 12 :: z 13 :: z 14 :: y 15 :: y 16 :: y 17 :: y 18 :: y 19 :: y 20 :: y 21 :: y 22 :: y 23 :: y 24 :: y 25 :: y 26 :: y 27 :: y 28 :: y 29 :: y 30 :: y 31 :: y 32 :: y 33 :: y 34 :: y 35 :: y 36 :: y 37 :: y 38 :: y 39 :: y 40 :: y 41 :: y 42 :: y 43 :: y 44 :: y 45 :: y 46 :: .slice (some ⟨gv, 0, none⟩) K cv :: .int .i64 (K : Int) :: .int .i64 (i : Int) :: z 50 :: z 51 :: z 52 :: z 53 :: z 54 :: z 55 :: z 56 :: z 57 :: z 58 :: z 59 :: z 60 :: z 61 :: z 62 :: z 63 :: z 64 :: z 65 :: z 66 :: z 67 :: z 68 :: z 69 :: z 70 :: z 71 :: z 72 :: z 73 :: z 74 :: z 75 :: z 76 :: z 77 :: z 78 :: z 79 :: z 80 :: z 81 :: z 82 :: z 83 :: z 84 :: z 85 :: z 86 :: z 87 :: z 88 :: z 89 :: y 90 :: y 91 :: y 92 :: y 93 :: y 94 :: y 95 :: y 96 :: y 97 :: y 98 :: y 99 :: y 100 :: y 101 :: y 102 :: y 103 :: y 104 :: y 105 :: y 106 :: y 107 :: y 108 :: y 109 :: y 110 :: y 111 :: y 112 :: y 113 :: y 114 :: y 115 :: y 116 :: y 117 :: y 118 :: []), defers := [] } : Act)) rfl ?_
            intro z
            refine region_inv (fun l a W => ∃ γ : Nat, ∃ δ : Nat, a = ({ tmps := #[.pointer (some ⟨ta, 0, none⟩), .int .u64 (p : Int), leafV x, y 3, y 4, .pointer (some ⟨w.heap.size, 0, none⟩), z 6, .slice (some ⟨g7, 0, none⟩) (i + 1) c7, .int .u64 (q : Int), y 9, .pointer (some ⟨g10, 0, none⟩), sel (l 12) (.pointer (some ⟨γ, 0, none⟩)) (z 11), sel (l 13) (.pointer (some ⟨δ, 0, none⟩)) (z 12), z 13, z 14, y 15, y 16, y 17, y 18, y 19, y 20, y 21, y 22, y 23, y 24, y 25, y 26, y 27, y 28, y 29, y 30, y 31, y 32, y 33, y 34, y 35, y 36, y 37, y 38, y 39, y 40, y 41, y 42, y 43, y 44, y 45, y 46, .slice (some ⟨gv, 0, none⟩) K cv, .int .i64 (K : Int), .int .i64 (i : Int), z 50, z 51, z 52, sel (l 0) (.slice (some ⟨g7, 0, none⟩) (i + 1) c7) (z 53), sel (l 1) (.pointer (some ⟨g10, 1, none⟩)) (z 54), sel (l 2) (.int .i64 (i : Int)) (z 55), sel (l 3) (.pointer (some ⟨g7, i * 3, none⟩)) (z 56), sel (l 4) (.agg #[.string wn.f0, .int .u64 wn.f1.f0, .int .u64 wn.f1.f1]) (z 57), sel (l 5) (.pointer (some ⟨g10, 0, none⟩)) (z 58), sel (l 6) (.pointer (some ⟨g10, 0, none⟩)) (z 59), sel (l 7) (.slice (some ⟨pr.1, 0, none⟩) r.length pr.2) (z 60), sel (l 8) (.int .u64 (q : Int)) (z 61), sel (l 9) (.int .u64 (sq : Int)) (z 62), sel (l 10) (.pointer (some ⟨pr.1, sq * 3, none⟩)) (z 63), sel (l 11) (.agg #[.string sn.f0, .int .u64 sn.f1.f0, .int .u64 sn.f1.f1]) (z 64), z 65, z 66, z 67, z 68, z 69, z 70, z 71, z 72, z 73, z 74, z 75, z 76, z 77, z 78, z 79, z 80, z 81, z 82, z 83, z 84, z 85, z 86, z 87, z 88, z 89, y 90, y 91, y 92, y 93, y 94, y 95, y 96, y 97, y 98, y 99, y 100, y 101, y 102, y 103, y 104, y 105, y 106, y 107, y 108, y 109, y 110, y 111, y 112, y 113, y 114, y 115, y 116, y 117, y 118], defers := [] } : Act) ∧ St12 V W wn sn l γ δ) 16 rfl rfl (by kernel_rfl) ?h0 ?hend ?hstep
            case h0 => exact ⟨0, 0, rfl, St12.start V wn sn⟩
            case hstep =>
              refine rg_cons (rg_cons (rg_cons (rg_cons (rg_cons (rg_cons (rg_cons (rg_cons (rg_cons (rg_cons (rg_cons (rg_cons (rg_cons (rg_cons (rg_cons (rg_cons (rg_nil) ?s0) ?s1) ?s2) ?s3) ?s4) ?s5) ?s6) ?s7) ?s8) ?s9) ?s10) ?s11) ?s12) ?s13) ?s14) ?s15
              case s0 =>
                refine rg_step rfl ?_
                rintro l a W ⟨γ, δ, rfl, hI⟩ hl hd
                clear hd
                refine rg_val (v := .slice (some ⟨g7, 0, none⟩) (i + 1) c7) (w' := W) rfl (by go_simp) ?_
                refine ⟨γ, δ, ?_, ?_⟩
                · simp only [Act.put, List.setIfInBounds_toArray, List.set_cons_zero, List.set_cons_succ]; rfl
                · exact hI.same 0 (by decide)
              case s1 =>
                refine rg_step rfl ?_
                rintro l a W ⟨γ, δ, rfl, hI⟩ hl hd
                clear hd
                refine rg_val (v := .pointer (some ⟨g10, 1, none⟩)) (w' := W) rfl (by go_simp) ?_
                refine ⟨γ, δ, ?_, ?_⟩
                · simp only [Act.put, List.setIfInBounds_toArray, List.set_cons_zero, List.set_cons_succ]; rfl
                · exact hI.same 1 (by decide)
              case s2 =>
                refine rg_step rfl ?_
                rintro l a W ⟨γ, δ, rfl, hI⟩ hl hd
                have d1 := hd 1 (by decide)
                clear hd
                have x1 := blk_cell (blk_below H10.out hI.b) 1
                simp at x1
                refine rg_val (v := .int .i64 (i : Int)) (w' := W) rfl (by go_simp) ?_
                refine ⟨γ, δ, ?_, ?_⟩
                · simp only [Act.put, List.setIfInBounds_toArray, List.set_cons_zero, List.set_cons_succ]; rfl
                · exact hI.same 2 (by decide)
              case s3 =>
                refine rg_step rfl ?_
                rintro l a W ⟨γ, δ, rfl, hI⟩ hl hd
                have d0 := hd 0 (by decide)
                have d2 := hd 2 (by decide)
                clear hd
                refine rg_val (v := .pointer (some ⟨g7, i * 3, none⟩)) (w' := W) rfl (by go_simp; try omega) ?_
                refine ⟨γ, δ, ?_, ?_⟩
                · simp only [Act.put, List.setIfInBounds_toArray, List.set_cons_zero, List.set_cons_succ]; rfl
                · exact hI.same 3 (by decide)
              case s4 =>
                refine rg_step rfl ?_
                rintro l a W ⟨γ, δ, rfl, hI⟩ hl hd
                have d3 := hd 3 (by decide)
                clear hd
                have x0 := pw_cell_below hI.b EW.out.1
                have x1 := pw_cell_below hI.b EW.out.2.1
                have x2 := pw_cell_below hI.b EW.out.2.2
                refine rg_val (v := .agg #[.string wn.f0, .int .u64 wn.f1.f0, .int .u64 wn.f1.f1]) (w' := W) rfl (by go_simp) ?_
                refine ⟨γ, δ, ?_, ?_⟩
                · simp only [Act.put, List.setIfInBounds_toArray, List.set_cons_zero, List.set_cons_succ]; rfl
                · exact hI.same 4 (by decide)
              case s5 =>
                refine rg_step rfl ?_
                rintro l a W ⟨γ, δ, rfl, hI⟩ hl hd
                clear hd
                refine rg_val (v := .pointer (some ⟨g10, 0, none⟩)) (w' := W) rfl (by go_simp) ?_
                refine ⟨γ, δ, ?_, ?_⟩
                · simp only [Act.put, List.setIfInBounds_toArray, List.set_cons_zero, List.set_cons_succ]; rfl
                · exact hI.same 5 (by decide)
              case s6 =>
                refine rg_step rfl ?_
                rintro l a W ⟨γ, δ, rfl, hI⟩ hl hd
                have d5 := hd 5 (by decide)
                clear hd
                refine rg_val (v := .pointer (some ⟨g10, 0, none⟩)) (w' := W) rfl (by go_simp) ?_
                refine ⟨γ, δ, ?_, ?_⟩
                · simp only [Act.put, List.setIfInBounds_toArray, List.set_cons_zero, List.set_cons_succ]; rfl
                · exact hI.same 6 (by decide)
              case s7 =>
                refine rg_step rfl ?_
                rintro l a W ⟨γ, δ, rfl, hI⟩ hl hd
                have d6 := hd 6 (by decide)
                clear hd
                have x0 := blk_cell (blk_below H10.out hI.b) 0
                simp at x0
                refine rg_val (v := .slice (some ⟨pr.1, 0, none⟩) r.length pr.2) (w' := W) rfl (by go_simp) ?_
                refine ⟨γ, δ, ?_, ?_⟩
                · simp only [Act.put, List.setIfInBounds_toArray, List.set_cons_zero, List.set_cons_succ]; rfl
                · exact hI.same 7 (by decide)
              case s8 =>
                refine rg_step rfl ?_
                rintro l a W ⟨γ, δ, rfl, hI⟩ hl hd
                clear hd
                refine rg_val (v := .int .u64 (q : Int)) (w' := W) rfl (by go_simp) ?_
                refine ⟨γ, δ, ?_, ?_⟩
                · simp only [Act.put, List.setIfInBounds_toArray, List.set_cons_zero, List.set_cons_succ]; rfl
                · exact hI.same 8 (by decide)
              case s9 =>
                refine rg_step rfl ?_
                rintro l a W ⟨γ, δ, rfl, hI⟩ hl hd
                have d8 := hd 8 (by decide)
                clear hd
                have hxx := HXX.out
                refine rg_val (v := .int .u64 (sq : Int)) (w' := W) rfl (by go_simp) ?_
                refine ⟨γ, δ, ?_, ?_⟩
                · simp only [Act.put, List.setIfInBounds_toArray, List.set_cons_zero, List.set_cons_succ]; rfl
                · exact hI.same 9 (by decide)
              case s10 =>
                refine rg_step rfl ?_
                rintro l a W ⟨γ, δ, rfl, hI⟩ hl hd
                have d7 := hd 7 (by decide)
                have d9 := hd 9 (by decide)
                clear hd
                have hsq := HSQ.out
                refine rg_val (v := .pointer (some ⟨pr.1, sq * 3, none⟩)) (w' := W) rfl (by go_simp; try omega) ?_
                refine ⟨γ, δ, ?_, ?_⟩
                · simp only [Act.put, List.setIfInBounds_toArray, List.set_cons_zero, List.set_cons_succ]; rfl
                · exact hI.same 10 (by decide)
              case s11 =>
                refine rg_step rfl ?_
                rintro l a W ⟨γ, δ, rfl, hI⟩ hl hd
                have d10 := hd 10 (by decide)
                clear hd
                have x0 := pw_cell_below hI.b ES.out.1
                have x1 := pw_cell_below hI.b ES.out.2.1
                have x2 := pw_cell_below hI.b ES.out.2.2
                refine rg_val (v := .agg #[.string sn.f0, .int .u64 sn.f1.f0, .int .u64 sn.f1.f1]) (w' := W) rfl (by go_simp) ?_
                refine ⟨γ, δ, ?_, ?_⟩
                · simp only [Act.put, List.setIfInBounds_toArray, List.set_cons_zero, List.set_cons_succ]; rfl
                · exact hI.same 11 (by decide)
              case s12 =>
                refine rg_step rfl ?_
                rintro l a W ⟨γ, δ, rfl, hI⟩ hl hd
                clear hd
                have hs : l 14 = false := hI.no12 hl
                have hs' : upd l 12 14 = false := hs
                refine rg_val (v := .pointer (some ⟨W.heap.size, 0, none⟩)) (w' := W.alloc (.cells #[.string ⟨#[]⟩, .int .u64 0, .int .u64 0] 46)) rfl (by go_simp) ?_
                refine ⟨W.heap.size, δ, ?_, ?_⟩
                · simp only [Act.put, List.setIfInBounds_toArray, List.set_cons_zero, List.set_cons_succ]; rfl
                · exact hI.made12 hl
              case s13 =>
                refine rg_step rfl ?_
                rintro l a W ⟨γ, δ, rfl, hI⟩ hl hd
                clear hd
                have hs : l 15 = false := hI.no13 hl
                have hs' : upd l 13 15 = false := hs
                refine rg_val (v := .pointer (some ⟨W.heap.size, 0, none⟩)) (w' := W.alloc (.cells #[.string ⟨#[]⟩, .int .u64 0, .int .u64 0] 46)) rfl (by go_simp) ?_
                refine ⟨γ, W.heap.size, ?_, ?_⟩
                · simp only [Act.put, List.setIfInBounds_toArray, List.set_cons_zero, List.set_cons_succ]; rfl
                · exact hI.made13 hl
              case s14 =>
                refine rg_step rfl ?_
                rintro l a W ⟨γ, δ, rfl, hI⟩ hl hd
                have d4 := hd 4 (by decide)
                have d12 := hd 12 (by decide)
                clear hd
                have hz := hI.h12 d12
                rw [if_neg (by rw [hl]; decide)] at hz
                have z0 := blk_cell hz.2 0
                have z1 := blk_cell hz.2 1
                have z2 := blk_cell hz.2 2
                have zf := fun i => blk_frozen hz.2 i
                simp at z0 z1 z2
                refine rg_skip rfl (by go_simp; rfl) ?_
                refine ⟨γ, δ, ?_, ?_⟩
                · simp only [Act.put, List.setIfInBounds_toArray, List.set_cons_zero, List.set_cons_succ]; rfl
                · exact hI.stored14 hl d12
              case s15 =>
                refine rg_step rfl ?_
                rintro l a W ⟨γ, δ, rfl, hI⟩ hl hd
                have d11 := hd 11 (by decide)
                have d13 := hd 13 (by decide)
                clear hd
                have hz := hI.h13 d13
                rw [if_neg (by rw [hl]; decide)] at hz
                have z0 := blk_cell hz.2 0
                have z1 := blk_cell hz.2 1
                have z2 := blk_cell hz.2 2
                have zf := fun i => blk_frozen hz.2 i
                simp at z0 z1 z2
                refine rg_skip rfl (by go_simp; rfl) ?_
                refine ⟨γ, δ, ?_, ?_⟩
                · simp only [Act.put, List.setIfInBounds_toArray, List.set_cons_zero, List.set_cons_succ]; rfl
                · exact hI.stored15 hl d13
            case hend =>
              rintro l a W ⟨γ, δ, rfl, hI⟩ hall
              have e0 := hall 0 (by decide)
              have e1 := hall 1 (by decide)
              have e2 := hall 2 (by decide)
              have e3 := hall 3 (by decide)
              have e4 := hall 4 (by decide)
              have e5 := hall 5 (by decide)
              have e6 := hall 6 (by decide)
              have e7 := hall 7 (by decide)
              have e8 := hall 8 (by decide)
              have e9 := hall 9 (by decide)
              have e10 := hall 10 (by decide)
              have e11 := hall 11 (by decide)
              have e12 := hall 12 (by decide)
              have e13 := hall 13 (by decide)
              have e14 := hall 14 (by decide)
              have e15 := hall 15 (by decide)
              clear hall
              have hn := hI.done e12 e13 e14 e15
              have hB := hI.b
              simp only [e0, e1, e2, e3, e4, e5, e6, e7, e8, e9, e10, e11, e12, e13, e14, e15, sel_true]
              clear e0 e1 e2 e3 e4 e5 e6 e7 e8 e9 e10 e11 e12 e13 e14 e15
              clear hI
              obtain ⟨⟨hgs, hG⟩, ⟨hds, hD⟩, hne⟩ := hn
              have HB12 := aM' hB
              have HGG := aM' (And.intro hgs hG)
              have HDD := aM' (And.intro hds hD)
              have HNE := aM' hne
              clear hB hgs hG hds hD hne
              obtain ⟨o, ho⟩ : ∃ o, o = q % 2 := ⟨_, rfl⟩
              have hod : Go.bits .and .u64 (q : Int) 1 = (o : Int) := by rw [ho]; exact bits_odd q (by rw [HI.out.2]; exact Nat.lt_of_le_of_lt (Nat.div_le_self _ _) HP.out)
              obtain ⟨bo, hbo⟩ : ∃ b : Bool, ((o : Int) == 1) = b := ⟨_, rfl⟩
              have HBO := aM' (show bo = decide (q % 2 = 1) by
                rw [← hbo, ← ho, Bool.eq_iff_iff, beq_iff_eq, decide_eq_true_iff]; omega)
              obtain ⟨Ln, hLn⟩ : ∃ n, n = if bo = true then sn else wn := ⟨_, rfl⟩
              obtain ⟨Rn, hRn⟩ : ∃ n, n = if bo = true then wn else sn := ⟨_, rfl⟩
              have HLN := aM' hLn
              have HRN := aM' hRn
              clear hLn hRn ho
              go_upto_region 13 with (fail)
              refine wp_forget (fun z => ({ tmps := List.toArray (.pointer (some ⟨ta, 0, none⟩) :: .int .u64 (p : Int) :: leafV x :: y 3 :: y 4 :: .pointer (some ⟨w.heap.size, 0, none⟩) :: z 6 :: .slice (some ⟨g7, 0, none⟩) (i + 1) c7 :: .int .u64 (q : Int) :: y 9 :: .pointer (some ⟨g10, 0, none⟩) :: .pointer (some ⟨γ, 0, none⟩) :: .pointer (some ⟨δ, 0, none⟩) :: z 13 :: z 14 :: y 15 :: y 16 :: y 17 :: y 18 :: y 19 :: y 20 :: y 21 :: y 22 :: y 23 :: y 24 :: y 25 :: y 26 :: y 27 :: y 28 :: y 29 :: y 30 :: y 31 :: y 32 :: y 33 :: y 34 :: y 35 :: y 36 :: y 37 :: y 38 :: y 39 :: y 40 :: y 41 :: y 42 :: y 43 :: y 44 :: y 45 :: y 46 :: .slice (some ⟨gv, 0, none⟩) K cv :: .int .i64 (K : Int) :: .int .i64 (i : Int) :: z 50 :: z 51 :: z 52 :: z 53 :: z 54 :: z 55 :: z 56 :: z 57 :: z 58 :: z 59 :: z 60 :: z 61 :: z 62 :: z 63 :: z 64 :: z 65 :: z 66 :: z 67 :: z 68 :: z 69 :: z 70 :: z 71 :: z 72 :: z 73 :: z 74 :: z 75 :: z 76 :: z 77 :: z 78 :: z 79 :: z 80 :: z 81 :: z 82 :: z 83 :: z 84 :: z 85 :: z 86 :: z 87 :: z 88 :: z 89 :: y 90 :: y 91 :: y 92 :: y 93 :: y 94 :: y 95 :: y 96 :: y 97 :: y 98 :: y 99 :: y 100 :: y 101 :: y 102 :: y 103 :: y 104 :: y 105 :: y 106 :: y 107 :: y 108 :: y 109 :: y 110 :: y 111 :: y 112 :: y 113 :: y 114 :: y 115 :: y 116 :: y 117 :: y 118 :: []), defers := [] } : Act)) rfl ?_
              intro z
              go_upto_if 67 with (fail)
              clear hod hbo
              go_cut [] (fun wc => Aside0 (Below V.heap.size V wc ∧ wc.heap[γ]? = some (.cells (nodeA Ln) 46 (0, 0)) ∧ wc.heap[δ]? = some (.cells (nodeA Rn) 46 (0, 0))))
              case first =>
                cases bo with
                | false =>
                  go_wp2
                  go_meet
                  exact ⟨⟨HB12.out, by rw [HLN.out]; exact HGG.out.2, by rw [HRN.out]; exact HDD.out.2⟩⟩
                | true =>
                  have p0 := blk_cell HGG.out.2 0
                  have p1 := blk_cell HGG.out.2 1
                  have p2 := blk_cell HGG.out.2 2
                  have pf := fun i => blk_frozen HGG.out.2 i
                  have s0 := blk_cell HDD.out.2 0
                  have s1 := blk_cell HDD.out.2 1
                  have s2 := blk_cell HDD.out.2 2
                  have sf := fun i => blk_frozen HDD.out.2 i
                  simp at p0 p1 p2 s0 s1 s2
                  have hne := HNE.out
                  have hne2 := Ne.symm hne
                  go_wp2
                  go_meet
                  refine ⟨⟨below_set (below_set (below_set (below_set (below_set (below_set HB12.out HGG.out.1) HGG.out.1) HGG.out.1) HDD.out.1) HDD.out.1) HDD.out.1, ?_, ?_⟩⟩
                  · rw [HLN.out, if_pos (by trivial)]
                    exact blk_far (blk_far (blk_far (blk_put (blk_put (blk_put HGG.out.2 0 _ rfl) 1 _ rfl) 2 _ rfl) (by exact hne) _) (by exact hne) _) (by exact hne) _
                  · rw [HRN.out, if_pos (by trivial)]
                    exact blk_put (blk_put (blk_put (blk_far (blk_far (blk_far HDD.out.2 (by exact hne2) _) (by exact hne2) _) (by exact hne2) _) 0 _ rfl) 1 _ rfl) 2 _ rfl
              case rest =>
                have HC : Aside0 (Below V.heap.size V wc ∧ wc.heap[γ]? = some (.cells (nodeA Ln) 46 (0, 0)) ∧ wc.heap[δ]? = some (.cells (nodeA Rn) 46 (0, 0))) := hcut
                clear hcut
                have HSC := aM' (HS10.out.below HC.out.1)
                have HAC := aM' (show wc.heap[ta]? = some (.cells #[.int .i64 wd, .slice (some ⟨gl, 0, none⟩) ls.length cl, .slice (some ⟨gv, 0, none⟩) (K + 1) cv] 105 (0, 0)) from HSC.out.t.ht)
                have hKL : NodeK wd Ln := by rw [HLN.out]; split
                                             · exact HSN.out
                                             · exact HWN.out
                have hKR : NodeK wd Rn := by rw [HRN.out]; split
                                             · exact HWN.out
                                             · exact HSN.out
                have hW1 : wayV wd (ls.map (leafNodeI wd)) p (leafNodeI wd x) (i + 1) = joinV wd Ln Rn := by
                  rw [HW1.out, HLN.out, HRN.out, HBO.out]
                  by_cases h : q % 2 = 1
                  · simp [h]
                  · simp [h]
                obtain ⟨jn, je, hje⟩ : ∃ (jn : SNode) (je : Int), joinI wd Ln Rn = (jn.f0, jn.f1.f0, jn.f1.f1, je) := ⟨⟨_, ⟨_, _⟩⟩, _, rfl⟩
                have HJE : Aside0 ((je = 0 ∧ jn = wayV wd (ls.map (leafNodeI wd)) p (leafNodeI wd x) (i + 1) ∧ NodeK wd jn) ∨ (je = 10 ∧ setI wd ls p x = 10)) := by
                  refine ⟨?_⟩
                  by_cases hroom : valU Ln.f1 + valU Rn.f1 < 340282366920938463463374607431768211456
                  · rw [joinI_room hKL hKR hroom] at hje
                    have e := Prod.mk.inj hje
                    have e2 := Prod.mk.inj e.2
                    have e3 := Prod.mk.inj e2.2
                    have ej : jn = joinV wd Ln Rn := by
                      obtain ⟨a1, b1, c1⟩ := jn
                      show (⟨a1, ⟨b1, c1⟩⟩ : SNode) = ⟨(joinV wd Ln Rn).f0, ⟨(joinV wd Ln Rn).f1.f0, (joinV wd Ln Rn).f1.f1⟩⟩
                      rw [e.1, e2.1, e3.1]
                    exact .inl ⟨e3.2.symm, by rw [hW1, ej], by rw [ej]; exact joinV_k hKL hKR hroom⟩
                  · rw [joinI_full hKL hKR hroom] at hje
                    have e3 := Prod.mk.inj (Prod.mk.inj (Prod.mk.inj hje).2).2
                    refine .inr ⟨e3.2.symm, ?_⟩
                    have h1 := way_le wd (K := K) (by rw [List.length_map]; exact HKL.out) HKK.out.k HKK.out.t (by rw [← HKL.out]; exact HLT.out) (leafNodeI wd x) (i + 1) (by omega)
                    rw [hW1, joinV_val] at h1
                    unfold setI
                    rw [if_neg (show ¬ ls.length ≤ p by have := HLT.out; omega), if_neg (by rw [HML.out]; decide), if_neg (by rw [List.map_set]; omega)]
                obtain ⟨kj, hkj⟩ := (join_ev wd Ln Rn hKL.u hKR.u).rounds
                rw [hje] at hkj
                have HJ := aM' hkj
                clear hkj hje hKL hKR hW1
                go_upto_region 15 with (fail)
                refine wp_forget (fun z => ({ tmps := List.toArray (.pointer (some ⟨ta, 0, none⟩) :: .int .u64 (p : Int) :: leafV x :: y 3 :: y 4 :: .pointer (some ⟨w.heap.size, 0, none⟩) :: z 6 :: .slice (some ⟨g7, 0, none⟩) (i + 1) c7 :: .int .u64 (q : Int) :: y 9 :: .pointer (some ⟨g10, 0, none⟩) :: .pointer (some ⟨γ, 0, none⟩) :: .pointer (some ⟨δ, 0, none⟩) :: z 13 :: z 14 :: y 15 :: y 16 :: y 17 :: y 18 :: y 19 :: y 20 :: y 21 :: y 22 :: y 23 :: y 24 :: y 25 :: y 26 :: y 27 :: y 28 :: y 29 :: y 30 :: y 31 :: y 32 :: y 33 :: y 34 :: y 35 :: y 36 :: y 37 :: y 38 :: y 39 :: y 40 :: y 41 :: y 42 :: y 43 :: y 44 :: y 45 :: y 46 :: .slice (some ⟨gv, 0, none⟩) K cv :: .int .i64 (K : Int) :: .int .i64 (i : Int) :: z 50 :: z 51 :: z 52 :: z 53 :: z 54 :: z 55 :: z 56 :: z 57 :: z 58 :: z 59 :: z 60 :: z 61 :: z 62 :: z 63 :: z 64 :: z 65 :: z 66 :: z 67 :: z 68 :: z 69 :: z 70 :: z 71 :: z 72 :: z 73 :: z 74 :: z 75 :: z 76 :: z 77 :: z 78 :: z 79 :: z 80 :: z 81 :: z 82 :: z 83 :: z 84 :: z 85 :: z 86 :: z 87 :: z 88 :: z 89 :: y 90 :: y 91 :: y 92 :: y 93 :: y 94 :: y 95 :: y 96 :: y 97 :: y 98 :: y 99 :: y 100 :: y 101 :: y 102 :: y 103 :: y 104 :: y 105 :: y 106 :: y 107 :: y 108 :: y 109 :: y 110 :: y 111 :: y 112 :: y 113 :: y 114 :: y 115 :: y 116 :: y 117 :: y 118 :: []), defers := [] } : Act)) rfl ?_
                intro z
                refine region_inv (fun l a W => ∃ ε : Nat, a = ({ tmps := #[.pointer (some ⟨ta, 0, none⟩), .int .u64 (p : Int), leafV x, y 3, y 4, .pointer (some ⟨w.heap.size, 0, none⟩), z 6, .slice (some ⟨g7, 0, none⟩) (i + 1) c7, .int .u64 (q : Int), y 9, .pointer (some ⟨g10, 0, none⟩), .pointer (some ⟨γ, 0, none⟩), .pointer (some ⟨δ, 0, none⟩), sel (l 10) (.pointer (some ⟨ε, 0, none⟩)) (z 13), sel (l 12) (.int .i64 je) (z 14), y 15, y 16, y 17, y 18, y 19, y 20, y 21, y 22, y 23, y 24, y 25, y 26, y 27, y 28, y 29, y 30, y 31, y 32, y 33, y 34, y 35, y 36, y 37, y 38, y 39, y 40, y 41, y 42, y 43, y 44, y 45, y 46, .slice (some ⟨gv, 0, none⟩) K cv, .int .i64 (K : Int), .int .i64 (i : Int), z 50, z 51, z 52, z 53, z 54, z 55, z 56, z 57, z 58, z 59, z 60, z 61, z 62, z 63, z 64, z 65, z 66, z 67, z 68, z 69, sel (l 7) (.tuple #[.agg #[.string jn.f0, .int .u64 jn.f1.f0, .int .u64 jn.f1.f1], .int .i64 je]) (z 70), sel (l 0) (.pointer (some ⟨ta, 0, none⟩)) (z 71), sel (l 1) (.pointer (some ⟨ta, 0, none⟩)) (z 72), sel (l 2) (.pointer (some ⟨ta, 0, none⟩)) (z 73), sel (l 3) (.int .i64 wd) (z 74), sel (l 4) (.agg #[.string Ln.f0, .int .u64 Ln.f1.f0, .int .u64 Ln.f1.f1]) (z 75), sel (l 5) (.agg #[.string Rn.f0, .int .u64 Rn.f1.f0, .int .u64 Rn.f1.f1]) (z 76), sel (l 6) (.tuple #[.agg #[.string jn.f0, .int .u64 jn.f1.f0, .int .u64 jn.f1.f1], .int .i64 je]) (z 77), sel (l 8) (.agg #[.string jn.f0, .int .u64 jn.f1.f0, .int .u64 jn.f1.f1]) (z 78), sel (l 9) (.int .i64 je) (z 79), z 80, z 81, z 82, z 83, z 84, z 85, z 86, z 87, z 88, z 89, y 90, y 91, y 92, y 93, y 94, y 95, y 96, y 97, y 98, y 99, y 100, y 101, y 102, y 103, y 104, y 105, y 106, y 107, y 108, y 109, y 110, y 111, y 112, y 113, y 114, y 115, y 116, y 117, y 118], defers := [] } : Act) ∧ (Below wc.heap.size wc W ∧ (l 10 = true → wc.heap.size ≤ ε ∧ W.heap[ε]? = some (.cells (if l 11 = true then nodeA jn else nodeA nodeZ) 46 (0, 0))) ∧ (l 11 = true → l 10 = true))) 13 rfl rfl (by kernel_rfl) ?h0 ?hend ?hstep
                case h0 => exact ⟨0, rfl, below_drew (Below.refl _ _), (fun h => by cases h), (fun h => by cases h)⟩
                case hstep =>
                  refine rg_cons (rg_cons (rg_cons (rg_cons (rg_cons (rg_cons (rg_cons (rg_cons (rg_cons (rg_cons (rg_cons (rg_cons (rg_cons (rg_nil) ?s0) ?s1) ?s2) ?s3) ?s4) ?s5) ?s6) ?s7) ?s8) ?s9) ?s10) ?s11) ?s12
                  case s0 =>
                    refine rg_step rfl ?_
                    rintro l a W ⟨ε, rfl, hI⟩ hl hd
                    clear hd
                    refine rg_val (v := .pointer (some ⟨ta, 0, none⟩)) (w' := W) rfl (by go_simp) ?_
                    refine ⟨ε, ?_, ?_⟩
                    · simp only [Act.put, List.setIfInBounds_toArray, List.set_cons_zero, List.set_cons_succ]; rfl
                    · exact hI
                  case s1 =>
                    refine rg_step rfl ?_
                    rintro l a W ⟨ε, rfl, hI⟩ hl hd
                    have d0 := hd 0 (by decide)
                    clear hd
                    refine rg_val (v := .pointer (some ⟨ta, 0, none⟩)) (w' := W) rfl (by go_simp) ?_
                    refine ⟨ε, ?_, ?_⟩
                    · simp only [Act.put, List.setIfInBounds_toArray, List.set_cons_zero, List.set_cons_succ]; rfl
                    · exact hI
                  case s2 =>
                    refine rg_step rfl ?_
                    rintro l a W ⟨ε, rfl, hI⟩ hl hd
                    have d1 := hd 1 (by decide)
                    clear hd
                    refine rg_val (v := .pointer (some ⟨ta, 0, none⟩)) (w' := W) rfl (by go_simp) ?_
                    refine ⟨ε, ?_, ?_⟩
                    · simp only [Act.put, List.setIfInBounds_toArray, List.set_cons_zero, List.set_cons_succ]; rfl
                    · exact hI
                  case s3 =>
                    refine rg_step rfl ?_
                    rintro l a W ⟨ε, rfl, hI⟩ hl hd
                    have d2 := hd 2 (by decide)
                    clear hd
                    have x0 := blk_cell (blk_below HAC.out hI.1) 0
                    simp at x0
                    refine rg_val (v := .int .i64 wd) (w' := W) rfl (by go_simp) ?_
                    refine ⟨ε, ?_, ?_⟩
                    · simp only [Act.put, List.setIfInBounds_toArray, List.set_cons_zero, List.set_cons_succ]; rfl
                    · exact hI
                  case s4 =>
                    refine rg_step rfl ?_
                    rintro l a W ⟨ε, rfl, hI⟩ hl hd
                    clear hd
                    have x0 := blk_cell (blk_below HC.out.2.1 hI.1) 0
                    have x1 := blk_cell (blk_below HC.out.2.1 hI.1) 1
                    have x2 := blk_cell (blk_below HC.out.2.1 hI.1) 2
                    simp at x0 x1 x2
                    refine rg_val (v := .agg #[.string Ln.f0, .int .u64 Ln.f1.f0, .int .u64 Ln.f1.f1]) (w' := W) rfl (by go_simp) ?_
                    refine ⟨ε, ?_, ?_⟩
                    · simp only [Act.put, List.setIfInBounds_toArray, List.set_cons_zero, List.set_cons_succ]; rfl
                    · exact hI
                  case s5 =>
                    refine rg_step rfl ?_
                    rintro l a W ⟨ε, rfl, hI⟩ hl hd
                    clear hd
                    have x0 := blk_cell (blk_below HC.out.2.2 hI.1) 0
                    have x1 := blk_cell (blk_below HC.out.2.2 hI.1) 1
                    have x2 := blk_cell (blk_below HC.out.2.2 hI.1) 2
                    simp at x0 x1 x2
                    refine rg_val (v := .agg #[.string Rn.f0, .int .u64 Rn.f1.f0, .int .u64 Rn.f1.f1]) (w' := W) rfl (by go_simp) ?_
                    refine ⟨ε, ?_, ?_⟩
                    · simp only [Act.put, List.setIfInBounds_toArray, List.set_cons_zero, List.set_cons_succ]; rfl
                    · exact hI
                  case s6 =>
                    refine rg_step rfl ?_
                    rintro l a W ⟨ε, rfl, hI⟩ hl hd
                    have d3 := hd 3 (by decide)
                    have d4 := hd 4 (by decide)
                    have d5 := hd 5 (by decide)
                    clear hd
                    refine rg_call rfl (by go_simp; exact ⟨rfl, rfl⟩) ?_
                    refine (node_Join.calls kj wd Ln.f0 Ln.f1.f0 Ln.f1.f1 Rn.f0 Rn.f1.f0 Rn.f1.f1 jn.f0 jn.f1.f0 jn.f1.f1 je W (HK.out.below (HSC.out.b.trans (hI.1.mono HSC.out.b.size))).1 HJ.out).mono ?_
                    rintro ee W' ⟨rfl, hb⟩
                    refine ⟨_, rfl, ε, ?_, ?_⟩
                    · simp only [Act.put, List.setIfInBounds_toArray, List.set_cons_zero, List.set_cons_succ]; rfl
                    · exact ⟨hI.1.trans (hb.mono hI.1.size), fun h => ⟨(hI.2.1 h).1, blk_below (hI.2.1 h).2 hb⟩, hI.2.2⟩
                  case s7 =>
                    refine rg_step rfl ?_
                    rintro l a W ⟨ε, rfl, hI⟩ hl hd
                    have d6 := hd 6 (by decide)
                    clear hd
                    refine rg_val (v := .tuple #[.agg #[.string jn.f0, .int .u64 jn.f1.f0, .int .u64 jn.f1.f1], .int .i64 je]) (w' := W) rfl (by go_simp) ?_
                    refine ⟨ε, ?_, ?_⟩
                    · simp only [Act.put, List.setIfInBounds_toArray, List.set_cons_zero, List.set_cons_succ]; rfl
                    · exact hI
                  case s8 =>
                    refine rg_step rfl ?_
                    rintro l a W ⟨ε, rfl, hI⟩ hl hd
                    have d7 := hd 7 (by decide)
                    clear hd
                    refine rg_val (v := .agg #[.string jn.f0, .int .u64 jn.f1.f0, .int .u64 jn.f1.f1]) (w' := W) rfl (by go_simp) ?_
                    refine ⟨ε, ?_, ?_⟩
                    · simp only [Act.put, List.setIfInBounds_toArray, List.set_cons_zero, List.set_cons_succ]; rfl
                    · exact hI
                  case s9 =>
                    refine rg_step rfl ?_
                    rintro l a W ⟨ε, rfl, hI⟩ hl hd
                    have d7 := hd 7 (by decide)
                    clear hd
                    refine rg_val (v := .int .i64 je) (w' := W) rfl (by go_simp) ?_
                    refine ⟨ε, ?_, ?_⟩
                    · simp only [Act.put, List.setIfInBounds_toArray, List.set_cons_zero, List.set_cons_succ]; rfl
                    · exact hI
                  case s10 =>
                    refine rg_step rfl ?_
                    rintro l a W ⟨ε, rfl, hI⟩ hl hd
                    clear hd
                    have h11 : l 11 = false := by
                      cases hx : l 11 with
                      | false => rfl
                      | true => have := hI.2.2 hx; rw [hl] at this; cases this
                    refine rg_val (v := .pointer (some ⟨W.heap.size, 0, none⟩)) (w' := W.alloc (.cells #[.string ⟨#[]⟩, .int .u64 0, .int .u64 0] 46)) rfl (by go_simp) ?_
                    refine ⟨W.heap.size, ?_, ?_⟩
                    · simp only [Act.put, List.setIfInBounds_toArray, List.set_cons_zero, List.set_cons_succ]; rfl
                    · exact ⟨below_alloc hI.1 _, fun _ => ⟨hI.1.size, by rw [if_neg (show ¬ upd l 10 11 = true from by rw [show upd l 10 11 = l 11 from rfl, h11]; decide)]; exact blk_new W _⟩, fun _ => rfl⟩
                  case s11 =>
                    refine rg_step rfl ?_
                    rintro l a W ⟨ε, rfl, hI⟩ hl hd
                    have d8 := hd 8 (by decide)
                    have d10 := hd 10 (by decide)
                    clear hd
                    have hz := hI.2.1 d10
                    rw [if_neg (by rw [hl]; decide)] at hz
                    have z0 := blk_cell hz.2 0
                    have z1 := blk_cell hz.2 1
                    have z2 := blk_cell hz.2 2
                    have zf := fun i => blk_frozen hz.2 i
                    simp at z0 z1 z2
                    refine rg_skip rfl (by go_simp; rfl) ?_
                    refine ⟨ε, ?_, ?_⟩
                    · simp only [Act.put, List.setIfInBounds_toArray, List.set_cons_zero, List.set_cons_succ]; rfl
                    · exact ⟨below_set (below_set (below_set hI.1 hz.1) hz.1) hz.1, fun _ => ⟨hz.1, by rw [if_pos (show upd l 11 11 = true from rfl)]; exact blk_put (blk_put (blk_put hz.2 0 _ rfl) 1 _ rfl) 2 _ rfl⟩, fun _ => d10⟩
                  case s12 =>
                    refine rg_step rfl ?_
                    rintro l a W ⟨ε, rfl, hI⟩ hl hd
                    have d9 := hd 9 (by decide)
                    clear hd
                    refine rg_val (v := .int .i64 je) (w' := W) rfl (by go_simp) ?_
                    refine ⟨ε, ?_, ?_⟩
                    · simp only [Act.put, List.setIfInBounds_toArray, List.set_cons_zero, List.set_cons_succ]; rfl
                    · exact hI
                case hend =>
                  rintro l a W ⟨ε, rfl, hI⟩ hall
                  have e0 := hall 0 (by decide)
                  have e1 := hall 1 (by decide)
                  have e2 := hall 2 (by decide)
                  have e3 := hall 3 (by decide)
                  have e4 := hall 4 (by decide)
                  have e5 := hall 5 (by decide)
                  have e6 := hall 6 (by decide)
                  have e7 := hall 7 (by decide)
                  have e8 := hall 8 (by decide)
                  have e9 := hall 9 (by decide)
                  have e10 := hall 10 (by decide)
                  have e11 := hall 11 (by decide)
                  have e12 := hall 12 (by decide)
                  clear hall
                  have hn := hI.2.1 e10
                  rw [if_pos e11] at hn
                  have hB := hI.1
                  simp only [e0, e1, e2, e3, e4, e5, e6, e7, e8, e9, e10, e11, e12, sel_true]
                  clear e0 e1 e2 e3 e4 e5 e6 e7 e8 e9 e10 e11 e12
                  clear hI
                  have HS15 := aM' (HSC.out.below hB)
                  have HE := aM' hn.2
                  clear hn hB
                  rcases HJE.out with ⟨rfl, hj, hjk⟩ | ⟨rfl, hs10⟩
                  · have q0 := blk_cell HE.out 0
                    have q1 := blk_cell HE.out 1
                    have q2 := blk_cell HE.out 2
                    simp at q0 q1 q2
                    have HNX := aM' (And.intro hj hjk)
                    clear hj hjk
                    go_wp2_with (at_builtin; refine wpList_append_own _ rfl _ _ 43 rfl (w.heap.size + 1) 46 i0 (.agg #[(.string ⟨#[]⟩), (.int .u64 0), (.int .u64 0)]) 3 32 Tryd.underlying43 hi hz0 hz1 hz2 rfl (by decide) (.slice (some ⟨g7, 0, none⟩) (i + 1) c7) (i + 1) _ rfl (ownB HS15.out.o (below_alloc (Below.refl _ _) (.cells (nodeA jn) 46))) ⟨W.heap.size, 0, none⟩ 1 1 [.string jn.f0, .int .u64 jn.f1.f0, .int .u64 jn.f1.f1] rfl rfl ?c2 ?c3 ?c4 ?c5 ?c6 ?_)
                    case c3 => exact ⟨rfl, rfl, rfl⟩
                    case c4 => unfold maxLen; omega
                    case c5 => omega
                    case c6 => have := HS15.out.b.size; omega
                    intro v' w' hown hgr hnil
                    have HS' := aM' (StL.next (HS15.out.below (below_alloc (Below.refl _ _) (.cells (nodeA jn) 46))) HT.out hgr hown HNX.out.1 HNX.out.2)
                    clear hown hgr hnil q0 q1 q2
                    go_wp2
                    go_roundw
                    case rel => exact ⟨i + 1, q / 2, by go_num, by go_num, ⟨⟨by omega, by rw [HI.out.2, Nat.pow_succ, Nat.div_div_eq_div_mul]⟩⟩, HS'⟩
                    case measure => simp [intOf]; omega
                  · have HER := aM' hs10
                    have HBE := aM' HS15.out.b
                    clear hs10
                    go_wp2
                    go_ret
                    exact SetPost.err HER.out (by decide) HT.out HBE.out
          · obtain rfl : i = K := by have := HI.out.1; omega
            have b1 : decide ((i : Int) < (i : Int)) = false := decide_eq_false (by omega)
            have b2 : decide (i < i) = false := decide_eq_false (by omega)
            have HS0 := aM' (StL.zero HS.out HT.out HKL.out HKK.out HLT.out HX.out HML.out)
            obtain ⟨cs, hcs, hcz⟩ := ownBlk HS.out.t.hl
            have hcz2 : p * 5 + 4 < cs.size := by have := HLT.out; have : ls.length * 5 ≤ cs.size := hcz; omega
            have c0 := blk_cell hcs (p * 5)
            have c1 := blk_cell hcs (p * 5 + 1)
            have c2 := blk_cell hcs (p * 5 + 2)
            have c3 := blk_cell hcs (p * 5 + 3)
            have c4 := blk_cell hcs (p * 5 + 4)
            have cf := fun i => blk_frozen hcs i
            rw [Array.getElem?_eq_getElem (by omega)] at c0 c1 c2 c3 c4
            generalize cs[p * 5]'_ = v0 at c0
            generalize cs[p * 5 + 1]'_ = v1 at c1
            generalize cs[p * 5 + 2]'_ = v2 at c2
            generalize cs[p * 5 + 3]'_ = v3 at c3
            generalize cs[p * 5 + 4]'_ = v4 at c4
            have x0 := blk_cell HS.out.l 0
            have x1 := blk_cell HS.out.l 1
            have x2 := blk_cell HS.out.l 2
            have x3 := blk_cell HS.out.l 3
            have x4 := blk_cell HS.out.l 4
            simp at x0 x1 x2 x3 x4
            have t1 : wr.cell? ⟨ta, 1, none⟩ = some (.slice (some ⟨gl, 0, none⟩) ls.length cl) := blk_cell HS.out.t.ht 1
            have hpl : (p : Int) < (ls.length : Int) := by have := HLT.out; omega
            have HP2 := aM' (StP.start HS.out HT.out HLT.out)
            clear hcs hcz hcz2
            go_upto_region 21 with (fail)
            clear b1 b2
            go_still_tail 7, (by kernel_rfl)
            change wpList _ _ _ _ _ wr.drew
            clear x0 x1 x2 x3 x4 t1
            go_upto_region 22 with (fail)
            obtain ⟨V2, hV2⟩ : ∃ V2, V2 = (((((wr.setCell ⟨gl, p * 5, none⟩ (.bool x.f0)).setCell ⟨gl, p * 5 + 1, none⟩ (.string x.f1)).setCell ⟨gl, p * 5 + 2, none⟩ (.string x.f2)).setCell ⟨gl, p * 5 + 3, none⟩ (.int .u64 x.f3.f0)).setCell ⟨gl, p * 5 + 4, none⟩ (.int .u64 x.f3.f1)).drew := ⟨_, rfl⟩
            rw [← hV2] at HP2
            rw [← hV2]
            have HWK := aM' HS.out.k
            have HRL2 := aM' (show (treeT wd (ls.set p x)).rows.length = i + 1 by
              have h : (treeT wd (ls.set p x)).rows = levelsV wd (ls.set p x).length.log2 ((ls.set p x).map (leafNodeI wd)) := rfl
              have h2 := HRL.out
              have h3 : (treeT wd ls).rows = levelsV wd ls.length.log2 (ls.map (leafNodeI wd)) := rfl
              rw [h3, levelsV_len] at h2
              rw [h, levelsV_len, List.length_set]; exact h2)
            clear hV2 c0 c1 c2 c3 c4 cf hpl HS
            refine wp_forget (fun y => ({ tmps := List.toArray (.pointer (some ⟨ta, 0, none⟩) :: .int .u64 (p : Int) :: leafV x :: y 3 :: y 4 :: .pointer (some ⟨w.heap.size, 0, none⟩) :: y 6 :: .slice (some ⟨g7, 0, none⟩) (i + 1) c7 :: y 8 :: y 9 :: y 10 :: y 11 :: y 12 :: y 13 :: y 14 :: y 15 :: y 16 :: y 17 :: y 18 :: y 19 :: y 20 :: y 21 :: y 22 :: y 23 :: y 24 :: y 25 :: y 26 :: y 27 :: y 28 :: y 29 :: y 30 :: y 31 :: y 32 :: y 33 :: y 34 :: y 35 :: y 36 :: y 37 :: y 38 :: y 39 :: y 40 :: y 41 :: y 42 :: y 43 :: y 44 :: y 45 :: y 46 :: y 47 :: y 48 :: y 49 :: y 50 :: y 51 :: y 52 :: y 53 :: y 54 :: y 55 :: y 56 :: y 57 :: y 58 :: y 59 :: y 60 :: y 61 :: y 62 :: y 63 :: y 64 :: y 65 :: y 66 :: y 67 :: y 68 :: y 69 :: y 70 :: y 71 :: y 72 :: y 73 :: y 74 :: y 75 :: y 76 :: y 77 :: y 78 :: y 79 :: y 80 :: y 81 :: y 82 :: y 83 :: y 84 :: y 85 :: y 86 :: y 87 :: y 88 :: y 89 :: y 90 :: y 91 :: y 92 :: y 93 :: y 94 :: y 95 :: y 96 :: y 97 :: y 98 :: y 99 :: y 100 :: y 101 :: y 102 :: y 103 :: y 104 :: y 105 :: y 106 :: y 107 :: y 108 :: y 109 :: y 110 :: y 111 :: y 112 :: y 113 :: y 114 :: y 115 :: y 116 :: y 117 :: y 118 :: []), defers := [] } : Act)) rfl ?_
            intro y
            go_wp2
            go_loopw [99] (fun v99 wr => ∃ j : Nat, v99 = .int .i64 (j : Int) ∧ Aside0 (j ≤ i + 1) ∧ Aside0 (StP base ta gl cl (.slice (some ⟨gv, 0, none⟩) (i + 1) cv) gs wd ls p x w i (.slice (some ⟨g7, 0, none⟩) (i + 1) c7) j wr)) (fun v99 _ => i + 1 - (intOf v99).toNat)
            case atStart => exact ⟨0, rfl, ⟨Nat.zero_le _⟩, HP2⟩
            case round =>
              obtain ⟨j, rfl, HJ, HPJ⟩ := hrel
              by_cases hlt : j < i + 1
              · have b1 : decide ((j : Int) < ((i + 1 : Nat) : Int)) = true := decide_eq_true (by omega)
                have b2 : decide (j < i + 1) = true := decide_eq_true hlt
                have hrow : (rowsM wd ls p x j)[j]? = some (upV wd j (ls.map (leafNodeI wd))) := by
                  rw [rowsM_get HRL.out HRL2.out hlt]
                  exact levelsV_get wd _ j _ (by have := HRL.out; have h : (treeT wd ls).rows = levelsV wd ls.length.log2 (ls.map (leafNodeI wd)) := rfl; rw [h, levelsV_len] at this; omega)
                have b3 : decide ((j : Int) < (i : Int) + 1) = true := decide_eq_true (by omega)
                obtain ⟨pr, hpr, l0, l1, hrc, hrd, hpm, cs, hpb, hpc⟩ := TreeOwn.level (T := ⟨wd, ls.set p x, rowsM wd ls p x j⟩) (cv := cv) (by rw [rowsM_len HRL.out HRL2.out (by omega)]; exact HPJ.out.t) hrow
                have hq0 := div_lt (by rw [← HKL.out]; exact HLT.out) (show j ≤ i by omega)
                have hrl : (upV wd j (ls.map (leafNodeI wd))).length = 2 ^ (i - j) := upV_len2 (by rw [List.length_map]; exact HKL.out) j (by omega)
                obtain ⟨s, hs⟩ : ∃ s, s = p / 2 ^ j := ⟨_, rfl⟩
                have hsl : s < (upV wd j (ls.map (leafNodeI wd))).length := by rw [hs, hrl]; exact hq0
                obtain ⟨wn, hwn⟩ : ∃ n, n = wayV wd (ls.map (leafNodeI wd)) p (leafNodeI wd x) j := ⟨_, rfl⟩
                have hset : (treeT wd (ls.set p x)).rows[j]? = some ((upV wd j (ls.map (leafNodeI wd))).set s wn) := by
                  have h : (treeT wd (ls.set p x)).rows = levelsV wd (ls.set p x).length.log2 ((ls.set p x).map (leafNodeI wd)) := rfl
                  have h2 := HRL2.out
                  rw [h, levelsV_len] at h2
                  rw [h, List.map_set, show (ls.set p x).length.log2 = i by omega, hs, hwn]
                  exact levelsV_set wd (by rw [List.length_map]; exact HKL.out) (by rw [← HKL.out]; exact HLT.out) _ j (by omega)
                have hwr : (waysL wd ls p x (i + 1))[j]? = some wn := by
                  unfold waysL
                  rw [List.getElem?_map, List.getElem?_range (by omega), hwn]; rfl
                have hsh : (p : Int) / 2 ^ j = (s : Int) := by rw [hs]; simp
                obtain ⟨r, hr⟩ : ∃ r, r = upV wd j (ls.map (leafNodeI wd)) := ⟨_, rfl⟩
                rw [← hr] at hrow l0 hrc hrd hpc hsl hset
                have hcs := HPJ.out.o.cells (g := g7) rfl
                have ea : ∀ n, (⟨g7, 0, none⟩ : Addr).add n = ⟨g7, n, none⟩ := fun n => by unfold Addr.add; split <;> simp_all
                have w0 := cellsN_get _ j 0 wn hwr (by decide)
                have w1' := cellsN_get _ j 1 wn hwr (by decide)
                have w2' := cellsN_get _ j 2 wn hwr (by decide)
                have W0 := hcs _ _ w0
                have W1 := hcs _ _ w1'
                have W2' := hcs _ _ w2'
                rw [ea] at W0 W1 W2'
                have d0 : wr.cell? ⟨g7, j * 3, none⟩ = some (.string wn.f0) := W0
                have d1 : wr.cell? ⟨g7, j * 3 + 1, none⟩ = some (.int .u64 wn.f1.f0) := W1
                have d2 : wr.cell? ⟨g7, j * 3 + 2, none⟩ = some (.int .u64 wn.f1.f1) := W2'
                obtain ⟨W3, hW3⟩ : ∃ V, V = wr.alloc (.cells #[.string wn.f0, .int .u64 wn.f1.f0, .int .u64 wn.f1.f1] 46) := ⟨_, rfl⟩
                have hb3 : Below wr.heap.size wr W3 := by rw [hW3]; exact below_alloc (Below.refl _ _) _
                have z := hW3 ▸ blk_new wr (.cells #[.string wn.f0, .int .u64 wn.f1.f0, .int .u64 wn.f1.f1] 46)
                obtain ⟨g16, hg16⟩ : ∃ g, g = wr.heap.size := ⟨_, rfl⟩
                rw [← hg16] at z
                have HNEW := aM' ((HPJ.out.below hb3).put HT.out HRL.out HRL2.out hlt hpr hrow hsl hset)
                have hpb3 := blk_below hpb hb3
                have hsz : s * 3 + 2 < cs.size := by omega
                have v0 := blk_cell hpb3 (s * 3)
                have v1 := blk_cell hpb3 (s * 3 + 1)
                have v2 := blk_cell hpb3 (s * 3 + 2)
                have vf := fun i => blk_frozen hpb3 i
                rw [Array.getElem?_eq_getElem (by omega)] at v0 v1 v2
                generalize cs[s * 3]'_ = u0 at v0
                generalize cs[s * 3 + 1]'_ = u1 at v1
                generalize cs[s * 3 + 2]'_ = u2 at v2
                have k0 := pw_cell_below hb3 l0
                have k1 := pw_cell_below hb3 l1
                have n0 := blk_cell z 0
                have n1 := blk_cell z 1
                have n2 := blk_cell z 2
                simp at n0 n1 n2
                have t2 : W3.cell? ⟨ta, 2, none⟩ = some (.slice (some ⟨gv, 0, none⟩) (i + 1) cv) := pw_cell_below hb3 (blk_cell HPJ.out.t.ht 2)
                have hsi : (s : Int) < (r.length : Int) := by omega
                have k3 : (j : Int) < (i : Int) + 1 := by omega
                clear hq0 hrl hs hwn hset hwr hr hcs ea w0 w1' w2' W0 W1 W2' hpr hrow hpm hpb hpc hpb3 hsz hrd hb3 z l0 l1
                go_upto_region 25 with (fail)
                rw [← hg16, ← hW3]
                clear hW3 hg16 d0 d1 d2
                go_still_tail 14, (by kernel_rfl)
                change wpList _ _ _ _ _ W3.drew
                go_wp2
                go_roundw
                case rel => exact ⟨j + 1, by go_num, ⟨by omega⟩, ⟨HNEW.out.below (below_drew (Below.refl _ _))⟩⟩
                case measure => simp [intOf]; omega
              · obtain rfl : j = i + 1 := by have := HJ.out; omega
                have b1 : decide (((i + 1 : Nat) : Int) < (i : Int) + 1) = false := decide_eq_false (by omega)
                have b3 : decide ((i : Int) + 1 < (i : Int) + 1) = false := decide_eq_false (by omega)
                have b2 : decide (i + 1 < i + 1) = false := decide_eq_false hlt
                go_wp2
                go_ret
                exact HPJ.out.done HRL.out HRL2.out HS0.out
end Go.Proofs.YtfcodmdckcihmaaDoor.P
namespace Go.Proofs.YtfcodmdckcihmaaDoor.P
open Go.RowKit Go.Proofs.YtfcodmdckcihmaaDoorW.PrintWords Go.Proofs.YtfcodmdckcihmaaDoorW.PrintLast Go.Proofs.YtfcodmdckcihmaaDoorW.PrintMore
set_option linter.unusedVariables false
set_option linter.unusedSimpArgs false
set_option linter.unnecessarySimpa false
theorem litL_C {W : World} {g : Nat} {cur : Array Value} {xs : List SLeaf} (hg : W.heap[g]? = some (.cells cur 36 (0, 0))) (hc : cur.toList = cellsL xs) (hl : xs.length ≤ 1000) : Kd.C kLeaf W (some ⟨g, 0, none⟩) xs.length xs := by
 have hs : cur.size = xs.length * 5 := by rw [← cellsL_len, ← hc]; simp
 exact (ownLeaves_C (base := 0) (cap := xs.length) ⟨cellsL_len xs, .inr ⟨g, xs.length, cur, rfl, Nat.zero_le _, hg, Nat.le_refl _, by unfold maxLen; omega, hs, by rw [← hc, List.take_of_length_le (by simp; omega)]⟩⟩).2.2
def acc15 (id : ByteArray) (n : Int) : SLeaf := ⟨false, id, ⟨#[]⟩, ⟨0, n⟩⟩
set_option maxRecDepth 100000 in
theorem account15.calls (id : ByteArray) (n : Int) (w : World) : Calls Tryd.prog 66 #[.string id, .int .u64 n] w fun e w' => e = .returned (.agg #[.bool false, .string id, .string ⟨#[]⟩, .int .u64 0, .int .u64 n]) ∧ Below w.heap.size w w' := by
 have hu := Tryd.underlying36
 have hu2 := Tryd.underlying34
 have z := blk_new w (.cells #[.bool false, .string ⟨#[]⟩, .string ⟨#[]⟩, .int .u64 0, .int .u64 0] 36)
 go_enter Tryd.func66, Tryd.ntmps66
 go_wp2
 refine bodyPost_ret (v := .agg #[.bool false, .string id, .string ⟨#[]⟩, .int .u64 0, .int .u64 n]) ?_ rfl ⟨rfl, ?_⟩
 ·
  simp [results, Tryd.results66, go_sem, hu]
 ·
  repeat (with_reducible first | exact Below.refl _ _ | apply below_alloc | refine below_set ?_ (by (try dsimp only); omega))
def l15 : List SLeaf := [acc15 ⟨#[97]⟩ 1, acc15 ⟨#[98]⟩ 2, acc15 ⟨#[99]⟩ 3, acc15 ⟨#[100]⟩ 4]
def l15b : List SLeaf := [acc15 ⟨#[97]⟩ 1, acc15 ⟨#[98]⟩ 2, acc15 ⟨#[99]⟩ 3]
def l15c : List SLeaf := [acc15 ⟨#[]⟩ 1]
theorem acc_ok (id : ByteArray) (n : Int) (hid : id.size ≤ 1000000) (hn : 0 ≤ n ∧ n < 18446744073709551616) : OkL (acc15 id n) := ⟨hid, by show (0 : Nat) ≤ _; omega, ⟨by show (0 : Int) ≤ 0 ∧ (0 : Int) < 18446744073709551616; decide, hn⟩⟩
theorem l15_ok : ∀ x ∈ l15, OkL x := by
 intro x hx
 simp only [l15, List.mem_cons, List.not_mem_nil, or_false] at hx
 rcases hx with rfl | rfl | rfl | rfl <;> exact acc_ok _ _ (by decide) (by decide)
theorem l15b_ok : ∀ x ∈ l15b, OkL x := fun x hx => l15_ok x (by simp only [l15, l15b, List.mem_cons, List.not_mem_nil, or_false] at hx ⊢; rcases hx with h | h | h <;> simp [h])
theorem l15c_ok : ∀ x ∈ l15c, OkL x := by
 intro x hx
 simp only [l15c, List.mem_cons, List.not_mem_nil, or_false] at hx
 rw [hx]; exact acc_ok _ _ (by decide) (by decide)
theorem l15_new : newI 3 l15 = 0 := by decide +kernel
theorem l15b_new : newI 3 l15b = 120 := by decide +kernel
theorem l15c_new : newI 3 l15c = 130 := by decide +kernel
theorem l15_nodes : (nodeAtI (treeT 3 l15) 1 0).1.f1.f1 = 3 ∧ (nodeAtI (treeT 3 l15) 1 0).2 = true ∧ (nodeAtI (treeT 3 l15) 1 1).1.f1.f1 = 7 ∧ (nodeAtI (treeT 3 l15) 1 1).2 = true ∧ (nodeAtI (treeT 3 l15) 1 2).2 = false := by decide +kernel
theorem l15_root : (topI (treeT 3 l15)).f1.f1 = 10 ∧ ((treeT 3 l15).rows.length : Int) - 1 = 2 := by decide +kernel
theorem l15_set : setI 3 l15 1 (acc15 ⟨#[98]⟩ 5) = 0 ∧ (topI (treeT 3 (setL 3 l15 1 (acc15 ⟨#[98]⟩ 5)))).f1.f1 = 13 := by decide +kernel
theorem top_size {wd : Int} {ls : List SLeaf} (hk : NewOk wd ls) : ((topI (treeT wd ls)).f0.size : Int) = wd := by
 rw [levels_top]
 have hp : (ls.map (leafNodeI wd)).length = 2 ^ ls.length.log2 := by rw [List.length_map]; exact hk.p
 have h := up_ok hp hk.k hk.t ls.length.log2 (Nat.le_refl _)
 have h1 := h.1
 rw [Nat.sub_self] at h1
 match e : upV wd ls.length.log2 (ls.map (leafNodeI wd)), h1 with
 | [y], _ => exact (nodeOf_w (h.2.1 y (by rw [e]; simp)).of).2.2
theorem setL_ok {wd : Int} {l : List SLeaf} {p : Nat} {x : SLeaf} (h : ∀ y ∈ l, OkL y) (hx : OkL x) : ∀ y ∈ setL wd l p x, OkL y := by
 intro y hy
 unfold setL at hy
 split at hy
 ·
  rcases List.mem_or_eq_of_mem_set hy with h1 | rfl
  ·
   exact h y h1
  ·
   exact hx
 ·
  exact h y hy
theorem rootTotal (a : ByteArray) (b c d : Int) (W : World) : (Instr.field 41 (.agg #[.string a, .int .u64 b, .int .u64 c, .int .i64 d]) 1).run Tryd.prog W = .ok (.agg #[.int .u64 b, .int .u64 c]) W := by kernel_rfl
theorem u128Lo (b c : Int) (W : World) : (Instr.field 34 (.agg #[.int .u64 b, .int .u64 c]) 1).run Tryd.prog W = .ok (.int .u64 c) W := by kernel_rfl
set_option maxRecDepth 100000 in
set_option maxHeartbeats 4000000 in
theorem awake15.calls (w : World) (hK : LaidT w) : Calls Tryd.prog 26 #[] w fun e w' => e = .returned (.bool true) ∧ Below w.heap.size w w' := by
 have HK := aM' hK
 clear hK
 have hu4 := Tryd.underlying46
 have hu5 := Tryd.underlying41
 have hu6 := Tryd.underlying34
 have HB0 := aM' (Below.refl w.heap.size w)
 go_enter Tryd.func26, Tryd.ntmps26
 go_wp2_with fail
 refine (account15.calls ⟨#[97]⟩ 1 _).mono ?_
 rintro e w1 ⟨rfl, hb⟩
 have HB1 := aM' (HB0.out.trans (hb.mono HB0.out.size))
 clear hb
 go_wp2_with fail
 refine (account15.calls ⟨#[98]⟩ 2 _).mono ?_
 rintro e w2 ⟨rfl, hb⟩
 have HB2 := aM' (HB1.out.trans (hb.mono HB1.out.size))
 clear hb
 go_wp2_with fail
 refine (account15.calls ⟨#[99]⟩ 3 _).mono ?_
 rintro e w3 ⟨rfl, hb⟩
 have HB3 := aM' (HB2.out.trans (hb.mono HB2.out.size))
 clear hb
 go_wp2_with fail
 refine (account15.calls ⟨#[100]⟩ 4 _).mono ?_
 rintro e w4 ⟨rfl, hb⟩
 have HB4 := aM' (HB3.out.trans (hb.mono HB3.out.size))
 clear hb
 obtain ⟨V5, hV5⟩ : ∃ V, V = w4.alloc (.cells #[.bool false, .string ⟨#[97]⟩, .string ⟨#[]⟩, .int .u64 0, .int .u64 1, .bool false, .string ⟨#[98]⟩, .string ⟨#[]⟩, .int .u64 0, .int .u64 2, .bool false, .string ⟨#[99]⟩, .string ⟨#[]⟩, .int .u64 0, .int .u64 3, .bool false, .string ⟨#[100]⟩, .string ⟨#[]⟩, .int .u64 0, .int .u64 4] 36) := ⟨_, rfl⟩
 have HBV := aM' (show Below w.heap.size w V5 by rw [hV5]; exact below_alloc HB4.out _)
 have hz := hV5 ▸ blk_new w4 (.cells #[.bool false, .string ⟨#[97]⟩, .string ⟨#[]⟩, .int .u64 0, .int .u64 1, .bool false, .string ⟨#[98]⟩, .string ⟨#[]⟩, .int .u64 0, .int .u64 2, .bool false, .string ⟨#[99]⟩, .string ⟨#[]⟩, .int .u64 0, .int .u64 3, .bool false, .string ⟨#[100]⟩, .string ⟨#[]⟩, .int .u64 0, .int .u64 4] 36)
 have hC := litL_C (xs := l15) hz rfl (by decide)
 have HC := aM' hC
 go_wp2_with fail
 simp only [← hV5]
 clear hz hC hV5
 refine (treeNew.calls 3 (some ⟨w4.heap.size, 0, none⟩) 4 l15 V5 (HK.out.below HBV.out) HC.out (by decide) (by decide) l15_ok).mono ?_
 rintro e w5 ⟨hb, h⟩
 have HB5 := aM' (HBV.out.trans (hb.mono HBV.out.size))
 rcases h with ⟨-, a, gl, cl, VV, gs, rfl, hO⟩ | ⟨hn, -⟩
 case inr => exact absurd l15_new hn
 have HBASE := aM' HBV.out.size
 have HO := aM' hO
 clear hb hO HC HBV
 go_wp2_with fail
 refine (account15.calls ⟨#[97]⟩ 1 _).mono ?_
 rintro e w6 ⟨rfl, hb⟩
 have HB6 := aM' (HB5.out.trans (hb.mono HB5.out.size))
 have HO := aM' (HO.out.keep hb)
 clear hb
 go_wp2_with fail
 refine (account15.calls ⟨#[98]⟩ 2 _).mono ?_
 rintro e w7 ⟨rfl, hb⟩
 have HB7 := aM' (HB6.out.trans (hb.mono HB6.out.size))
 have HO := aM' (HO.out.keep hb)
 clear hb
 go_wp2_with fail
 refine (account15.calls ⟨#[99]⟩ 3 _).mono ?_
 rintro e w8 ⟨rfl, hb⟩
 have HB8 := aM' (HB7.out.trans (hb.mono HB7.out.size))
 have HO := aM' (HO.out.keep hb)
 clear hb
 obtain ⟨V9, hV9⟩ : ∃ V, V = w8.alloc (.cells #[.bool false, .string ⟨#[97]⟩, .string ⟨#[]⟩, .int .u64 0, .int .u64 1, .bool false, .string ⟨#[98]⟩, .string ⟨#[]⟩, .int .u64 0, .int .u64 2, .bool false, .string ⟨#[99]⟩, .string ⟨#[]⟩, .int .u64 0, .int .u64 3] 36) := ⟨_, rfl⟩
 have HBV := aM' (show Below w.heap.size w V9 by rw [hV9]; exact below_alloc HB8.out _)
 have hz := hV9 ▸ blk_new w8 (.cells #[.bool false, .string ⟨#[97]⟩, .string ⟨#[]⟩, .int .u64 0, .int .u64 1, .bool false, .string ⟨#[98]⟩, .string ⟨#[]⟩, .int .u64 0, .int .u64 2, .bool false, .string ⟨#[99]⟩, .string ⟨#[]⟩, .int .u64 0, .int .u64 3] 36)
 have hC := litL_C (xs := l15b) hz rfl (by decide)
 have HO := aM' (HO.out.keep (show Below w8.heap.size w8 V9 by rw [hV9]; exact below_alloc (Below.refl _ _) _))
 have HC := aM' hC
 go_wp2_with fail
 simp only [← hV9]
 clear hz hC hV9
 refine (treeNew.calls 3 (some ⟨w8.heap.size, 0, none⟩) 3 l15b V9 (HK.out.below HBV.out) HC.out (by decide) (by decide) l15b_ok).mono ?_
 rintro e w9 ⟨hb, h⟩
 have HB9 := aM' (HBV.out.trans (hb.mono HBV.out.size))
 have HO := aM' (HO.out.keep hb)
 rcases h with ⟨hn, -⟩ | ⟨-, rfl⟩
 case inl => exact absurd (l15b_new.symm.trans hn) (by decide)
 rw [l15b_new]
 clear hb HC HBV
 go_wp2_with fail
 refine (account15.calls ⟨#[]⟩ 1 _).mono ?_
 rintro e w10 ⟨rfl, hb⟩
 have HB10 := aM' (HB9.out.trans (hb.mono HB9.out.size))
 have HO := aM' (HO.out.keep hb)
 clear hb
 obtain ⟨V11, hV11⟩ : ∃ V, V = w10.alloc (.cells #[.bool false, .string ⟨#[]⟩, .string ⟨#[]⟩, .int .u64 0, .int .u64 1] 36) := ⟨_, rfl⟩
 have HBV := aM' (show Below w.heap.size w V11 by rw [hV11]; exact below_alloc HB10.out _)
 have hz := hV11 ▸ blk_new w10 (.cells #[.bool false, .string ⟨#[]⟩, .string ⟨#[]⟩, .int .u64 0, .int .u64 1] 36)
 have hC := litL_C (xs := l15c) hz rfl (by decide)
 have HO := aM' (HO.out.keep (show Below w10.heap.size w10 V11 by rw [hV11]; exact below_alloc (Below.refl _ _) _))
 have HC := aM' hC
 go_wp2_with fail
 simp only [← hV11]
 clear hz hC hV11
 refine (treeNew.calls 3 (some ⟨w10.heap.size, 0, none⟩) 1 l15c V11 (HK.out.below HBV.out) HC.out (by decide) (by decide) l15c_ok).mono ?_
 rintro e w11 ⟨hb, h⟩
 have HB11 := aM' (HBV.out.trans (hb.mono HBV.out.size))
 have HO := aM' (HO.out.keep hb)
 rcases h with ⟨hn, -⟩ | ⟨-, rfl⟩
 case inl => exact absurd (l15c_new.symm.trans hn) (by decide)
 rw [l15c_new]
 clear hb HC HBV
 obtain ⟨hkk, hlen⟩ : NewOk 3 l15 ∧ l15.length ≤ 1024 := ⟨newI_zero l15_new l15_ok, by decide⟩
 have HKK := aM' hkk
 have HLN := aM' hlen
 clear hkk hlen
 have q12 := tNode.calls a _ 1 0 w11 (HO.out.readT HKK.out HLN.out) (by decide)
 obtain ⟨x0, hx0⟩ : ∃ x, x = (nodeAtI (treeT 3 l15) 1 0).1 := ⟨_, rfl⟩
 rw [← hx0, l15_nodes.2.1] at q12
 have HX0 := aM' hx0
 clear hx0
 have Q := aM' q12
 clear q12
 go_wp2_with fail
 refine Q.out.mono ?_
 rintro e w12 ⟨rfl, hb⟩
 have HB12 := aM' (HB11.out.trans (hb.mono HB11.out.size))
 have HO := aM' (HO.out.keep hb)
 clear hb Q
 obtain ⟨gN0, hg⟩ : ∃ g, g = w12.heap.size := ⟨_, rfl⟩
 obtain ⟨w13, hw⟩ : ∃ V, V = w12.alloc (.cells #[.string x0.f0, .int .u64 x0.f1.f0, .int .u64 x0.f1.f1] 46) := ⟨_, rfl⟩
 have hb : Below w12.heap.size w12 w13 := by rw [hw]; exact below_alloc (Below.refl _ _) _
 have HB13 := aM' (HB12.out.trans (hb.mono HB12.out.size))
 have HO := aM' (HO.out.keep hb)
 have HN0 := aM' (show w13.heap[gN0]? = some (.cells #[.string x0.f0, .int .u64 x0.f1.f0, .int .u64 x0.f1.f1] 46 (0, 0)) by rw [hw, hg]; exact blk_new _ _)
 go_upto_region 7 with (fail)
 simp only [← hg, ← hw]
 clear hg hw hb
 have q14 := tNode.calls a _ 1 1 w13 (HO.out.readT HKK.out HLN.out) (by decide)
 obtain ⟨x1, hx1⟩ : ∃ x, x = (nodeAtI (treeT 3 l15) 1 1).1 := ⟨_, rfl⟩
 rw [← hx1, l15_nodes.2.2.2.1] at q14
 have HX1 := aM' hx1
 clear hx1
 have Q := aM' q14
 clear q14
 go_wp2_with fail
 refine Q.out.mono ?_
 rintro e w14 ⟨rfl, hb⟩
 have HB14 := aM' (HB13.out.trans (hb.mono HB13.out.size))
 have HO := aM' (HO.out.keep hb)
 have HN0 := aM' (blk_below HN0.out hb)
 clear hb Q
 obtain ⟨gN1, hg⟩ : ∃ g, g = w14.heap.size := ⟨_, rfl⟩
 obtain ⟨w15, hw⟩ : ∃ V, V = w14.alloc (.cells #[.string x1.f0, .int .u64 x1.f1.f0, .int .u64 x1.f1.f1] 46) := ⟨_, rfl⟩
 have hb : Below w14.heap.size w14 w15 := by rw [hw]; exact below_alloc (Below.refl _ _) _
 have HB15 := aM' (HB14.out.trans (hb.mono HB14.out.size))
 have HO := aM' (HO.out.keep hb)
 have HN0 := aM' (blk_below HN0.out hb)
 have HN1 := aM' (show w15.heap[gN1]? = some (.cells #[.string x1.f0, .int .u64 x1.f1.f0, .int .u64 x1.f1.f1] 46 (0, 0)) by rw [hw, hg]; exact blk_new _ _)
 go_upto_region 8 with (fail)
 simp only [← hg, ← hw]
 clear hg hw hb
 have q16 := tNode.calls a _ 1 2 w15 (HO.out.readT HKK.out HLN.out) (by decide)
 obtain ⟨x2, hx2⟩ : ∃ x, x = (nodeAtI (treeT 3 l15) 1 2).1 := ⟨_, rfl⟩
 rw [← hx2, l15_nodes.2.2.2.2] at q16
 have HX2 := aM' hx2
 clear hx2
 have Q := aM' q16
 clear q16
 go_wp2_with fail
 refine Q.out.mono ?_
 rintro e w16 ⟨rfl, hb⟩
 have HB16 := aM' (HB15.out.trans (hb.mono HB15.out.size))
 have HO := aM' (HO.out.keep hb)
 have HN0 := aM' (blk_below HN0.out hb)
 have HN1 := aM' (blk_below HN1.out hb)
 clear hb Q
 obtain ⟨gN2, hg⟩ : ∃ g, g = w16.heap.size := ⟨_, rfl⟩
 obtain ⟨w17, hw⟩ : ∃ V, V = w16.alloc (.cells #[.string x2.f0, .int .u64 x2.f1.f0, .int .u64 x2.f1.f1] 46) := ⟨_, rfl⟩
 have hb : Below w16.heap.size w16 w17 := by rw [hw]; exact below_alloc (Below.refl _ _) _
 have HB17 := aM' (HB16.out.trans (hb.mono HB16.out.size))
 have HO := aM' (HO.out.keep hb)
 have HN0 := aM' (blk_below HN0.out hb)
 have HN1 := aM' (blk_below HN1.out hb)
 have HN2 := aM' (show w17.heap[gN2]? = some (.cells #[.string x2.f0, .int .u64 x2.f1.f0, .int .u64 x2.f1.f1] 46 (0, 0)) by rw [hw, hg]; exact blk_new _ _)
 go_upto_region 9 with (fail)
 simp only [← hg, ← hw]
 clear hg hw hb
 have Q := aM' (tRoot.calls a _ w17 (HO.out.readT HKK.out HLN.out))
 unfold rootV at Q
 rw [l15_root.2] at Q
 obtain ⟨rt, hrt⟩ : ∃ x, x = topI (treeT 3 l15) := ⟨_, rfl⟩
 rw [← hrt] at Q
 have HRT := aM' hrt
 clear hrt
 go_wp2_with fail
 refine Q.out.mono ?_
 rintro e w18 ⟨rfl, hb⟩
 have HB18 := aM' (HB17.out.trans (hb.mono HB17.out.size))
 have HO := aM' (HO.out.keep hb)
 have HN0 := aM' (blk_below HN0.out hb)
 have HN1 := aM' (blk_below HN1.out hb)
 have HN2 := aM' (blk_below HN2.out hb)
 clear hb Q
 obtain ⟨gR, hg⟩ : ∃ g, g = w18.heap.size := ⟨_, rfl⟩
 obtain ⟨w19, hw⟩ : ∃ V, V = w18.alloc (.cells #[.string rt.f0, .int .u64 rt.f1.f0, .int .u64 rt.f1.f1, .int .i64 2] 41) := ⟨_, rfl⟩
 have hb : Below w18.heap.size w18 w19 := by rw [hw]; exact below_alloc (Below.refl _ _) _
 have HB19 := aM' (HB18.out.trans (hb.mono HB18.out.size))
 have HO := aM' (HO.out.keep hb)
 have HN0 := aM' (blk_below HN0.out hb)
 have HN1 := aM' (blk_below HN1.out hb)
 have HN2 := aM' (blk_below HN2.out hb)
 have HR := aM' (show w19.heap[gR]? = some (.cells #[.string rt.f0, .int .u64 rt.f1.f0, .int .u64 rt.f1.f1, .int .i64 2] 41 (0, 0)) by rw [hw, hg]; exact blk_new _ _)
 go_upto_region 10 with (fail)
 simp only [← hg, ← hw]
 clear hg hw hb
 have y0 := blk_cell HN0.out 2
 have y1 := blk_cell HN1.out 2
 have r0 := blk_cell HR.out 0
 have r2 := blk_cell HR.out 2
 have r3 := blk_cell HR.out 3
 simp at y0 y1 r0 r2 r3
 have e0 : x0.f1.f1 = 3 := by rw [HX0.out]; exact l15_nodes.1
 have e1 : x1.f1.f1 = 7 := by rw [HX1.out]; exact l15_nodes.2.2.1
 have e2 : rt.f1.f1 = 10 := by rw [HRT.out]; exact l15_root.1
 have e3 : (rt.f0.size : Int) = 3 := by rw [HRT.out]; exact top_size HKK.out
 rw [e0] at y0
 rw [e1] at y1
 rw [e2] at r2
 clear HX0 HX1 HX2 HRT
 go_wp2_with fail
 refine (account15.calls ⟨#[98]⟩ 5 _).mono ?_
 rintro e w20 ⟨rfl, hb⟩
 have HB20 := aM' (HB19.out.trans (hb.mono HB19.out.size))
 have HO := aM' (HO.out.keep hb)
 clear hb
 go_wp2_with fail
 refine (tSet.calls _ a gl cl VV gs 3 l15 1 (acc15 ⟨#[98]⟩ 5) w20 (HK.out.below HB20.out) HO.out HKK.out HLN.out (acc_ok _ _ (by decide) (by decide)) (by decide)).mono ?_
 rintro e w21 ⟨rfl, hO, hT⟩
 rw [l15_set.1]
 have HOS := aM' hO
 have HBS := aM' (HB20.out.trans ((hT.toBelow (b := w.heap.size) (fun k hk => Nat.le_trans HBASE.out (HO.out.lt k hk).1) HB20.out.size)))
 have HKS := aM' (newI_zero (newI_setL (p := 1) (x := acc15 ⟨#[98]⟩ 5) l15_new) (setL_ok l15_ok (acc_ok _ _ (by decide) (by decide))))
 have Q := aM' (tRoot.calls a _ w21 (HOS.out.readT HKS.out (by rw [setL_len]; decide)))
 unfold rootV at Q
 obtain ⟨rt2, hrt2⟩ : ∃ x, x = topI (treeT 3 (setL 3 l15 1 (acc15 ⟨#[98]⟩ 5))) := ⟨_, rfl⟩
 have e5 : rt2.f1.f1 = 13 := by rw [hrt2]; exact l15_set.2
 rw [← hrt2, e5] at Q
 obtain ⟨hh, hhh⟩ : ∃ h : Int, h = ((treeT 3 (setL 3 l15 1 (acc15 ⟨#[98]⟩ 5))).rows.length : Int) - 1 := ⟨_, rfl⟩
 rw [← hhh] at Q
 clear hhh
 clear hO hT hrt2 y0 y1 r0 r2 r3 e0 e1 e2 e5
 go_wp2_with fail
 refine Q.out.mono ?_
 rintro e wz ⟨rfl, hb⟩
 have HBZ := aM' (HBS.out.trans (hb.mono HBS.out.size))
 clear hb Q
 have hfd := rootTotal rt2.f0 rt2.f1.f0 13 hh wz
 have hfe := u128Lo rt2.f1.f0 13 wz
 go_wp2
 go_ret
 exact ⟨rfl, HBZ.out⟩
end Go.Proofs.YtfcodmdckcihmaaDoor.P
namespace Go.Proofs.YtfcodmdckcihmaaDoor.P
open Go.RowKit Go.Proofs.YtfcodmdckcihmaaDoorW.PrintWords Go.Proofs.YtfcodmdckcihmaaDoorW.PrintLast Go.Proofs.YtfcodmdckcihmaaDoorW.PrintMore
set_option linter.unusedVariables false
set_option linter.unusedSimpArgs false
set_option linter.unnecessarySimpa false
theorem rows_len (wd : Int) (k : List SLeaf) : (treeT wd k).rows.length = k.length.log2 + 1 := by
 have h : (treeT wd k).rows = levelsV wd k.length.log2 (k.map (leafNodeI wd)) := rfl
 rw [h, levelsV_len]
section
variable {b a gl cl : Nat} {VV : Value} {gs : List RowG} {wd : Int} {k : List SLeaf} {V : World}
theorem TreeOwn.rootC {m : Nat} {rt : SNode} (h : TreeOwn b V a (treeT wd k) gl cl VV gs) (hn : NewOk wd k) (hl : k.length ≤ 1024) (hm : m = k.length.log2) (hr : rt = topI (treeT wd k)) :
  Calls Tryd.prog 21 #[ptrT a] V fun e w' => e = .returned (.agg #[.string rt.f0, .int .u64 rt.f1.f0, .int .u64 rt.f1.f1, .int .i64 (m : Int)]) ∧ Below V.heap.size V w' := by
 have q := tRoot.calls a _ V (h.readT hn hl)
 unfold rootV at q
 rw [rows_len, ← hm, ← hr, show ((m + 1 : Nat) : Int) - 1 = (m : Int) by omega] at q
 exact q
theorem TreeOwn.heightC {m : Nat} (h : TreeOwn b V a (treeT wd k) gl cl VV gs) (hn : NewOk wd k) (hl : k.length ≤ 1024) (hm : m = k.length.log2) :
  Calls Tryd.prog 19 #[ptrT a] V fun e w' => e = .returned (.int .i64 (m : Int)) ∧ V = w' := by
 have q := tHeight.calls a _ V (h.readT hn hl)
 rw [rows_len, ← hm, show ((m + 1 : Nat) : Int) - 1 = (m : Int) by omega] at q
 exact q
theorem node_is {m n p q : Nat} {x : SNode} (hn : NewOk wd k) (hm : m = k.length.log2) (hnm : n ≤ m) (hp : p < k.length) (hq : q = p / 2 ^ n) (hx : x = (upV wd n (k.map (leafNodeI wd))).getD q nodeZ) : nodeAtI (treeT wd k) (n : Int) (q : Int) = (x, true) := by
 rw [nodeAt_tree wd _ n (by omega), Int.toNat_natCast, ← hx]
 have hl : (k.map (leafNodeI wd)).length = 2 ^ m := by rw [List.length_map, hm]; exact hn.p
 have h1 := upV_len2 (w := wd) hl n hnm
 have h2 := div_lt (p := p) (K := m) (by rw [List.length_map] at hl; omega) hnm
 rw [h1, hq, decide_eq_true h2]
theorem TreeOwn.nodeC {n q : Nat} {x : SNode} {t : Bool} (h : TreeOwn b V a (treeT wd k) gl cl VV gs) (hn : NewOk wd k) (hl : k.length ≤ 1024) (hx : nodeAtI (treeT wd k) (n : Int) (q : Int) = (x, t)) :
  Calls Tryd.prog 24 #[ptrT a, .int .i64 (n : Int), .int .u64 (q : Int)] V fun e w' => e = .returned (.tuple #[nodeV x, .bool t]) ∧ Below V.heap.size V w' := by
 have z := tNode.calls a _ (n : Int) (q : Int) V (h.readT hn hl) (by omega)
 rw [hx] at z
 exact z
end
end Go.Proofs.YtfcodmdckcihmaaDoor.P
namespace Go.Proofs.YtfcodmdckcihmaaDoor.P
open Go.RowKit Go.Proofs.YtfcodmdckcihmaaDoorW.PrintWords Go.Proofs.YtfcodmdckcihmaaDoorW.PrintLast Go.Proofs.YtfcodmdckcihmaaDoorW.PrintMore
set_option linter.unusedVariables false
set_option linter.unusedSimpArgs false
set_option linter.unnecessarySimpa false
theorem top_tree {wd : Int} {k : List SLeaf} (hn : NewOk wd k) : topI (treeT wd k) = treeV wd k.length.log2 (k.map (leafNodeI wd)) := by
 have hl : (k.map (leafNodeI wd)).length = 2 ^ k.length.log2 := by rw [List.length_map]; exact hn.p
 rw [levels_top, ← upV_top wd _ _ hl]
 have h1 := upV_len2 (w := wd) hl k.length.log2 (Nat.le_refl _)
 rw [Nat.sub_self] at h1
 match e : upV wd k.length.log2 (k.map (leafNodeI wd)), h1 with
 | [y], _ => rfl
theorem all_of {wd : Int} {l : List SNode} (h : ∀ x ∈ l, NodeK wd x) : l.all (nodeOf wd) = true := List.all_eq_true.2 fun x hx => (h x hx).of
theorem fold_all {wd : Int} {k : List SLeaf} (hn : NewOk wd k) (hl : k.length ≤ 300) : node_Fold.f wd (k.map (leafNodeI wd)) = some ((topI (treeT wd k)).f0, (topI (treeT wd k)).f1.f0, (topI (treeT wd k)).f1.f1, 0) := by
 unfold node_Fold.f
 rw [if_pos ⟨by rw [List.length_map]; exact hl, fun x hx => ⟨(hn.k x hx).u.h0, (hn.k x hx).u.h1⟩⟩, foldI_pow hn.w.1 hn.w.2 (by rw [List.length_map]; exact hn.p) (all_of hn.k), if_pos hn.t, top_tree hn]
theorem totL_part {wd : Int} {l : List SNode} (h : ∀ x ∈ l, NodeK wd x) (i j : Nat) : totL ((l.drop i).take j) ≤ totL l := by
 have a1 := totL_append (l.take i) (l.drop i)
 have a2 := totL_append ((l.drop i).take j) ((l.drop i).drop j)
 rw [List.take_append_drop] at a1 a2
 have b1 := totL_nn (l := l.take i) fun x hx => h x (List.mem_of_mem_take hx)
 have b2 := totL_nn (l := (l.drop i).drop j) fun x hx => h x (List.mem_of_mem_drop (List.mem_of_mem_drop hx))
 omega
theorem fold_part {wd : Int} {k : List SLeaf} (hn : NewOk wd k) (hl : k.length ≤ 300) {m n q : Nat} {x : SNode} (hm : m = k.length.log2) (hnm : n ≤ m) (hq : q < 2 ^ (m - n)) (hx : x = (upV wd n (k.map (leafNodeI wd))).getD q nodeZ) :
  node_Fold.f wd (((k.map (leafNodeI wd)).drop (q * 2 ^ n)).take (2 ^ n)) = some (x.f0, x.f1.f0, x.f1.f1, 0) := by
 have hlm : (k.map (leafNodeI wd)).length = 2 ^ m := by rw [List.length_map, hm]; exact hn.p
 have h1 : (q + 1) * 2 ^ n ≤ 2 ^ m := by
  have := Nat.mul_le_mul_right (2 ^ n) (show q + 1 ≤ 2 ^ (m - n) from hq)
  rw [← Nat.pow_add, show m - n + n = m by omega] at this
  exact this
 have h2 : (q + 1) * 2 ^ n = q * 2 ^ n + 2 ^ n := by rw [Nat.add_mul, Nat.one_mul]
 have hlen : (((k.map (leafNodeI wd)).drop (q * 2 ^ n)).take (2 ^ n)).length = 2 ^ n := by rw [List.length_take, List.length_drop, hlm]; omega
 have hk : ∀ y ∈ ((k.map (leafNodeI wd)).drop (q * 2 ^ n)).take (2 ^ n), NodeK wd y := fun y hy => hn.k y (List.mem_of_mem_drop (List.mem_of_mem_take hy))
 have hc := upV_chunk wd n m q _ hlm hnm hq
 have ht := totL_part hn.k (q * 2 ^ n) (2 ^ n)
 have htt := hn.t
 unfold node_Fold.f
 rw [if_pos ⟨by rw [hlen]; rw [List.length_map] at hlm; omega, fun y hy => ⟨(hk y hy).u.h0, (hk y hy).u.h1⟩⟩, foldI_pow hn.w.1 hn.w.2 hlen (all_of hk), if_pos (by omega), ← hc, show (upV wd n (k.map (leafNodeI wd))).getD q zeroN = x from hx.symm]
end Go.Proofs.YtfcodmdckcihmaaDoor.P
namespace Go.Proofs.YtfcodmdckcihmaaDoor.P
open Go.RowKit Go.Proofs.YtfcodmdckcihmaaDoorW.PrintWords Go.Proofs.YtfcodmdckcihmaaDoorW.PrintLast Go.Proofs.YtfcodmdckcihmaaDoorW.PrintMore
set_option linter.unusedVariables false
set_option linter.unusedSimpArgs false
set_option linter.unnecessarySimpa false
theorem heqRoot (d : Nat) (w : World) (x0 y0 : ByteArray) (x1 y1 : Int) (x2 y2 : Int) (x3 y3 : Int) :
  (Op.equalIn (d + 3) 41 (.agg #[.string x0, .int .u64 x1, .int .u64 x2, .int .i64 x3]) (.agg #[.string y0, .int .u64 y1, .int .u64 y2, .int .i64 y3])).run Tryd.prog w = .ok (x0.toList == y0.toList && ((x1 == y1 && (x2 == y2)) && (x3 == y3))) w := by
 refine eqA_of Tryd.underlying41 (by kernel_rfl) ?_
 refine eqf_cons (by rfl) (by go_simp; rfl) (by go_simp; rfl) (by go_simp) ?_
 refine eqf_cons (by rfl) (by go_simp) (by go_simp) (eqAU128 (d + 0) w _ _ _ _) ?_
 exact eqf_last (by rfl) (by go_simp; rfl) (by go_simp; rfl) (by go_simp)
end Go.Proofs.YtfcodmdckcihmaaDoor.P
namespace Go.Proofs.YtfcodmdckcihmaaDoor.P
open Go.RowKit Go.Proofs.YtfcodmdckcihmaaDoorW.PrintWords Go.Proofs.YtfcodmdckcihmaaDoorW.PrintLast Go.Proofs.YtfcodmdckcihmaaDoorW.PrintMore
set_option linter.unusedVariables false
set_option linter.unusedSimpArgs false
set_option linter.unnecessarySimpa false
theorem rdLeaf_nat (l : List SLeaf) (i : Nat) (h : i < l.length) : rd_TLeaf l (i : Int) = l[i] := by simp [rd_TLeaf, h]
theorem great15_loop (l : List SLeaf) (hl : l.length ≤ 9223372036854775807) : ∀ d i : Nat, i + d = l.length → Ev (fun k => paymasterlaw15_Great.l0 k l (i : Int)) ((l.drop i).any fun n => decide (200 < n.f1.size) || decide (200 < n.f2.size)) := by
 intro d
 induction d with
 | zero =>
  intro i hi
  refine Ev.step (f := fun _ => some false) (fun k => ?_) (ev_eq (Ev.now false) ?_)
  ·
   simp only [paymasterlaw15_Great.l0]; rw [if_neg (by omega)]
  ·
   rw [List.drop_of_length_le (by omega)]; rfl
 | succ d ih =>
  intro i hi
  have hlt : i < l.length := by omega
  rw [any_drop_succ _ l i hlt]
  by_cases hb : 200 < l[i].f1.size
  ·
   refine Ev.step (f := fun _ => some true) (fun k => ?_) (ev_eq (Ev.now true) (by simp [hb]))
   simp only [paymasterlaw15_Great.l0]; rw [if_pos (by omega), if_pos (by omega), rdLeaf_nat l i hlt, if_pos (by omega)]
  ·
   by_cases hc : 200 < l[i].f2.size
   ·
    refine Ev.step (f := fun _ => some true) (fun k => ?_) (ev_eq (Ev.now true) (by simp [hc]))
    simp only [paymasterlaw15_Great.l0]; rw [if_pos (by omega), if_pos (by omega), rdLeaf_nat l i hlt, if_neg (by omega), if_pos (by omega)]
   ·
    refine Ev.step (f := fun k => paymasterlaw15_Great.l0 k l ((i + 1 : Nat) : Int)) (fun k => ?_) (ev_eq (ih (i + 1) (by omega)) (by simp [hb, hc]))
    simp only [paymasterlaw15_Great.l0]; rw [if_pos (by omega), if_pos (by omega), rdLeaf_nat l i hlt, if_neg (by omega), if_neg (by omega), wrap64_id (by omega) (by omega)]; rfl
def greatL (l : List SLeaf) : Bool := decide (70 < l.length) || l.any fun n => decide (200 < n.f1.size) || decide (200 < n.f2.size)
theorem great15_ev (l : List SLeaf) (hl : l.length ≤ 9223372036854775807) : Ev (fun k => paymasterlaw15_Great.f k l) (greatL l) := by
 unfold paymasterlaw15_Great.f greatL
 by_cases h : 70 < l.length
 ·
  exact Ev.some_ (fun k => by rw [if_pos (by omega)]; simp [h])
 ·
  refine Ev.congr (fun k => by rw [if_neg (by omega)]; rfl) (ev_eq (great15_loop l hl l.length 0 (by omega)) (by simp [h]))
end Go.Proofs.YtfcodmdckcihmaaDoor.P
namespace Go.Proofs.YtfcodmdckcihmaaDoor.P
open Go.RowKit Go.Proofs.YtfcodmdckcihmaaDoorW.PrintWords Go.Proofs.YtfcodmdckcihmaaDoorW.PrintLast Go.Proofs.YtfcodmdckcihmaaDoorW.PrintMore
set_option linter.unusedVariables false
set_option linter.unusedSimpArgs false
set_option linter.unnecessarySimpa false
attribute [local go_sem high] eqANode heqRoot eqALeaf
theorem greatL_ok {l : List SLeaf} (h : greatL l = false) : l.length ≤ 70 ∧ ∀ x ∈ l, x.f1.size ≤ 200 ∧ x.f2.size ≤ 200 := by
 unfold greatL at h
 simp only [Bool.or_eq_false_iff, decide_eq_false_iff_not, List.any_eq_false] at h
 refine ⟨by omega, fun x hx => ?_⟩
 have := h.2 x hx
 simp at this
 omega
structure TB (w : World) (a ar : Nat) (wd : Int) (l : List SLeaf) (V : World) : Prop where
 t : TreeR a (treeT wd l) V
 r : RefT ar wd l V
 b : Below w.heap.size w V
theorem TB.below {w : World} {a ar : Nat} {wd : Int} {l : List SLeaf} {V V' : World} (h : TB w a ar wd l V) (hb : Below V.heap.size V V') : TB w a ar wd l V' := ⟨h.t.below hb, h.r.below hb, h.b.trans (hb.mono h.b.size)⟩
structure KB (w V0 : World) (g n : Nat) (V : World) : Prop where
 k : ∀ k, k ≠ g → V.heap[k]? = V0.heap[k]?
 c : ∃ cs, V.heap[g]? = some (.cells cs 36 (0, 0)) ∧ n * 5 ≤ cs.size
 b : Below w.heap.size w V
 s : V.heap.size = V0.heap.size
theorem KB.cell {w V0 V : World} {g n i : Nat} (h : KB w V0 g n V) (hi : i < n) : (∃ v, V.cell? ⟨g, i * 5 + 1, none⟩ = some v) ∧ V.frozen? ⟨g, i * 5 + 1, none⟩ = false := by
 obtain ⟨cs, h1, h2⟩ := h.c
 exact ⟨⟨cs[i * 5 + 1]'(by omega), by rw [blk_cell h1]; simp [show i * 5 + 1 < cs.size by omega]⟩, blk_frozen h1 _⟩
theorem KB.put {w V0 V : World} {g n i : Nat} (h : KB w V0 g n V) (hg : w.heap.size ≤ g) (v : Value) : KB w V0 g n (V.setCell ⟨g, i, none⟩ v) := by
 obtain ⟨cs, h1, h2⟩ := h.c
 exact ⟨fun k hk => (Below.heap_setCell _ _ _ _ hk).trans (h.k k hk), ⟨cs.setIfInBounds i v, blk_put h1 i v rfl, by simpa using h2⟩, below_set h.b hg, by simpa using h.s⟩
theorem KB.start {w V0 : World} {base g n cap : Nat} {xs : List SLeaf} (h : V0.ownsRow base 36 5 (.slice (some ⟨g, 0, none⟩) n cap) n (cellsL xs)) (hB : Below w.heap.size w V0) : KB w V0 g n V0 := by
 rcases h.2 with ⟨e, _⟩ | ⟨g', cap', cur, e, _, h2, h3, _, h5, _⟩
 ·
  cases e
 ·
  cases e
  exact ⟨fun _ _ => rfl, ⟨cur, h2, by rw [h5]; exact Nat.mul_le_mul_right 5 h3⟩, hB, rfl⟩
end Go.Proofs.YtfcodmdckcihmaaDoor.P
namespace Go.Proofs.YtfcodmdckcihmaaDoor.P
open Go.RowKit Go.Proofs.YtfcodmdckcihmaaDoorW.PrintWords Go.Proofs.YtfcodmdckcihmaaDoorW.PrintLast Go.Proofs.YtfcodmdckcihmaaDoorW.PrintMore
set_option linter.unusedVariables false
set_option linter.unusedSimpArgs false
set_option linter.unnecessarySimpa false
attribute [local go_sem high] eqANode heqRoot eqALeaf
structure LeafC (V : World) (ap : Addr) (y : SLeaf) : Prop where
 p0 : V.cell? ap = some (.bool y.f0)
 p1 : V.cell? ⟨ap.block, ap.off + 1, none⟩ = some (.string y.f1)
 p2 : V.cell? ⟨ap.block, ap.off + 2, none⟩ = some (.string y.f2)
 p3 : V.cell? ⟨ap.block, ap.off + 3, none⟩ = some (.int .u64 y.f3.f0)
 p4 : V.cell? ⟨ap.block, ap.off + 4, none⟩ = some (.int .u64 y.f3.f1)
theorem leafC_at {V : World} {A : Option Addr} {l : List SLeaf} {p : Nat} (h : Kd.C kLeaf V A l.length l) (hp : p < l.length) (hn : l.length ≤ 1024) : ∃ ad, A = some ad ∧ LeafC V (ad.add (p * 5)) l[p] := by
 obtain ⟨ad, e1, p0, p1, p2, p3, p4⟩ := at_TLeaf h (p : Int) (by omega) (by omega)
 have e3 : rd_TLeaf l (p : Int) = l[p] := by rw [rd_TLeaf, Int.toNat_natCast]; simp [List.getD_eq_getElem?_getD, hp]
 rw [e3, Int.toNat_natCast] at p0 p1 p2 p3 p4
 exact ⟨ad, e1, ⟨p0, p1, p2, p3, p4⟩⟩
theorem LeafC.below {V V' : World} {ap : Addr} {y : SLeaf} (h : LeafC V ap y) (hb : Below V.heap.size V V') : LeafC V' ap y := ⟨pw_cell_below hb h.p0, pw_cell_below hb h.p1, pw_cell_below hb h.p2, pw_cell_below hb h.p3, pw_cell_below hb h.p4⟩
structure At18 (w w' : World) (g12 g17 : Nat) (rt : SNode) (m : Int) (ap : Addr) (y : SLeaf) : Prop where
 b : Below w.heap.size w w'
 r : w'.heap[g12]? = some (.cells #[.string rt.f0, .int .u64 rt.f1.f0, .int .u64 rt.f1.f1, .int .i64 m] 41 (0, 0))
 k : w'.heap[g17]? = some (.cells #[.bool y.f0, .string y.f1, .string y.f2, .int .u64 y.f3.f0, .int .u64 y.f3.f1] 36 (0, 0))
 l : LeafC w' ap y
theorem At18.of {w W : World} {g12 g17 : Nat} {rt : SNode} {m : Int} {ap : Addr} {y : SLeaf} {C : Prop} (h : C ∧ At18 w W g12 g17 rt m ap y) : At18 w W g12 g17 rt m ap y := h.2
theorem At18.keep {w W w' : World} {g12 g17 : Nat} {rt : SNode} {m : Int} {ap : Addr} {y : SLeaf} (k : Below W.heap.size W w') (h : At18 w W g12 g17 rt m ap y) : At18 w w' g12 g17 rt m ap y := ⟨h.b.trans (k.mono h.b.size), blk_below h.r k, blk_below h.k k, h.l.below k⟩
theorem At18.cells {w w' : World} {g12 g17 : Nat} {rt : SNode} {m : Int} {ap : Addr} {y : SLeaf} (h : At18 w w' g12 g17 rt m ap y) : ((w'.cell? ⟨g12, 0, none⟩ = some (.string rt.f0) ∧ w'.cell? ⟨g12, 1, none⟩ = some (.int .u64 rt.f1.f0) ∧ w'.cell? ⟨g12, 2, none⟩ = some (.int .u64 rt.f1.f1) ∧ w'.cell? ⟨g12, 3, none⟩ = some (.int .i64 m)) ∧ (w'.cell? ⟨g17, 0, none⟩ = some (.bool y.f0) ∧ w'.cell? ⟨g17, 1, none⟩ = some (.string y.f1) ∧ w'.cell? ⟨g17, 2, none⟩ = some (.string y.f2) ∧ w'.cell? ⟨g17, 3, none⟩ = some (.int .u64 y.f3.f0) ∧ w'.cell? ⟨g17, 4, none⟩ = some (.int .u64 y.f3.f1)) ∧ (w'.cell? ap = some (.bool y.f0) ∧ w'.cell? ⟨ap.block, ap.off + 1, none⟩ = some (.string y.f1) ∧ w'.cell? ⟨ap.block, ap.off + 2, none⟩ = some (.string y.f2) ∧ w'.cell? ⟨ap.block, ap.off + 3, none⟩ = some (.int .u64 y.f3.f0) ∧ w'.cell? ⟨ap.block, ap.off + 4, none⟩ = some (.int .u64 y.f3.f1))) ∧ At18 w w' g12 g17 rt m ap y :=
 ⟨⟨⟨(blk_cell h.r 0).trans rfl, (blk_cell h.r 1).trans rfl, (blk_cell h.r 2).trans rfl, (blk_cell h.r 3).trans rfl⟩, ⟨(blk_cell h.k 0).trans rfl, (blk_cell h.k 1).trans rfl, (blk_cell h.k 2).trans rfl, (blk_cell h.k 3).trans rfl, (blk_cell h.k 4).trans rfl⟩, ⟨h.l.p0, h.l.p1, h.l.p2, h.l.p3, h.l.p4⟩⟩, h⟩
structure At28 (w w' : World) (g12 : Nat) (rt : SNode) (m : Int) (ap : Addr) (y : SLeaf) : Prop where
 b : Below w.heap.size w w'
 r : w'.heap[g12]? = some (.cells #[.string rt.f0, .int .u64 rt.f1.f0, .int .u64 rt.f1.f1, .int .i64 m] 41 (0, 0))
 l : LeafC w' ap y
theorem At28.of {w W : World} {g12 : Nat} {rt : SNode} {m : Int} {ap : Addr} {y : SLeaf} {C : Prop} (h : C ∧ At28 w W g12 rt m ap y) : At28 w W g12 rt m ap y := h.2
theorem At28.keep {w W w' : World} {g12 : Nat} {rt : SNode} {m : Int} {ap : Addr} {y : SLeaf} (k : Below W.heap.size W w') (h : At28 w W g12 rt m ap y) : At28 w w' g12 rt m ap y := ⟨h.b.trans (k.mono h.b.size), blk_below h.r k, h.l.below k⟩
theorem At28.cells {w w' : World} {g12 : Nat} {rt : SNode} {m : Int} {ap : Addr} {y : SLeaf} (h : At28 w w' g12 rt m ap y) : ((w'.cell? ⟨g12, 0, none⟩ = some (.string rt.f0) ∧ w'.cell? ⟨g12, 1, none⟩ = some (.int .u64 rt.f1.f0) ∧ w'.cell? ⟨g12, 2, none⟩ = some (.int .u64 rt.f1.f1) ∧ w'.cell? ⟨g12, 3, none⟩ = some (.int .i64 m)) ∧ (w'.cell? ap = some (.bool y.f0) ∧ w'.cell? ⟨ap.block, ap.off + 1, none⟩ = some (.string y.f1) ∧ w'.cell? ⟨ap.block, ap.off + 2, none⟩ = some (.string y.f2) ∧ w'.cell? ⟨ap.block, ap.off + 3, none⟩ = some (.int .u64 y.f3.f0) ∧ w'.cell? ⟨ap.block, ap.off + 4, none⟩ = some (.int .u64 y.f3.f1))) ∧ At28 w w' g12 rt m ap y :=
 ⟨⟨⟨(blk_cell h.r 0).trans rfl, (blk_cell h.r 1).trans rfl, (blk_cell h.r 2).trans rfl, (blk_cell h.r 3).trans rfl⟩, ⟨h.l.p0, h.l.p1, h.l.p2, h.l.p3, h.l.p4⟩⟩, h⟩
end Go.Proofs.YtfcodmdckcihmaaDoor.P
namespace Go.Proofs.YtfcodmdckcihmaaDoor.P
open Go.RowKit Go.Proofs.YtfcodmdckcihmaaDoorW.PrintWords Go.Proofs.YtfcodmdckcihmaaDoorW.PrintLast Go.Proofs.YtfcodmdckcihmaaDoorW.PrintMore
set_option linter.unusedVariables false
set_option linter.unusedSimpArgs false
set_option linter.unnecessarySimpa false
attribute [local go_sem high] eqANode eqAU128
/-! The law TreeFolded, walked. -/
/-- A level's places, reckoned. -/
theorem fold_nums {L m n s : Nat} {pos : Int} (hL : L = 2 ^ m) (h70 : L ≤ 70) (hnm : n ≤ m) (hs : s = 2 ^ n) (hpos : 0 ≤ pos ∧ pos < 65536) :
    ∃ d p lo hi : Nat, (p < 2 ^ (m - n) ∧ lo = p * 2 ^ n) ∧ (hi ≤ L ∧ hi = lo + s ∧ 0 < s) ∧ ((L : Int) / (s : Int) = (d : Int) ∧ Int.tdiv (L : Int) (s : Int) = (d : Int)) ∧ Int.tmod pos (d : Int) = (p : Int) ∧ (wrap64 ((p : Int) * (s : Int)) = (lo : Int) ∧ wrap64 (((p : Int) + 1) * (s : Int)) = (hi : Int)) ∧ p ≤ 70 ∧ d ≤ 70 ∧ ((s : Int) ≠ 0 ∧ (d : Int) ≠ 0) ∧ lo < hi ∧ hi - lo = s := by
  have hsd : L = 2 ^ (m - n) * s := by rw [hL, hs, ← Nat.pow_add]; congr 1; omega
  have hs0 : 0 < s := by rw [hs]; exact Nat.two_pow_pos _
  have hd0 : 0 < 2 ^ (m - n) := Nat.two_pow_pos _
  generalize hd : 2 ^ (m - n) = d at hsd hd0
  have hdl : d ≤ L := by
    have := Nat.mul_le_mul_left d hs0
    rw [hsd]; omega
  have hquo : (L : Int) / (s : Int) = (d : Int) := by
    rw [hsd]; push_cast; exact Int.mul_ediv_cancel _ (by omega)
  have hqt : Int.tdiv (L : Int) (s : Int) = (d : Int) := by rw [Int.tdiv_eq_ediv_of_nonneg (by omega)]; exact hquo
  have e0 := Int.emod_nonneg pos (show (d : Int) ≠ 0 by omega)
  have e1 := Int.emod_lt_of_pos pos (show (0 : Int) < (d : Int) by omega)
  have hp : ((pos % (d : Int)).toNat : Int) = pos % (d : Int) := Int.toNat_of_nonneg e0
  have hrem : Int.tmod pos (d : Int) = ((pos % (d : Int)).toNat : Int) := by rw [hp]; exact Int.tmod_eq_emod_of_nonneg hpos.1
  generalize (pos % (d : Int)).toNat = p at hp hrem
  have hpd : p < d := by omega
  have hle : (p + 1) * s ≤ L := by rw [hsd]; exact Nat.mul_le_mul_right s hpd
  have hhl : (p + 1) * s = p * s + s := by rw [Nat.add_mul, Nat.one_mul]
  have c1 : (p : Int) * (s : Int) = ((p * s : Nat) : Int) := by push_cast; rfl
  have c2 : ((p : Int) + 1) * (s : Int) = (((p + 1) * s : Nat) : Int) := by push_cast; rfl
  refine ⟨d, p, p * s, (p + 1) * s, ⟨hpd, by rw [hs]⟩, ⟨hle, hhl, hs0⟩, ⟨hquo, hqt⟩, hrem, ⟨?_, ?_⟩, ?_, ?_, ⟨by clear hsd hquo hqt hle hhl c1 c2; omega, by clear hsd hquo hqt hle hhl c1 c2; omega⟩, ?_, ?_⟩
  · rw [c1]; generalize p * s = x at *; exact wrap64_id (by omega) (by omega)
  · rw [c2]; generalize (p + 1) * s = x at *; exact wrap64_id (by omega) (by omega)
  · clear hsd hquo hqt hle hhl c1 c2; omega
  · clear hsd hquo hqt hle hhl c1 c2; omega
  · rw [hhl]; clear hsd hquo hqt hle hhl c1 c2; generalize p * s = x; omega
  · rw [hhl]; clear hsd hquo hqt hle hhl c1 c2; generalize p * s = x; omega
theorem slice_mid (ad : Addr) (M c lo hi : Nat) (h : lo < hi) (hm : hi ≤ M) (hc : M ≤ c) (wx : World) : (Instr.slice 43 (.slice (some ad) M c) (some (.int .i64 lo)) (some (.int .i64 hi)) none).run Tryd.prog wx = .ok (.slice (some (ad.add (lo * 3))) (hi - lo) (c - lo)) wx := by
  have h1 := run_slice_lh (P := Tryd.prog) wx 43 (some ad) M c (by kernel_rfl) .i64 .i64 (lo : Int) (hi : Int) (by omega) (by omega) (by omega)
  rw [h1]
  have hs : (sizeOf (Tryd.prog.elem 43)).run Tryd.prog wx = .ok 3 wx := by kernel_rfl
  rw [hs]
  simp only [Result.andThen, sliced, Int.toNat_natCast]
  rw [if_neg (by omega)]; rfl
set_option maxRecDepth 100000 in
set_option maxHeartbeats 8000000 in
theorem lawTFold.calls (wd : Int) (A : Option Addr) (c : Nat) (l : List SLeaf) (lev pos : Int) (w : World) (hK : LaidT w) (hr : Kd.C kLeaf w A l.length l) (hc : l.length ≤ c) (hub : ∀ x ∈ l, OkU x.f3) (hll : l.length ≤ 9223372036854775807) (hlev : 0 ≤ lev ∧ lev < 256) (hpos : 0 ≤ pos ∧ pos < 65536) :
    Calls Tryd.prog 6 #[.int .i64 wd, .slice A l.length c, .int .u8 lev, .int .u16 pos] w fun e w' => e = .returned (.bool true) ∧ Below w.heap.size w w' := by
  have HK := Aside0.mk hK
  have HR := Aside0.mk hr
  have HC := Aside0.mk hc
  have HLP := Aside0.mk (And.intro hlev hpos)
  have HUB := Aside0.mk hub
  obtain ⟨i0, hi, hz0, hz1, hz2⟩ := info_parts nodeInfo
  obtain ⟨kg, hkg⟩ := (great15_ev l hll).rounds
  obtain ⟨gr, hgr⟩ : ∃ g, g = greatL l := ⟨_, rfl⟩
  rw [← hgr] at hkg
  have HG := Aside0.mk hkg
  have HGR := Aside0.mk hgr
  clear hK hr hc hub hll hpos hlev hkg hgr
  go_enter Tryd.func6, Tryd.ntmps6
  go_wp2_with fail
  refine (awake15.calls w HK.out).mono ?_
  rintro e w1 ⟨rfl, hb⟩
  have HB1 := Aside0.mk hb
  clear hb
  go_wp2_with fail
  refine (paymasterlaw15_Great.calls kg A c l gr _ (Kd.C_below HR.out HB1.out) HC.out HG.out).mono ?_
  rintro e w2 ⟨rfl, hd⟩
  obtain ⟨nd, rfl⟩ := hd
  obtain ⟨W4, hW4⟩ : ∃ V, V = w1.drewN nd := ⟨_, rfl⟩
  have HB4 := Aside0.mk (show Below w.heap.size w W4 by rw [hW4]; exact pw_below_drewN HB1.out nd)
  rw [← hW4]
  clear hW4
  cases gr with
  | true =>
    go_wp2
    go_ret
    exact ⟨rfl, HB4.out⟩
  | false =>
    obtain ⟨h70, hsz⟩ := greatL_ok HGR.out.symm
    have HOK := Aside0.mk (show ∀ y ∈ l, OkL y from fun y hy => ⟨by have := (hsz y hy).1; omega, by have := (hsz y hy).2; omega, HUB.out y hy⟩)
    have H70 := Aside0.mk h70
    clear h70 hsz
    go_wp2_with fail
    refine (treeNew.calls wd A c l W4 (HK.out.below HB4.out) (Kd.C_below HR.out HB4.out) HC.out (by have := H70.out; omega) HOK.out).mono ?_
    rintro e w5 ⟨hb, h⟩
    have HB5 := Aside0.mk (HB4.out.trans (hb.mono HB4.out.size))
    rcases h with ⟨hz, a, gl, cl, VV, gs, rfl, hO⟩ | ⟨hnz, rfl⟩
    case inr =>
      have b0 : (newI wd l == 0) = false := by simp [hnz]
      clear hb hnz
      generalize newI wd l = er at b0
      go_wp2
      go_ret
      exact ⟨rfl, HB5.out⟩
    case inl =>
      have HO5 := Aside0.mk hO
      have HKK := Aside0.mk (newI_zero hz HOK.out)
      have HPW := Aside0.mk (show 1 ≤ l.length from (levels_ok HKK.out (by have := H70.out; omega)).2.2)
      clear hb hz hO
      obtain ⟨nodes, hnodes⟩ : ∃ n, n = l.map (leafNodeI wd) := ⟨_, rfl⟩
      have HND := Aside0.mk hnodes
      have HNL := Aside0.mk (show nodes.length = l.length by rw [hnodes]; exact List.length_map ..)
      clear hnodes
      go_wp2
      go_loopw [11, 12] (fun v11 v12 wr => ∃ i : Nat, v12 = .int .i64 (i : Int) ∧ Aside0 (i ≤ l.length) ∧ Aside0 (Below w5.heap.size w5 wr) ∧ Aside0 (wr.ownsRow w5.heap.size 46 3 v11 i (cellsN (nodes.take i)))) (fun _ v12 _ => l.length - (intOf v12).toNat)
      case atStart => exact ⟨0, rfl, ⟨Nat.zero_le _⟩, ⟨Below.refl _ _⟩, ⟨World.ownsRow_nil _ _ _ _⟩⟩
      case round =>
        obtain ⟨i, rfl, HI, HB, HO⟩ := hrel
        obtain ⟨A8, c8, rfl⟩ : ∃ A8 c8, u11 = .slice A8 i c8 := by
          rcases HO.out.2 with ⟨h, h0⟩ | ⟨g, cap, cur, h, _⟩
          · exact ⟨none, 0, by rw [h, h0]⟩
          · exact ⟨_, _, h⟩
        have hi70 : i ≤ 70 := by have := HI.out; have := H70.out; omega
        by_cases hlt : i < l.length
        · have b1 : decide ((i : Int) < (l.length : Int)) = true := decide_eq_true (by omega)
          have b2 : decide (i < l.length) = true := decide_eq_true hlt
          have hii : (i : Int) < (l.length : Int) := by omega
          obtain ⟨ad, e1, hC⟩ := leafC_at (Kd.C_below HR.out (HB5.out.trans (HB.out.mono HB5.out.size))) hlt (by have := H70.out; omega)
          subst e1
          obtain ⟨x, hx⟩ : ∃ x, x = l[i] := ⟨_, rfl⟩
          rw [← hx] at hC
          obtain ⟨p0, p1, p2, p3, p4⟩ := hC
          have hok : OkL x := by rw [hx]; exact HOK.out _ (List.getElem_mem hlt)
          obtain ⟨kl, hkl⟩ := (tagLeafNode_ev wd x hok.id hok.sa).rounds
          obtain ⟨nx, hnx⟩ : ∃ n, n = leafNodeI wd x := ⟨_, rfl⟩
          rw [← hnx] at hkl
          have HLN := Aside0.mk hkl
          have HTK := Aside0.mk (show nodes.take (i + 1) = nodes.take i ++ [nx] by
            rw [List.take_succ_eq_append_getElem (by rw [HNL.out]; exact hlt)]
            congr 2
            rw [hnx, hx]
            have := HND.out
            subst this
            rw [List.getElem_map])
          have HLT := Aside0.mk hlt
          clear hkl hok hx hnx
          go_wp2_with fail
          refine (tag_LeafNode.calls kl wd x.f0 x.f1 x.f2 x.f3.f0 x.f3.f1 nx.f0 nx.f1.f0 nx.f1.f1 _ (HK.out.below (HB5.out.trans (HB.out.mono HB5.out.size))) HLN.out).mono ?_
          rintro e w3 ⟨rfl, hb⟩
          have HB3 := Aside0.mk (HB.out.trans (hb.mono HB.out.size))
          have HO3 := Aside0.mk (ownB HO.out hb)
          clear hb p0 p1 p2 p3 p4
          go_wp2_with (at_builtin; refine wpList_append_own _ rfl _ _ 43 rfl (w5.heap.size) 46 i0 (.agg #[(.string ⟨#[]⟩), (.int .u64 0), (.int .u64 0)]) 3 32 Tryd.underlying43 hi hz0 hz1 hz2 rfl (by decide) (.slice A8 i c8) i _ rfl (ownB HO3.out (below_alloc (Below.refl _ _) (.cells (nodeA nx) 46))) ⟨w3.heap.size, 0, none⟩ 1 1 [.string nx.f0, .int .u64 nx.f1.f0, .int .u64 nx.f1.f1] rfl rfl ?c2 ?c3 ?c4 ?c5 ?c6 ?_)
          case c2 => exact World.news_of_block (blk_new w3 (.cells (nodeA nx) 46))
          case c3 =>
            intro u hu
            simp only [List.mem_cons, List.not_mem_nil, or_false] at hu
            rcases hu with rfl | rfl | rfl <;> rfl
          case c4 => unfold maxLen; omega
          case c5 => omega
          case c6 => rw [World.size_alloc]; have := HB3.out.size; omega
          intro v' w' hown hgr hnil
          have HB' := Aside0.mk (below_grown (below_alloc HB3.out (.cells (nodeA nx) 46)) hgr (fun r e => (HO3.out.lt r e).1))
          have hown2 : w'.ownsRow w5.heap.size 46 3 v' (i + 1) (cellsN (nodes.take (i + 1))) := by
            rw [HTK.out, cellsN_append]; exact hown
          have HO' := Aside0.mk hown2
          clear hown hgr hnil hown2
          go_wp2
          go_roundw
          case rel => exact ⟨i + 1, by go_num, ⟨by have := HLT.out; omega⟩, HB', HO'⟩
          case measure => simp [intOf]; have := HLT.out; omega
        · obtain rfl : i = l.length := by have := HI.out; omega
          have b1 : decide ((l.length : Int) < (l.length : Int)) = false := decide_eq_false (by omega)
          have b2 : decide (l.length < l.length) = false := decide_eq_false hlt
          have ho := HO.out
          rw [← HNL.out, List.take_length, HNL.out] at ho
          obtain ⟨gc, cc, hv, -, hgc⟩ := ho.form HPW.out
          cases hv
          have hon := ownNodes_C ho
          have HON := Aside0.mk hon
          have HB6 := Aside0.mk (HB5.out.trans (HB.out.mono HB5.out.size))
          obtain ⟨m, hm⟩ : ∃ m, m = l.length.log2 := ⟨_, rfl⟩
          obtain ⟨rt, hrt⟩ : ∃ r, r = topI (treeT wd l) := ⟨_, rfl⟩
          have HMM := Aside0.mk hm
          have HRT := Aside0.mk hrt
          have HL1024 := Aside0.mk (show l.length ≤ 1024 by have := H70.out; omega)
          have HL300 := Aside0.mk (show l.length ≤ 300 by have := H70.out; omega)
          have q := node_Fold.calls wd (some ⟨gc, 0, none⟩) c8 nodes rt.f0 rt.f1.f0 rt.f1.f1 0 wr (HK.out.below HB6.out).1 (by rw [HNL.out]; exact hon.2.2) (by rw [HNL.out]; exact hon.2.1) (by rw [HND.out, hrt]; exact fold_all HKK.out HL300.out)
          rw [HNL.out] at q
          have CF := Aside0.mk q
          have HO6 := Aside0.mk (HO5.out.keep HB.out)
          clear q hm hrt hon ho hgc hi70
          go_wp2_with fail
          refine CF.out.mono ?_
          rintro e w6 ⟨rfl, hb⟩
          obtain ⟨g13, hg13⟩ : ∃ g, g = w6.heap.size := ⟨_, rfl⟩
          obtain ⟨W7, hW7⟩ : ∃ V, V = w6.alloc (.cells #[.string rt.f0, .int .u64 rt.f1.f0, .int .u64 rt.f1.f1] 46) := ⟨_, rfl⟩
          have hb7 : Below wr.heap.size wr W7 := by rw [hW7]; exact below_alloc hb _
          have HB7 := Aside0.mk (HB6.out.trans (hb7.mono HB6.out.size))
          have HO7 := Aside0.mk (HO6.out.keep hb7)
          have HBN7 := Aside0.mk hb7
          have H13 := Aside0.mk (show W7.heap[g13]? = some (.cells #[.string rt.f0, .int .u64 rt.f1.f0, .int .u64 rt.f1.f1] 46 (0, 0)) by rw [hW7, hg13]; exact blk_new _ _)
          go_upto_region 14 with (fail)
          simp only [← hg13, ← hW7]
          clear hg13 hW7 hb hb7
          go_wp2_with fail
          refine (HO7.out.rootC HKK.out HL1024.out HMM.out HRT.out).mono ?_
          rintro e w8 ⟨rfl, hb⟩
          obtain ⟨g15, hg15⟩ : ∃ g, g = w8.heap.size := ⟨_, rfl⟩
          obtain ⟨W9, hW9⟩ : ∃ V, V = w8.alloc (.cells #[.string rt.f0, .int .u64 rt.f1.f0, .int .u64 rt.f1.f1, .int .i64 (m : Int)] 41) := ⟨_, rfl⟩
          have hb9 : Below W7.heap.size W7 W9 := by rw [hW9]; exact below_alloc hb _
          have HB9 := Aside0.mk (HB7.out.trans (hb9.mono HB7.out.size))
          have HO9 := Aside0.mk (HO7.out.keep hb9)
          have HBN9 := Aside0.mk (HBN7.out.trans (hb9.mono HBN7.out.size))
          have H139 := blk_below H13.out hb9
          have H15 := (show W9.heap[g15]? = some (.cells #[.string rt.f0, .int .u64 rt.f1.f0, .int .u64 rt.f1.f1, .int .i64 (m : Int)] 41 (0, 0)) by rw [hW9, hg15]; exact blk_new _ _)
          have n0 := blk_cell H139 0
          have n1 := blk_cell H139 1
          have n2 := blk_cell H139 2
          have r0 := blk_cell H15 0
          have r1 := blk_cell H15 1
          have r2 := blk_cell H15 2
          simp at n0 n1 n2 r0 r1 r2
          go_upto_region 15 with (fail)
          simp only [← hg15, ← hW9]
          clear hg15 hW9 hb hb9 H139 H15
          have v0 : (wd == wd) = true := by simp
          have CWD := Aside0.mk (show Calls Tryd.prog 18 #[ptrT a] W9 fun e w' => e = .returned (.int .i64 wd) ∧ W9 = w' from tWidth.calls a _ W9 (HO9.out.readT HKK.out HL1024.out))
          have v1 : (rt.f0.toList == rt.f0.toList) = true := by simp
          have v2 : (rt.f1.f0 == rt.f1.f0) = true := by simp
          have v3 : (rt.f1.f1 == rt.f1.f1) = true := by simp
          go_wp2_with fail
          refine CWD.out.mono ?_
          rintro e _ ⟨rfl, rfl⟩
          clear n0 n1 n2 r0 r1 r2
          obtain ⟨n, hn⟩ : ∃ n : Nat, (n : Int) = lev % ((m : Int) + 1) := ⟨(lev % ((m : Int) + 1)).toNat, by rw [Int.toNat_of_nonneg (Int.emod_nonneg _ (by omega))]⟩
          have hnm : n ≤ m := by have := Int.emod_lt_of_pos lev (show (0 : Int) < (m : Int) + 1 by omega); omega
          have hm6 : m ≤ 6 := by
            rcases Nat.lt_or_ge 6 m with h1 | h1
            · have h2 := Nat.pow_le_pow_right (n := 2) (by decide) (show 7 ≤ m by omega)
              have h3 := HKK.out.p
              rw [← HMM.out] at h3
              have := H70.out
              omega
            · exact h1
          have hrem : Int.tmod lev ((m : Int) + 1) = (n : Int) := by rw [hn]; exact Int.tmod_eq_emod_of_nonneg HLP.out.1.1
          have hwl : IntKind.i64.wrap lev = lev := IntWalk.i64_in _ (by have := HLP.out.1; omega)
          have hne : ((m : Int) + 1) ≠ 0 := by omega
          have HNM := Aside0.mk hnm
          have HM6 := Aside0.mk hm6
          clear hn hnm
          go_wp2_with fail
          refine (HO9.out.heightC HKK.out HL1024.out HMM.out).mono ?_
          rintro e _ ⟨rfl, rfl⟩
          have HS0 := Aside0.mk (show (1 : Nat) = 2 ^ 0 by decide)
          go_wp2
          go_loopw [17, 18] (fun v17 v18 wr => ∃ i s : Nat, v18 = .int .i64 (i : Int) ∧ v17 = .int .i64 (s : Int) ∧ Aside0 (i ≤ n ∧ s = 2 ^ i) ∧ Aside0 (wr = W9)) (fun _ v18 _ => n - (intOf v18).toNat)
          case atStart => exact ⟨0, 1, rfl, rfl, ⟨⟨Nat.zero_le _, rfl⟩⟩, ⟨rfl⟩⟩
          case round =>
            obtain ⟨i, s, rfl, rfl, HI2, HW⟩ := hrel
            obtain rfl := HW.out
            have hn6 : n ≤ 6 := by have := HNM.out; have := HM6.out; omega
            have hi6 : i ≤ 6 := by have := HI2.out.1; omega
            have hs64 : s ≤ 64 := by
              rw [HI2.out.2]
              exact Nat.le_trans (Nat.pow_le_pow_right (by decide) hi6) (by decide)
            by_cases hlt2 : i < n
            · have c1 : decide ((i : Int) < (n : Int)) = true := decide_eq_true (by omega)
              have c2 : decide (i < n) = true := decide_eq_true hlt2
              clear b1 b2
              go_wp2
              go_roundw
              case rel => exact ⟨i + 1, 2 * s, by go_num, by go_num, ⟨⟨by omega, by rw [HI2.out.2, Nat.pow_succ]; omega⟩⟩, ⟨by first | rfl | trivial⟩⟩
              case measure => simp [intOf]; omega
            · obtain rfl : i = n := by have := HI2.out.1; omega
              have c1 : decide ((i : Int) < (i : Int)) = false := decide_eq_false (by omega)
              have c2 : decide (i < i) = false := decide_eq_false hlt2
              clear b1 b2
              have hwp : IntKind.i64.wrap pos = pos := IntWalk.i64_in _ (by have := HLP.out.2; omega)
              obtain ⟨d, p, lo, hi', hq1, hq2, ⟨hquo, hqt⟩, hrem2, ⟨hm1, hm2⟩, hp70, hd70, ⟨hsne, hdne⟩, hlh, hhl⟩ := fold_nums (pos := pos) (by rw [HMM.out]; exact HKK.out.p) H70.out HNM.out HI2.out.2 HLP.out.2
              have HQ1 := Aside0.mk hq1
              have HQ2 := Aside0.mk hq2
              have HNU := Aside0.mk (And.intro hquo (And.intro hqt (And.intro hm1 hm2)))
              have HSM := Aside0.mk (And.intro hsne hdne)
              clear hquo hqt hm1 hm2 hsne hdne
              have sm := fun wx => slice_mid ⟨gc, 0, none⟩ l.length c8 lo hi' hlh hq2.1 HON.out.2.1 wx
              rw [hhl] at sm
              have hll70 : l.length ≤ 70 := H70.out
              clear hq1 hq2 hn6 hlh hhl
              obtain ⟨nx, hnx⟩ : ∃ y, y = (upV wd i (l.map (leafNodeI wd))).getD p nodeZ := ⟨_, rfl⟩
              have hpart := fold_part HKK.out HL300.out HMM.out HNM.out HQ1.out.1 hnx
              rw [← HND.out, ← HQ1.out.2, ← HI2.out.2] at hpart
              have hlen : ((nodes.drop lo).take s).length = s := by
                have := HNL.out
                have := HQ2.out
                rw [List.length_take, List.length_drop]; omega
              have hCC : Kd.C kNode wr (some ((⟨gc, 0, none⟩ : Addr).add (lo * 3))) ((nodes.drop lo).take s).length ((nodes.drop lo).take s) := by
                have h1 := HON.out.2.2
                have h2 : Kd.C kNode wr (some ⟨gc, 0, none⟩) nodes.length nodes := by rw [HNL.out]; exact Kd.C_below h1 HBN9.out
                have h3 := Kd.C_drop (c := c8) (m := lo) h2 (by have := HNL.out; have := HQ2.out; omega) (by rw [HNL.out]; exact HON.out.2.1)
                rw [if_neg (by have := HON.out.2.1; have := HQ2.out; omega)] at h3
                exact Kd.C_take h3 (by have := HNL.out; have := HQ2.out; rw [List.length_drop]; omega)
              have q := node_Fold.calls wd (some ((⟨gc, 0, none⟩ : Addr).add (lo * 3))) (c8 - lo) ((nodes.drop lo).take s) nx.f0 nx.f1.f0 nx.f1.f1 0 wr (HK.out.below HB9.out).1 hCC (by rw [hlen]; have := HON.out.2.1; have := HQ2.out; omega) hpart
              have ea : ∀ n, (⟨gc, 0, none⟩ : Addr).add n = ⟨gc, n, none⟩ := fun n => by unfold Addr.add; split <;> simp_all
              rw [hlen, ea] at q
              have CF2 := Aside0.mk q
              have hps : (p * 2 ^ i) / 2 ^ i = p := Nat.mul_div_cancel _ (Nat.two_pow_pos _)
              have HNI := Aside0.mk (node_is HKK.out HMM.out HNM.out (show p * 2 ^ i < l.length by rw [← HQ1.out.2]; have := HQ2.out; omega) hps.symm hnx)
              have hwpu : IntKind.u64.wrap (p : Int) = (p : Int) := wrapu64_id (Int.natCast_nonneg _) (by omega)
              clear q hCC hlen hpart hnx hps ea
              obtain ⟨hquo, hqt, hm1, hm2⟩ := HNU.out
              obtain ⟨hsne, hdne⟩ := HSM.out
              go_wp2_with fail
              refine CF2.out.mono ?_
              rintro e w10 ⟨rfl, hb⟩
              obtain ⟨g20, hg20⟩ : ∃ g, g = w10.heap.size := ⟨_, rfl⟩
              obtain ⟨W11, hW11⟩ : ∃ V, V = w10.alloc (.cells #[.string nx.f0, .int .u64 nx.f1.f0, .int .u64 nx.f1.f1] 46) := ⟨_, rfl⟩
              have hb11 : Below wr.heap.size wr W11 := by rw [hW11]; exact below_alloc hb _
              have HB11 := Aside0.mk (HB9.out.trans (hb11.mono HB9.out.size))
              have HO11 := Aside0.mk (HO9.out.keep hb11)
              have H20 := Aside0.mk (show W11.heap[g20]? = some (.cells #[.string nx.f0, .int .u64 nx.f1.f0, .int .u64 nx.f1.f1] 46 (0, 0)) by rw [hW11, hg20]; exact blk_new _ _)
              go_upto_region 25 with (fail)
              simp only [← hg20, ← hW11]
              clear hg20 hW11 hb hb11 hquo hqt hm1 hm2 sm hrem2
              go_wp2_with fail
              refine (HO11.out.nodeC HKK.out HL1024.out HNI.out).mono ?_
              rintro e w12 ⟨rfl, hb⟩
              have HB12 := Aside0.mk (HB11.out.trans (hb.mono HB11.out.size))
              have H20b := blk_below H20.out hb
              have z0 := blk_cell (blk_alloc H20b (.cells #[.string nx.f0, .int .u64 nx.f1.f0, .int .u64 nx.f1.f1] 46)) 0
              have z1 := blk_cell (blk_alloc H20b (.cells #[.string nx.f0, .int .u64 nx.f1.f0, .int .u64 nx.f1.f1] 46)) 1
              have z2 := blk_cell (blk_alloc H20b (.cells #[.string nx.f0, .int .u64 nx.f1.f0, .int .u64 nx.f1.f1] 46)) 2
              simp at z0 z1 z2
              clear hb H20b
              go_wp2
              go_ret
              exact ⟨by simp, below_alloc HB12.out _⟩
def law15_TreeFolded.f (wd : Int) (l : List SLeaf) (lev pos : Int) : Option Bool := if ((0 ≤ lev ∧ lev < 256) ∧ (0 ≤ pos ∧ pos < 65536) ∧ l.length ≤ 9223372036854775807) ∧ (∀ x ∈ l, (0 ≤ x.f3.f0 ∧ x.f3.f0 < 18446744073709551616) ∧ 0 ≤ x.f3.f1 ∧ x.f3.f1 < 18446744073709551616) then some true else none
theorem law15_TreeFolded.calls (wd : Int) (A : Option Addr) (c : Nat) (l : List SLeaf) (lev pos : Int) (r : Bool) (w : World) (hK : LaidT w) (hr : Kd.C kLeaf w A l.length l) (hc : l.length ≤ c) (h : law15_TreeFolded.f wd l lev pos = some r) :
    Calls Tryd.prog 6 #[.int .i64 wd, .slice A l.length c, .int .u8 lev, .int .u16 pos] w fun e w' => e = .returned (.bool r) ∧ Below w.heap.size w w' := by
  unfold law15_TreeFolded.f at h
  split at h
  · next hh =>
    cases h
    exact lawTFold.calls wd A c l lev pos w hK hr hc (fun x hx => by obtain ⟨h1, h2⟩ := hh.2 x hx; exact ⟨h1, h2⟩) hh.1.2.2 hh.1.1 hh.1.2.1
  · cases h
end Go.Proofs.YtfcodmdckcihmaaDoor.P
namespace Go.Proofs.YtfcodmdckcihmaaDoor.P
open Go.RowKit Go.Proofs.YtfcodmdckcihmaaDoorW.PrintWords Go.Proofs.YtfcodmdckcihmaaDoorW.PrintLast Go.Proofs.YtfcodmdckcihmaaDoorW.PrintMore
set_option linter.unusedVariables false
set_option linter.unusedSimpArgs false
set_option linter.unnecessarySimpa false
theorem wf_u16 {n : Int} (h : (Lit.int .u16 n).wf = true) : 0 ≤ n ∧ n < 65536 := by
 simp [Lit.wf, IntKind.min, IntKind.max, IntKind.signed, IntKind.bits] at h
 omega
end Go.Proofs.YtfcodmdckcihmaaDoor.P
namespace Go.Proofs.YtfcodmdckcihmaaDoor.P
open Go.RowKit Go.Proofs.YtfcodmdckcihmaaDoorW.PrintWords Go.Proofs.YtfcodmdckcihmaaDoorW.PrintLast Go.Proofs.YtfcodmdckcihmaaDoorW.PrintMore
set_option linter.unusedVariables false
set_option linter.unusedSimpArgs false
set_option linter.unnecessarySimpa false
theorem pure_TreeFolded : ∀ (y0 : Int) (y1 : (List SLeaf)) (y2 : Int) (y3 : Int), (Lit.int .i64 y0).wf = true → (y1.length ≤ 140737488355328 ∧ ∀ q0 ∈ y1, wfLeaf q0) → (Lit.int .u8 y2).wf = true → (Lit.int .u16 y3).wf = true → law15_TreeFolded.f y0 y1 y2 y3 = some true := fun _ _ _ _ _ hl h2 h3 => by
 unfold law15_TreeFolded.f
 rw [if_pos ⟨⟨wf_u8 h2, wf_u16 h3, by omega⟩, fun x hx => ⟨wf_u64 (hl.2 x hx).2.2.2.1, wf_u64 (hl.2 x hx).2.2.2.2⟩⟩]
end Go.Proofs.YtfcodmdckcihmaaDoor.P
namespace Go.Proofs.YtfcodmdckcihmaaDoor.treeFolded
open Go.Proofs.YtfcodmdckcihmaaDoor.P Go.ChangeShapes Go.WideShapes Go.ChangeAt Go.RowKit
open Go.ChangeMaps (open_string shut_string)
open Go.Proofs.YtfcodmdckcihmaaDoorW.PrintWords Go.Proofs.YtfcodmdckcihmaaDoorW.PrintLast Go.Proofs.YtfcodmdckcihmaaDoorW.PrintMore
set_option linter.unusedVariables false
set_option linter.unusedSimpArgs false
theorem own : ownKnob Tryd.prog.godebug = none := by kernel_rfl
theorem laidOut : laidOutB Tryd.prog = true := by kernel_rfl
set_option maxRecDepth 100000 in
theorem lifted (os : Os) (started : os.Started) (H : Type) (enc : TypeId × Value → H) :
    ReturnsInHanded {} Tryd.checked os 6 .any (fun w args => (Rows.treeFoldedSpec.pre enc Tryd.prog Tryd.f6 [] false w args ∧ laidMetH Tryd.prog Rows.treeFoldedRow.laid w) ∧ sizedMet enc Tryd.prog Tryd.f6 (OpenSpec.ofChange Rows.treeFoldedSpec) false w args)
      (Rows.treeFoldedSpec.post enc Tryd.prog Tryd.f6 false true false false) := by
  refine returnsInHanded_of_change_and (C := Tryd.checked) (X := fun w _ => laidMetH Tryd.prog Rows.treeFoldedRow.laid w) (fun _ _ _ hh h => h.of_heap hh) own started (by kernel_rfl) Tryd.func6
    (ChangeSpec.witness_at (enc := enc) (C := Tryd.checked) (os := os) (X := fun w _ => laidMetH Tryd.prog Rows.treeFoldedRow.laid w) false (P.laidWorldT os) #[.int .i64 0, .slice none 0 0, .int .u8 0, .int .u16 0] 8 rfl (by kernel_rfl) (by kernel_rfl) (by kernel_rfl) (by kernel_rfl) (by kernel_rfl) (P.laidWorldT_met os _)) ?_
  intro W base args ds gs before hval0 hW _ hsz0 hL _
  have hval : ∀ (j : Nat) t v, Tryd.f6.params[j]? = some t → args[j]? = some v → Value.okWide Tryd.prog W .any base t v := hval0
  have hW' := hW
  obtain ⟨p, q, hA0, hV, rfl, hfz, hnd⟩ := hW
  have hA : DataW.TrodAll enc Tryd.prog W 0 (fun _ => true) true Tryd.f6.params.toList args.toList ds p := hA0
  rw [Tryd.params6] at hA hval
  obtain ⟨v0, vs0, d0, ds0, p0, q0, hargs, rfl, rfl, h0, r0⟩ := trodAll_cons hA
  obtain ⟨v1, vs1, d1, ds1, p1, q1, rfl, rfl, rfl, h1, r1⟩ := trodAll_cons r0
  obtain ⟨v2, vs2, d2, ds2, p2, q2, rfl, rfl, rfl, h2, r2⟩ := trodAll_cons r1
  obtain ⟨v3, vs3, d3, ds3, p3, q3, rfl, rfl, rfl, h3, r3⟩ := trodAll_cons r2
  obtain ⟨rfl, rfl, rfl⟩ := trodAll_nil r3
  obtain rfl : args = #[v0, v1, v2, v3] := by cases args; simp_all
  obtain ⟨rfl, rfl⟩ := trodVars_none hV
  have hz0 : Sized Tryd.prog 3 d0 := Sized.each hsz0 (j := 0) rfl rfl
  have hz1 : Sized Tryd.prog 22 d1 := Sized.each hsz0 (j := 1) rfl rfl
  have hz2 : Sized Tryd.prog 5 d2 := Sized.each hsz0 (j := 2) rfl rfl
  have hz3 : Sized Tryd.prog 50 d3 := Sized.each hsz0 (j := 3) rfl rfl
  have k0 := h0
  have lt0 : ∀ x ∈ p0, x.block < W.heap.size := by obtain ⟨m, hm⟩ := k0; exact DataW.trod_lt m _ _ _ hm
  obtain ⟨y0, rfl, rfl, rfl, w0⟩ := open_int Tryd.underlying3 (hval 0 3 v0 rfl rfl) h0
  have k1 := h1
  have lt1 : ∀ x ∈ p1, x.block < W.heap.size := by obtain ⟨m, hm⟩ := k1; exact DataW.trod_lt m _ _ _ hm
  obtain ⟨a1, len1, cap1, rfl⟩ := okWide_slice Tryd.underlying22 (hval 1 22 v1 rfl rfl)
  obtain ⟨y1, hk1, w1⟩ := (Rd.slice Tryd.underlying22 (by kernel_rfl) (of_decide_eq_true (by kernel_rfl)) rdLeaf).cell rfl h1 hz1
  obtain ⟨A1, c1, e1, l1, g1⟩ := hk1
  rw [List.cons.injEq] at e1
  obtain ⟨e1, -⟩ := e1
  injection e1 with ea1 el1 ec1
  subst ea1 el1 ec1
  have k2 := h2
  have lt2 : ∀ x ∈ p2, x.block < W.heap.size := by obtain ⟨m, hm⟩ := k2; exact DataW.trod_lt m _ _ _ hm
  obtain ⟨y2, rfl, rfl, rfl, w2⟩ := open_int Tryd.underlying5 (hval 2 5 v2 rfl rfl) h2
  have k3 := h3
  have lt3 : ∀ x ∈ p3, x.block < W.heap.size := by obtain ⟨m, hm⟩ := k3; exact DataW.trod_lt m _ _ _ hm
  obtain ⟨y3, rfl, rfl, rfl, w3⟩ := open_int Tryd.underlying50 (hval 3 50 v3 rfl rfl) h3
  clear hA0 hval0 hsz0
  have h := pure_TreeFolded y0 y1 y2 y3 w0 w1 w2 w3
  refine (law15_TreeFolded.calls y0 _ _ y1 y2 y3 true W (P.laidT_of_met hL) g1 l1 h).mono fun e W' ⟨he, bel0⟩ => ?_
  have bel := bel0
  subst he
  exact ⟨_, rfl, _, _, _, [], _, [], hW', trodAll_mk1 (shut_bool Tryd.underlying4 _), (trodAll_cons_mk (Below.trod laidOut (by kernel_rfl) (of_decide_eq_true (by kernel_rfl)) k0 bel lt0) (trodAll_cons_mk (Below.trod laidOut (by kernel_rfl) (of_decide_eq_true (by kernel_rfl)) k1 bel lt1) (trodAll_cons_mk (Below.trod laidOut (by kernel_rfl) (of_decide_eq_true (by kernel_rfl)) k2 bel lt2) (trodAll_cons_mk (Below.trod laidOut (by kernel_rfl) (of_decide_eq_true (by kernel_rfl)) k3 bel lt3) trodAll_mk0)))), rfl, bel.frame _, fun h => by cases h⟩
theorem over : Rows.treeFoldedRow.holds Tryd.pinned (OpenSpec.ofChange Rows.treeFoldedSpec) :=
  OpenClaim.holds_of_wide 6 Tryd.f6 rfl rfl rfl rfl rfl rfl rfl ⟨rfl, rfl, rfl, rfl, rfl⟩ rfl rfl rfl rfl rfl (by kernel_rfl) Tryd.func6 (by kernel_rfl)
    (of_decide_eq_true (by kernel_rfl)) (by unfold Func.isWrapper; first | (rw [if_pos (by decide +kernel)]; kernel_rfl) | (rw [if_neg (by decide +kernel)]; exact ⟨rfl, rfl⟩))
    (fun os started H enc _ => lifted os started H enc)
set_option maxRecDepth 100000 in
theorem proved : Rows.TreeFoldedCardSaid :=
  Claim7.holds_tied_plain_at .later [] [.data, .data, .pinned] true (true, "4f2cffd12862c0dd414eb8a94792080809aa0e0cec70df79135b296e27b5c26d") false
    over (fun _ h => by cases h) (by kernel_rfl) (fun _ h => by cases h) treeFolded_row_tie rfl ⟨rfl, rfl⟩ (by kernel_rfl) rfl
    (fun f fn hf hfn => by
      obtain rfl : f = 6 := Option.some.inj ((show Tryd.prog.funcNamed "paymaster/paymasterlaw15.TreeFolded" = some 6 by kernel_rfl).symm.trans hf) |>.symm
      obtain rfl : fn = Tryd.f6 := (Option.some.inj (Tryd.func6.symm.trans hfn)).symm
      exact ⟨by kernel_rfl, fun j t ht => by
        rw [Tryd.params6] at ht
        have h3 : t ∈ [3, 22, 5, 50] := by
          have := List.mem_of_getElem? (l := [3, 22, 5, 50]) (i := j) (a := t) (by simpa using ht)
          exact this
        simp only [List.mem_cons, List.not_mem_nil, or_false] at h3
        rcases h3 with rfl | rfl | rfl | rfl
        · exact (show Tryd.prog.wantsStandIn 3 = false by kernel_rfl)
        · exact (show Tryd.prog.wantsStandIn 22 = false by kernel_rfl)
        · exact (show Tryd.prog.wantsStandIn 5 = false by kernel_rfl)
        · exact (show Tryd.prog.wantsStandIn 50 = false by kernel_rfl)
      ⟩)
    (by kernel_rfl)
#print axioms proved
end Go.Proofs.YtfcodmdckcihmaaDoor.treeFolded
namespace Go.Proofs.YtfcodmdckcihmaaDoor
/-- The row, under a short name, for the claim. -/
theorem treeFolded_holds : Rows.TreeFoldedCardSaid := treeFolded.proved
end Go.Proofs.YtfcodmdckcihmaaDoor
