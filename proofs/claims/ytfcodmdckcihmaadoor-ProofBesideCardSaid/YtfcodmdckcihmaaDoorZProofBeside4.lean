/- PROVED HERE: the Go function paymasterlaw16.ProofBeside returns true for every input that the given statement speaks of, and each argument reads behind the call as it read before. Conditions: none beyond the given statement's own (the laid table of constants, tied by the card). -/
-- Several texts of this workplace as one.
import Derived.Test.YtfcodmdckcihmaaDoorZProofBeside3
import Derived.Test.YtfcodmdckcihmaaDoorProg
import Derived.Deep.OwnRows
import Derived.Laws.Rows
import Derived.Test.YtfcodmdckcihmaaDoorRows
import Derived.Test.YtfcodmdckcihmaaDoorCards
import Derived.Test.YtfcodmdckcihmaaDoorTie
namespace Go.Proofs.YtfcodmdckcihmaaDoor.P
open Go.RowKit Go.Proofs.YtfcodmdckcihmaaDoorW.PrintWords Go.Proofs.YtfcodmdckcihmaaDoorW.PrintLast Go.Proofs.YtfcodmdckcihmaaDoorW.PrintMore
set_option linter.unusedVariables false
set_option linter.unusedSimpArgs false
set_option linter.unnecessarySimpa false
attribute [local go_sem] Oper.semAt_some sel_true
abbrev entA (x : SLeaf) (p : Int) (s : Value) : Array Value := #[.bool x.f0, .string x.f1, .string x.f2, .int .u64 x.f3.f0, .int .u64 x.f3.f1, .int .u64 p, s]
abbrev entZ : Array Value := #[.bool false, .string ⟨#[]⟩, .string ⟨#[]⟩, .int .u64 0, .int .u64 0, .int .u64 0, .slice none 0 0]
structure OfS (w : World) (x : SLeaf) (p g8 H : Nat) (pre : List SNode) (W : World) : Prop where
 hB : Below w.heap.size w W
 h4 : W.heap[w.heap.size]? = some (.cells entZ 70 (0, 0))
 lo : w.heap.size < g8
 hi : g8 < H
 b : ∃ A c, W.heap[g8]? = some (.cells (entA x (p : Int) (.slice A pre.length c)) 70 (0, 0)) ∧ W.ownsRow H 46 3 (.slice A pre.length c) pre.length (cellsN pre)
section
variable {w : World} {x : SLeaf} {p g8 H : Nat} {pre : List SNode} {W W' : World}
theorem OfS.below (h : OfS w x p g8 H pre W) (hb : Below W.heap.size W W') : OfS w x p g8 H pre W' := by
 obtain ⟨A, c, h1, h2⟩ := h.b
 exact ⟨h.hB.trans (hb.mono h.hB.size), blk_below h.h4 hb, h.lo, h.hi, A, c, blk_below h1 hb, ownB h2 hb⟩
theorem OfS.grown {row : Option Nat} (h : OfS w x p g8 H pre W) (hg : W.grownBy W' row) (hr : ∀ r, row = some r → w.heap.size < r ∧ ∃ o, W.heap[r]? = some o ∧ o.isCells = false) : OfS w x p g8 H pre W' := by
 obtain ⟨A, c, h1, h2⟩ := h.b
 have hno : ∀ k cs t f, W.heap[k]? = some (Obj.cells cs t f) → some k ≠ row := fun k cs t f hk e => by
  obtain ⟨-, o, ho, hc⟩ := hr k e.symm
  rw [hk] at ho; cases ho; cases hc
 refine ⟨below_grown h.hB hg (fun r e => by have := (hr r e).1; omega), (hg.block _ (blk_lt h.h4) (hno _ _ _ _ h.h4)).trans h.h4, h.lo, h.hi, A, c, (hg.block _ (blk_lt h1) (hno _ _ _ _ h1)).trans h1, ownAny_keep h2 (fun g hg2 => ?_)⟩
 obtain ⟨cs, h3⟩ := own_cells h2 hg2
 exact hg.block g (blk_lt h3) (hno _ _ _ _ h3)
theorem OfS.more {y : SNode} {A : Option Addr} {c : Nat} {A' : Option Addr} {c' : Nat} (h : OfS w x p g8 H pre W) (hH : w.heap.size < H) (h1 : W.heap[g8]? = some (.cells (entA x (p : Int) (.slice A pre.length c)) 70 (0, 0))) (h2 : W.ownsRow H 46 3 (.slice A pre.length c) pre.length (cellsN pre))
  (hgr : W.grownBy W' (Value.slice A pre.length c).ownBlock) (hown : W'.ownsRow H 46 3 (.slice A' (pre.length + 1) c') (pre.length + 1) (cellsN pre ++ [.string y.f0, .int .u64 y.f1.f0, .int .u64 y.f1.f1])) :
  OfS w x p g8 H (pre ++ [y]) (W'.setCell ⟨g8, 6, none⟩ (.slice A' (pre.length + 1) c')) := by
 have hlo := h.lo
 have hhi := h.hi
 have hk : ∀ k, k < H → k < W.heap.size → W'.heap[k]? = W.heap[k]? := fun k hk hlt => hgr.block k hlt (fun e => by have := (h2.lt k e.symm).1; omega)
 have hl : (pre ++ [y]).length = pre.length + 1 := by simp
 refine ⟨(below_grown h.hB hgr (fun r e => by have := (h2.lt r e).1; omega)).setCell (by show w.heap.size ≤ g8; omega) _, (Below.heap_setCell _ _ _ _ (by show w.heap.size ≠ g8; omega)).trans ((hk _ (by omega) (blk_lt h.h4)).trans h.h4), hlo, hhi, A', c', ?_, ?_⟩
 ·
  rw [hl]
  exact blk_put ((hk g8 hhi (blk_lt h1)).trans h1) 6 _ rfl
 ·
  rw [hl, cellsN_append]
  exact ownAny_keep hown (fun g hg => Below.heap_setCell _ _ _ _ (by have := (hown.lt g hg).1; show g ≠ g8; omega))
end
theorem of_results (tmps : Array Value) (W : World) (g4 : Nat) (e : Value) (a0 a1 a2 a3 a4 a5 a6 : Value) (h4 : tmps.getD 4 undef = .pointer (some ⟨g4, 0, none⟩)) (h5 : tmps.getD 5 undef = e) (hg4 : W.heap[g4]? = some (.cells #[a0, a1, a2, a3, a4, a5, a6] 70 (0, 0))) :
  (results Tryd.f37 tmps).run Tryd.prog W = .ok (.tuple #[.agg #[a0, a1, a2, a3, a4, a5, a6], e]) W := by
 have h4' : tmps[4]?.getD undef = .pointer (some ⟨g4, 0, none⟩) := by simpa using h4
 have h5' : tmps[5]?.getD undef = e := by simpa using h5
 have hr : Tryd.f37.results = #[.cell 4 70, .tmp 5] := rfl
 have hu := Tryd.underlying70
 have c0 := blk_cell hg4 0
 have c1 := blk_cell hg4 1
 have c2 := blk_cell hg4 2
 have c3 := blk_cell hg4 3
 have c4 := blk_cell hg4 4
 have c5 := blk_cell hg4 5
 have c6 := blk_cell hg4 6
 simp at c0 c1 c2 c3 c4 c5 c6
 have h1 : (loadVar 70 ⟨g4, 0, none⟩).run Tryd.prog W = .ok (.agg #[a0, a1, a2, a3, a4, a5, a6]) W := by go_simp
 simp [results, hr, h4', h5', asAddr, h1]
set_option maxRecDepth 100000 in
set_option maxHeartbeats 4000000 in
theorem proofOf.calls (base ta gl cl : Nat) (VV : Value) (gs : List RowG) (wd : Int) (ls : List SLeaf) (p m : Nat) (w : World) (hT : TreeOwn base w ta (treeT wd ls) gl cl VV gs) (hk : NewOk wd ls) (hn : ls.length ≤ 1024) (hm : m = ls.length.log2) (hm10 : m ≤ 10) (hp : p < ls.length) :
  Calls Tryd.prog 37 #[ptrT ta, .int .u64 (p : Int)] w fun e w' => ∃ A c, e = .returned (.tuple #[.agg (entA ls[p] (p : Int) (.slice A m c)), .int .i64 0]) ∧ w'.ownsRow w.heap.size 46 3 (.slice A m c) m (cellsN (besL wd ls p m)) ∧ Below w.heap.size w w' := by
 have HT := aM' hT
 have HKK := aM' hk
 have HN := aM' hn
 have HMM := aM' hm
 have HPL := aM' hp
 obtain ⟨x, hx⟩ : ∃ x, x = ls[p] := ⟨_, rfl⟩
 rw [← hx]
 have hlf : leafAtI (treeT wd ls) (p : Int) = (x, true) := by
  unfold leafAtI
  rw [Int.toNat_natCast, hx]
  simp [treeT, List.getD_eq_getElem?_getD, hp]
 have HLF := aM' hlf
 obtain ⟨i0, hi, hz0, hz1, hz2⟩ := info_parts nodeInfo
 obtain ⟨W0, hW0⟩ : ∃ V, V = w.alloc (.cells entZ 70) := ⟨_, rfl⟩
 have HB0 := aM' (show Below w.heap.size w W0 by rw [hW0]; exact below_alloc (Below.refl _ _) _)
 have H4 := aM' (show W0.heap[w.heap.size]? = some (.cells entZ 70 (0, 0)) by rw [hW0]; exact blk_new _ _)
 have hw0 : (wd == 0) = false := by have := hk.w.1; simp; omega
 clear hT hk hn hm hp hx hlf
 refine (callsIn_wide (n := 3)).1 ?_
 refine callsIn_of_wp_marks Tryd.func37 rfl trivial ?_ rfl
 simp only [Tryd.ntmps37, List.size_toArray, List.length_cons, List.length_nil, Nat.reduceAdd, Nat.reduceSub, Array.replicate_succ, Array.replicate_zero, List.push_toArray, List.append_toArray, List.nil_append, List.cons_append]
 refine wpIn_wide.2 ?_
 go_wp2_with fail
 rw [← hW0]
 clear hW0
 refine (show Calls Tryd.prog 18 #[ptrT ta] W0 fun e w' => e = .returned (.int .i64 wd) ∧ W0 = w' from tWidth.calls ta _ W0 ((HT.out.keep HB0.out).readT HKK.out HN.out)).mono ?_
 rintro e _ ⟨rfl, rfl⟩
 have q := tLeaf.calls ta _ (p : Int) W0 ((HT.out.keep HB0.out).readT HKK.out HN.out) (by omega)
 rw [HLF.out] at q
 have Q := aM' q
 clear q
 go_wp2_with fail
 refine Q.out.mono ?_
 rintro e w1 ⟨rfl, hb⟩
 obtain ⟨g6, hg6⟩ : ∃ g, g = w1.heap.size := ⟨_, rfl⟩
 obtain ⟨W2, hW2⟩ : ∃ V, V = w1.alloc (.cells #[.bool x.f0, .string x.f1, .string x.f2, .int .u64 x.f3.f0, .int .u64 x.f3.f1] 36) := ⟨_, rfl⟩
 have hb2 : Below W0.heap.size W0 W2 := by rw [hW2]; exact below_alloc hb _
 have HB2 := aM' (HB0.out.trans (hb2.mono HB0.out.size))
 have H42 := aM' (blk_below H4.out hb2)
 have H6 := (show W2.heap[g6]? = some (.cells #[.bool x.f0, .string x.f1, .string x.f2, .int .u64 x.f3.f0, .int .u64 x.f3.f1] 36 (0, 0)) by rw [hW2, hg6]; exact blk_new _ _)
 have l0 := blk_cell H6 0
 have l1 := blk_cell H6 1
 have l2 := blk_cell H6 2
 have l3 := blk_cell H6 3
 have l4 := blk_cell H6 4
 simp at l0 l1 l2 l3 l4
 go_upto_region 4 with (fail)
 simp only [← hg6, ← hW2]
 clear hg6 hW2 hb hb2 H6 hw0
 go_upto_region 7 with (fail)
 obtain ⟨g8, hg8⟩ : ∃ g, g = W2.heap.size := ⟨_, rfl⟩
 obtain ⟨W3, hW3⟩ : ∃ V, V = W2.alloc (.cells (entA x (p : Int) (.slice none 0 0)) 70) := ⟨_, rfl⟩
 have hz3 : W3.heap.size = g8 + 1 := by rw [hW3, hg8]; simp
 have hO3 : OfS w x p g8 (g8 + 3) [] W3 := by
  have h1 := blk_lt H42.out
  refine ⟨by rw [hW3]; exact below_alloc HB2.out _, by rw [hW3]; exact blk_alloc H42.out _, by omega, by omega, none, 0, by rw [hW3, hg8]; exact blk_new _ _, World.ownsRow_nil _ _ _ _⟩
 rw [← hg8]
 simp only [← hW3]
 clear hW3 hg8 l0 l1 l2 l3 l4
 have HO3 := aM' hO3
 obtain ⟨tb, htb⟩ : ∃ t, t = W3.heap.size := ⟨_, rfl⟩
 have HTB := aM' (show tb = g8 + 1 by omega)
 clear hO3 hz3
 go_wp2_with fail
 refine (beside.calls ta (p : Int) W3).mono ?_
 rintro e w5 ⟨rfl, hw5⟩
 rw [← htb]
 have hT5 : w5.heap[tb]? = some (.cells #[ptrT ta] 25 (0, 0)) := by rw [hw5, htb]; exact blk_alloc (blk_new W3 _) _
 have hP5 : w5.heap[tb + 1]? = some (.cells #[.int .u64 (p : Int)] 23 (0, 0)) := by
  rw [hw5, htb]
  have := blk_new (W3.alloc (.cells #[ptrT ta] 25)) (.cells #[.int .u64 (p : Int)] 23)
  rwa [World.size_alloc] at this
 have hz5 : w5.heap.size = tb + 2 := by rw [hw5, htb]; simp
 have HO5 := aM' (show OfS w x p g8 (g8 + 3) [] w5 by rw [hw5]; exact HO3.out.below (below_alloc (below_alloc (Below.refl _ _) _) _))
 have HT5 := aM' hT5
 have HP5 := aM' hP5
 have HZ5 := aM' hz5
 clear hw5 htb hT5 hP5 hz5
 go_wp2_with fail
 refine wp_forget (fun z => ({ tmps := List.toArray (ptrT ta :: .int .u64 (p : Int) :: z 2 :: z 3 :: .pointer (some ⟨w.heap.size, 0, none⟩) :: .int .i64 0 :: z 6 :: z 7 :: .pointer (some ⟨g8, 0, none⟩) :: z 9 :: z 10 :: z 11 :: z 12 :: z 13 :: z 14 :: z 15 :: z 16 :: z 17 :: z 18 :: z 19 :: z 20 :: z 21 :: z 22 :: z 23 :: z 24 :: z 25 :: z 26 :: z 27 :: z 28 :: .func (.func 106) #[] #[.pointer (some ⟨tb, 0, none⟩), .pointer (some ⟨tb + 1, 0, none⟩)] :: z 30 :: z 31 :: z 32 :: z 33 :: z 34 :: z 35 :: z 36 :: z 37 :: z 38 :: z 39 :: []), defers := [] } : Act)) rfl ?_
 intro z
 refine (wpIn_wide (n := 3)).1 ?_
 have HSL := aM' (show ∀ k, (k < w.heap.size ∨ k = tb ∨ k = tb + 1) → k < w5.heap.size from fun k hk => by
  have h1 := HZ5.out
  have h3 := HO5.out.hB.size
  rcases hk with h | rfl | rfl <;> omega)
 refine wpIn_rangeFunc_ownH (α := SNode) (n := 3) rfl (by omega) (gf := 106) (lb := #[.pointer (some ⟨tb, 0, none⟩), .pointer (some ⟨tb + 1, 0, none⟩)]) rfl trivial (enters_of Tryd.func106 (by kernel_rfl) rfl) (encs := fun y => #[nodeV y]) (Kp := KeepS (fun k => k < w.heap.size ∨ k = tb ∨ k = tb + 1))
  (S := fun ys => ys = besL wd ls p m) (Sp := fun pre => True) (N := m) (w0 := w5) ?hseq (fun h k => KeepS.trans h k) ?hKb (Below.refl _ _) (fun _ => rfl)
  (fun pre V => OfS w x p g8 (g8 + 3) pre V ∧ w5.heap.size ≤ V.heap.size)
  (fun c2 pre V => False)
  ?hI ?hIx ⟨HO5.out, Nat.le_refl _⟩
  (fun y a' V => ∃ bx, w5.heap.size ≤ bx ∧ V.heap[bx]? = some (.cells (nodeA y) 46 (0, 0)) ∧ a' = ({ tmps := List.toArray (ptrT ta :: .int .u64 (p : Int) :: z 2 :: z 3 :: .pointer (some ⟨w.heap.size, 0, none⟩) :: .int .i64 0 :: z 6 :: z 7 :: .pointer (some ⟨g8, 0, none⟩) :: .pointer (some ⟨bx, 0, none⟩) :: z 10 :: z 11 :: z 12 :: z 13 :: z 14 :: z 15 :: z 16 :: z 17 :: z 18 :: z 19 :: z 20 :: z 21 :: z 22 :: z 23 :: z 24 :: z 25 :: z 26 :: z 27 :: z 28 :: .func (.func 106) #[] #[.pointer (some ⟨tb, 0, none⟩), .pointer (some ⟨tb + 1, 0, none⟩)] :: nodeV y :: z 31 :: z 32 :: z 33 :: z 34 :: z 35 :: z 36 :: z 37 :: z 38 :: z 39 :: []), defers := [] } : Act)) ?hAx ?assign ?body ?done ?stop
 case hKb =>
  intro W' l2 o o' hl2 ho hc hw k hk
  have h1 := HZ5.out
  have h2 := HO5.out.lo
  have h3 := HTB.out
  exact World.putObj_heap_other (by rcases hk with h | rfl | rfl <;> omega)
 case hI =>
  rintro s X Y row ⟨h1, h2⟩ hg hr
  exact ⟨h1.grown hg (fun r e => ⟨by have := (hr r e).1; have := HZ5.out; have := HO5.out.lo; have := HTB.out; omega, (hr r e).2⟩), Nat.le_trans h2 hg.size⟩
 case hIx =>
  rintro c2 s X Y row h hg hr
  exact h
 case hAx =>
  rintro y a' s X Y row ⟨bx, h1, h2, h3⟩ hg hr
  refine ⟨bx, h1, (hg.block bx (blk_lt h2) (fun e => ?_)).trans h2, h3⟩
  obtain ⟨-, o, ho, hc⟩ := hr bx e.symm
  rw [h2] at ho; cases ho; cases hc
 case hseq =>
  intro l2 J Jx W hW hJ hJx hY h0
  have hb5 := HO5.out.hB
  refine (beside1_in 2 (by omega) l2 tb (tb + 1) W.heap.size ta m p wd ls HKK.out HMM.out hm10 HPL.out (by have := HPL.out; have := HN.out; omega) (fun k => k < w.heap.size ∨ k = tb ∨ k = tb + 1) (.inr (.inl rfl)) (.inr (.inr rfl)) J Jx hJ W ?_ hY (blk_below HT5.out hW) (blk_below HP5.out hW) ?_ h0).mono ?_
  ·
   intro W' hk
   refine (HT.out.far (W' := W') (fun k _ hlt => (hk k (.inl hlt)).trans ?_)).readT HKK.out HN.out
   exact (hW.block k (lL' hlt hb5.size)).trans (hb5.block k hlt)
  ·
   intro k hk
   have h1 := HZ5.out
   have h2 := hW.size
   have h3 := hb5.size
   rcases hk with h | rfl | rfl <;> omega
  ·
   rintro e W2 ⟨hv, ⟨ys, h1, h2⟩ | ⟨pre, -, h1⟩⟩
   ·
    exact ⟨hv, .inl ⟨ys, h1, h2⟩⟩
   ·
    exact ⟨hv, .inr ⟨pre, trivial, h1⟩⟩
 case assign =>
  rintro l2 pre y W K ⟨hI, hz⟩ hK
  gi_wp2
  have hg := World.grownBy_alloc W (.cells (nodeA y) 46) none
  refine hK _ _ (KeepsFrom.of_grownBy hg (fun j e => by cases e)) (fun k hk => hg.block k (lL' (HSL.out k hk) hz) (by simp)) ⟨hI.below (below_alloc (Below.refl _ _) _), by simp; omega⟩ ⟨W.heap.size, hz, blk_new W _, rfl⟩
 case body =>
  rintro l2 pre y a' W hl2 - ⟨hI, hz⟩ ⟨bx, hbx, hb, rfl⟩ hlen
  obtain ⟨A, c, hbox, hown0⟩ := hI.b
  have HII := aM' hI
  have HBOX := aM' hbox
  have HOWN0 := aM' hown0
  have HZZ := aM' hz
  have HLEN := aM' hlen
  have y6 : W.cell? ⟨g8, 6, none⟩ = some (.slice A pre.length c) := blk_cell hbox 6
  have n0 : W.cell? ⟨bx, 0, none⟩ = some (.string y.f0) := blk_cell hb 0
  have n1 : W.cell? ⟨bx, 1, none⟩ = some (.int .u64 y.f1.f0) := blk_cell hb 1
  have n2 : W.cell? ⟨bx, 2, none⟩ = some (.int .u64 y.f1.f1) := blk_cell hb 2
  have hsz := HO5.out.lo
  have hz5 := HZ5.out
  have htb := HTB.out
  have HSZ := aM' (show w.heap.size < g8 ∧ g8 + 3 ≤ W.heap.size ∧ g8 < W.heap.size from ⟨hsz, by omega, by omega⟩)
  clear hI hbox hown0 hz hlen hb hbx hl2 hsz hz5 htb
  gi_upto_region 9 with (fail)
  refine wpIn_region_list ?_
  refine li_val (v := .pointer (some ⟨g8, 5, none⟩)) (w' := W) rfl (fun _ => trivial) (fun _ h => by cases h) (by go_simp; done) ?_
  refine li_val (v := .pointer (some ⟨g8, 6, none⟩)) (w' := W) rfl (fun _ => trivial) (fun _ h => by cases h) (by go_simp; done) ?_
  refine li_val (v := .slice A pre.length c) (w' := W) rfl (fun _ => trivial) (fun _ h => by cases h) (by go_simp; done) ?_
  refine li_val (v := .agg #[.string y.f0, .int .u64 y.f1.f0, .int .u64 y.f1.f1]) (w' := W) rfl (fun _ => trivial) (fun _ h => by cases h) (by go_simp; done) ?_
  refine li_val (v := .slice (some ⟨W.heap.size, 0, none⟩) 1 1) (w' := W.alloc (.cells #[.string y.f0, .int .u64 y.f1.f0, .int .u64 y.f1.f1] 46 (0, 0))) rfl (fun _ => trivial) (fun _ h => by cases h) (by go_simp; done) ?_
  refine wpListIn_append_own _ rfl _ _ 43 rfl (g8 + 3) 46 i0 (.agg #[(.string ⟨#[]⟩), (.int .u64 0), (.int .u64 0)]) 3 32 Tryd.underlying43 hi hz0 hz1 hz2 rfl (by decide) (.slice A pre.length c) pre.length (cellsN pre) rfl ?own ⟨W.heap.size, 0, none⟩ 1 1 [.string y.f0, .int .u64 y.f1.f0, .int .u64 y.f1.f1] rfl rfl ?cells ?one ?b1 ?b2 ?b3 ?_
  (case own => exact ownB HOWN0.out (below_alloc (Below.refl _ _) _))
  (case cells => exact World.news_of_block (blk_new W _))
  (case one => intro u hu; simp at hu; rcases hu with rfl | rfl | rfl <;> rfl)
  (case b1 => have h1 := HLEN.out; unfold maxLen; omega)
  (case b2 => have h1 := HLEN.out; omega)
  (case b3 => rw [World.size_alloc]; have := HSZ.out; omega)
  intro v' w7 hown hgr hnil
  obtain ⟨g, cap, rfl, -, hg7⟩ := hown.form (by omega)
  have hal := below_alloc (Below.refl W.heap.size W) (.cells #[.string y.f0, .int .u64 y.f1.f0, .int .u64 y.f1.f1] 46 (0, 0))
  have hmore := (HII.out.below hal).more (by have := HSZ.out; omega) (blk_below HBOX.out hal) (ownB HOWN0.out hal) hgr hown
  have HMORE := aM' hmore
  have hno : ∀ k, k < g8 + 3 → (Value.slice A pre.length c).ownBlock ≠ some k := fun k hk e => by have := (HOWN0.out.lt k e).1; omega
  have HGR := aM' hgr
  have HNO := aM' hno
  have hz6 := (hgr.block g8 (by rw [World.size_alloc]; have := HSZ.out; omega) (fun e => hno g8 (by omega) e.symm)).trans (blk_below HBOX.out hal)
  have z6 : w7.cell? ⟨g8, 6, none⟩ = some (.slice A pre.length c) := blk_cell hz6 6
  have zf : ∀ i, w7.frozen? ⟨g8, i, none⟩ = false := fun i => blk_frozen hz6 i
  have HAL := aM' hal
  clear hown hgr hz6 hnil hno hg7 hmore hal
  refine li_val (v := .pointer (some ⟨g8, 5, none⟩)) (w' := w7) rfl (fun _ => trivial) (fun _ h => by cases h) (by go_simp; done) ?_
  refine li_val (v := .pointer (some ⟨g8, 6, none⟩)) (w' := w7) rfl (fun _ => trivial) (fun _ h => by cases h) (by go_simp; done) ?_
  refine li_skip (w' := w7.setCell ⟨g8, 6, none⟩ (.slice (some ⟨g, 0, none⟩) (pre.length + 1) cap)) rfl (fun _ => trivial) (fun _ h => by cases h) (by go_simp; first | done | rfl) ?_
  gi_wp2
  have hend : ∀ k, k < W.heap.size → (Value.slice A pre.length c).ownBlock ≠ some k → k ≠ g8 → (w7.setCell ⟨g8, 6, none⟩ (.slice (some ⟨g, 0, none⟩) (pre.length + 1) cap)).heap[k]? = W.heap[k]? := fun k hk h1 h2 =>
   (Below.heap_setCell _ _ _ _ h2).trans ((HGR.out.block k (by rw [World.size_alloc]; omega) (fun e => h1 e.symm)).trans (HAL.out.block k hk))
  have hsz : W.heap.size ≤ w7.heap.size := by have h1 := HGR.out.size; rw [World.size_alloc] at h1; omega
  refine ⟨⟨by simpa using hsz, fun k o hk h0 ho => ?_⟩, ?_, ?_⟩
  ·
   rw [hend k (Array.getElem?_eq_some_iff.1 h0).1 (fun e => ?_) (fun e => ?_)]
   ·
    exact h0
   ·
    obtain ⟨cs, h3⟩ := own_cells HOWN0.out e
    rw [h0] at h3
    cases h3
    cases ho
   ·
    rw [e, HBOX.out] at h0
    cases h0
    cases ho
  ·
   intro k hk
   have h1 := HSL.out k hk
   have h2 := HO5.out.lo
   have h3 := HTB.out
   have h4 := HZZ.out
   have h5 := HZ5.out
   have hk8 : k ≠ g8 := by rcases hk with h | rfl | rfl <;> omega
   exact hend k (by omega) (HNO.out k (by rcases hk with h | rfl | rfl <;> omega)) hk8
  ·
   exact ⟨HMORE.out, by have := HZZ.out; simp; omega⟩
 case done =>
  rintro D ys W hD hys ⟨hI, hz⟩ hdf
  obtain ⟨A, c, hbox, hown⟩ := hI.b
  have hlen : ys.length = m := by rw [hys]; exact besL_len ..
  have y0 : W.cell? ⟨g8, 0, none⟩ = some (.bool x.f0) := blk_cell hbox 0
  have y1 : W.cell? ⟨g8, 1, none⟩ = some (.string x.f1) := blk_cell hbox 1
  have y2 : W.cell? ⟨g8, 2, none⟩ = some (.string x.f2) := blk_cell hbox 2
  have y3 : W.cell? ⟨g8, 3, none⟩ = some (.int .u64 x.f3.f0) := blk_cell hbox 3
  have y4 : W.cell? ⟨g8, 4, none⟩ = some (.int .u64 x.f3.f1) := blk_cell hbox 4
  have y5 : W.cell? ⟨g8, 5, none⟩ = some (.int .u64 (p : Int)) := blk_cell hbox 5
  have y6 : W.cell? ⟨g8, 6, none⟩ = some (.slice A ys.length c) := blk_cell hbox 6
  have z0 : W.cell? ⟨w.heap.size, 0, none⟩ = some (.bool false) := blk_cell hI.h4 0
  have z1 : W.cell? ⟨w.heap.size, 1, none⟩ = some (.string ⟨#[]⟩) := blk_cell hI.h4 1
  have z2 : W.cell? ⟨w.heap.size, 2, none⟩ = some (.string ⟨#[]⟩) := blk_cell hI.h4 2
  have z3 : W.cell? ⟨w.heap.size, 3, none⟩ = some (.int .u64 0) := blk_cell hI.h4 3
  have z4 : W.cell? ⟨w.heap.size, 4, none⟩ = some (.int .u64 0) := blk_cell hI.h4 4
  have z5 : W.cell? ⟨w.heap.size, 5, none⟩ = some (.int .u64 0) := blk_cell hI.h4 5
  have z6 : W.cell? ⟨w.heap.size, 6, none⟩ = some (.slice none 0 0) := blk_cell hI.h4 6
  have zf : ∀ i, W.frozen? ⟨w.heap.size, i, none⟩ = false := fun i => blk_frozen hI.h4 i
  obtain ⟨W9, hW9⟩ : ∃ V, V = (((((((W.setCell ⟨w.heap.size, 0, none⟩ (.bool x.f0)).setCell ⟨w.heap.size, 1, none⟩ (.string x.f1)).setCell ⟨w.heap.size, 2, none⟩ (.string x.f2)).setCell ⟨w.heap.size, 3, none⟩ (.int .u64 x.f3.f0)).setCell ⟨w.heap.size, 4, none⟩ (.int .u64 x.f3.f1)).setCell ⟨w.heap.size, 5, none⟩ (.int .u64 (p : Int))).setCell ⟨w.heap.size, 6, none⟩ (.slice A ys.length c)) := ⟨_, rfl⟩
  have hk9 : ∀ k, k ≠ w.heap.size → W9.heap[k]? = W.heap[k]? := fun k hk => by
   rw [hW9]; exact (Below.heap_setCell _ _ _ _ hk).trans ((Below.heap_setCell _ _ _ _ hk).trans ((Below.heap_setCell _ _ _ _ hk).trans ((Below.heap_setCell _ _ _ _ hk).trans ((Below.heap_setCell _ _ _ _ hk).trans ((Below.heap_setCell _ _ _ _ hk).trans (Below.heap_setCell _ _ _ _ hk))))))
  have H49 := aM' (show W9.heap[w.heap.size]? = some (.cells (entA x (p : Int) (.slice A ys.length c)) 70 (0, 0)) by rw [hW9]; exact blk_put (blk_put (blk_put (blk_put (blk_put (blk_put (blk_put hI.h4 0 _ rfl) 1 _ rfl) 2 _ rfl) 3 _ rfl) 4 _ rfl) 5 _ rfl) 6 _ rfl)
  have HB9 := aM' (show Below w.heap.size w W9 by rw [hW9]; exact below_set (below_set (below_set (below_set (below_set (below_set (below_set (hI.hB) (Nat.le_refl _)) (Nat.le_refl _)) (Nat.le_refl _)) (Nat.le_refl _)) (Nat.le_refl _)) (Nat.le_refl _)) (Nat.le_refl _))
  have hlo := hI.lo
  have hz5 := HZ5.out
  have htb := HTB.out
  have HD9 := aM' (show W9.heap[D]? = some (.deferred (some [])) from (hk9 D (by omega)).trans hdf)
  have HOW9 := aM' (ownAny_keep hown (fun g hg => hk9 g (by have := (hown.lt g hg).1; have := hI.hi; omega)))
  have HYS := aM' hys
  have HLE := aM' hlen
  have HDD := aM' (show w.heap.size < D ∧ w.heap.size < g8 from ⟨by omega, hlo⟩)
  clear hk9 hI hbox hown hlen hz hD hys hdf hlo hz5 htb
  dsimp only
  go_wp2
  rw [← hW9]
  refine retD (ds := [D]) (v := .tuple #[.agg (entA x (p : Int) (.slice A ys.length c)), .int .i64 0]) (List.nodup_cons.2 ⟨List.not_mem_nil, List.nodup_nil⟩) (fun D' hD' => by rw [List.mem_singleton.1 hD']; exact HD9.out) (fun W' hW' => ?_)
  have hno : ∀ (k : Nat) (cs : Array Value) (t : TypeId) (f : Nat × Nat), W9.heap[k]? = some (Obj.cells cs t f) → W'.heap[k]? = some (Obj.cells cs t f) := fun k cs t f hk => by
   rw [hW'.heap k (fun hm => ?_)]
   ·
    exact hk
   ·
    rw [List.mem_singleton.1 hm, HD9.out] at hk
    cases hk
  refine ⟨of_results _ _ _ _ _ _ _ _ _ _ _ rfl rfl (hno _ _ _ _ H49.out), A, c, by rw [HLE.out], ?_, hW'.below HB9.out (fun D' hD' => by rw [List.mem_singleton.1 hD']; have := HDD.out; omega)⟩
  have h1 := own_base (ownAny_keep (w' := W') HOW9.out (fun g hg => by
   obtain ⟨cs, h3⟩ := own_cells HOW9.out hg
   rw [hno _ _ _ _ h3, h3])) (show w.heap.size ≤ g8 + 3 by have := HDD.out; omega)
  rw [HLE.out, HYS.out] at h1
  exact h1
 case stop =>
  rintro D c2 pre W hD - h hdf
  exact h.elim
set_option maxRecDepth 100000 in
set_option maxHeartbeats 4000000 in
theorem proofOfNo.calls (base ta gl cl : Nat) (VV : Value) (gs : List RowG) (wd : Int) (ls : List SLeaf) (p : Nat) (w : World) (hT : TreeOwn base w ta (treeT wd ls) gl cl VV gs) (hk : NewOk wd ls) (hn : ls.length ≤ 1024) (hp : ls.length ≤ p) :
  Calls Tryd.prog 37 #[ptrT ta, .int .u64 (p : Int)] w fun e w' => e = .returned (.tuple #[.agg entZ, .int .i64 2]) ∧ Below w.heap.size w w' := by
 have HT := aM' hT
 have HKK := aM' hk
 have HN := aM' hn
 have hlf : leafAtI (treeT wd ls) (p : Int) = (leafZ, false) := by
  unfold leafAtI
  rw [Int.toNat_natCast]
  simp [treeT, List.getD_eq_getElem?_getD, hp, show ¬ p < ls.length by omega]
 have HLF := aM' hlf
 obtain ⟨W0, hW0⟩ : ∃ V, V = w.alloc (.cells entZ 70) := ⟨_, rfl⟩
 have HB0 := aM' (show Below w.heap.size w W0 by rw [hW0]; exact below_alloc (Below.refl _ _) _)
 have H4 := aM' (show W0.heap[w.heap.size]? = some (.cells entZ 70 (0, 0)) by rw [hW0]; exact blk_new _ _)
 have hw0 : (wd == 0) = false := by have := hk.w.1; simp; omega
 clear hT hk hn hp hlf
 refine (callsIn_wide (n := 3)).1 ?_
 refine callsIn_of_wp_marks Tryd.func37 rfl trivial ?_ rfl
 simp only [Tryd.ntmps37, List.size_toArray, List.length_cons, List.length_nil, Nat.reduceAdd, Nat.reduceSub, Array.replicate_succ, Array.replicate_zero, List.push_toArray, List.append_toArray, List.nil_append, List.cons_append]
 refine wpIn_wide.2 ?_
 go_wp2_with fail
 rw [← hW0]
 clear hW0
 refine (show Calls Tryd.prog 18 #[ptrT ta] W0 fun e w' => e = .returned (.int .i64 wd) ∧ W0 = w' from tWidth.calls ta _ W0 ((HT.out.keep HB0.out).readT HKK.out HN.out)).mono ?_
 rintro e _ ⟨rfl, rfl⟩
 have q := tLeaf.calls ta _ (p : Int) W0 ((HT.out.keep HB0.out).readT HKK.out HN.out) (by omega)
 rw [HLF.out] at q
 have Q := aM' q
 clear q
 go_wp2_with fail
 refine Q.out.mono ?_
 rintro e w1 ⟨rfl, hb⟩
 obtain ⟨W2, hW2⟩ : ∃ V, V = w1.alloc (.cells #[.bool false, .string ⟨#[]⟩, .string ⟨#[]⟩, .int .u64 0, .int .u64 0] 36) := ⟨_, rfl⟩
 have hb2 : Below W0.heap.size W0 W2 := by rw [hW2]; exact below_alloc hb _
 have HB2 := aM' (HB0.out.trans (hb2.mono HB0.out.size))
 have h42 := blk_below H4.out hb2
 have z0 : W2.cell? ⟨w.heap.size, 0, none⟩ = some (.bool false) := blk_cell h42 0
 have z1 : W2.cell? ⟨w.heap.size, 1, none⟩ = some (.string ⟨#[]⟩) := blk_cell h42 1
 have z2 : W2.cell? ⟨w.heap.size, 2, none⟩ = some (.string ⟨#[]⟩) := blk_cell h42 2
 have z3 : W2.cell? ⟨w.heap.size, 3, none⟩ = some (.int .u64 0) := blk_cell h42 3
 have z4 : W2.cell? ⟨w.heap.size, 4, none⟩ = some (.int .u64 0) := blk_cell h42 4
 have z5 : W2.cell? ⟨w.heap.size, 5, none⟩ = some (.int .u64 0) := blk_cell h42 5
 have z6 : W2.cell? ⟨w.heap.size, 6, none⟩ = some (.slice none 0 0) := blk_cell h42 6
 have zf : ∀ i, W2.frozen? ⟨w.heap.size, i, none⟩ = false := fun i => blk_frozen h42 i
 have H42 := aM' h42
 go_upto_region 4 with (fail)
 simp only [← hW2]
 clear hW2 hb hb2 hw0 h42
 obtain ⟨W9, hW9⟩ : ∃ V, V = (((((((W2.setCell ⟨w.heap.size, 0, none⟩ (.bool false)).setCell ⟨w.heap.size, 1, none⟩ (.string ⟨#[]⟩)).setCell ⟨w.heap.size, 2, none⟩ (.string ⟨#[]⟩)).setCell ⟨w.heap.size, 3, none⟩ (.int .u64 0)).setCell ⟨w.heap.size, 4, none⟩ (.int .u64 0)).setCell ⟨w.heap.size, 5, none⟩ (.int .u64 0)).setCell ⟨w.heap.size, 6, none⟩ (.slice none 0 0)) := ⟨_, rfl⟩
 have H49 := aM' (show W9.heap[w.heap.size]? = some (.cells entZ 70 (0, 0)) by rw [hW9]; exact blk_put (blk_put (blk_put (blk_put (blk_put (blk_put (blk_put H42.out 0 _ rfl) 1 _ rfl) 2 _ rfl) 3 _ rfl) 4 _ rfl) 5 _ rfl) 6 _ rfl)
 have HB9 := aM' (show Below w.heap.size w W9 by rw [hW9]; exact below_set (below_set (below_set (below_set (below_set (below_set (below_set (HB2.out) (Nat.le_refl _)) (Nat.le_refl _)) (Nat.le_refl _)) (Nat.le_refl _)) (Nat.le_refl _)) (Nat.le_refl _)) (Nat.le_refl _))
 go_wp2
 rw [← hW9]
 exact ret0 _ (of_results _ _ _ _ _ _ _ _ _ _ _ rfl rfl H49.out) ⟨rfl, HB9.out⟩
end Go.Proofs.YtfcodmdckcihmaaDoor.P
namespace Go.Proofs.YtfcodmdckcihmaaDoor.P
open Go.RowKit Go.Proofs.YtfcodmdckcihmaaDoorW.PrintWords Go.Proofs.YtfcodmdckcihmaaDoorW.PrintLast Go.Proofs.YtfcodmdckcihmaaDoorW.PrintMore
set_option linter.unusedVariables false
set_option linter.unusedSimpArgs false
set_option linter.unnecessarySimpa false
abbrev EntR := SEntry × Option Addr × Nat
def EntC (w : World) (x : EntR) : Prop := x.1.f1.f1.length ≤ x.2.2 ∧ Kd.C kNode w x.2.1 x.1.f1.f1.length x.1.f1.f1
theorem EntC.below {w w' : World} {x : EntR} (h : EntC w x) (hb : Below w.heap.size w w') : EntC w' x := ⟨h.1, Kd.C_below h.2 hb⟩
theorem own_nodes {w : World} {base n cap : Nat} {A : Option Addr} {xs : List SNode} (h : w.ownsRow base 46 3 (.slice A n cap) n (cellsN xs)) (hx : xs.length = n) : n ≤ cap ∧ Kd.C kNode w A n xs := by
 cases n with
 | zero =>
  obtain rfl := List.length_eq_zero_iff.1 hx
  exact ⟨Nat.zero_le _, rfl, by decide, fun h => absurd h (by decide)⟩
 | succ n =>
  obtain ⟨g, c, hv, -, -⟩ := h.form (by omega)
  cases hv
  have := ownNodes_C h
  exact ⟨this.2.1, this.2.2⟩
end Go.Proofs.YtfcodmdckcihmaaDoor.P
namespace Go.Proofs.YtfcodmdckcihmaaDoor.P
open Go.RowKit Go.Proofs.YtfcodmdckcihmaaDoorW.PrintWords Go.Proofs.YtfcodmdckcihmaaDoorW.PrintLast Go.Proofs.YtfcodmdckcihmaaDoorW.PrintMore
set_option linter.unusedVariables false
set_option linter.unusedSimpArgs false
set_option linter.unnecessarySimpa false
theorem rdLeaf_nat (l : List SLeaf) (i : Nat) (h : i < l.length) : rd_TLeaf l (i : Int) = l[i] := by simp [rd_TLeaf, h]
theorem great15_loop (l : List SLeaf) (hl : l.length ≤ 9223372036854775807) : ∀ d i : Nat, i + d = l.length → Ev (fun k => paymasterlaw15_Great.l0 k l (i : Int)) ((l.drop i).any fun n => decide (200 < n.f1.size) || decide (200 < n.f2.size)) := by
 intro d
 induction d with
 | zero =>
  intro i hi
  refine Ev.step (f := fun _ => some false) (fun k => ?_) (ev_eq (Ev.now false) ?_)
  ·
   simp only [paymasterlaw15_Great.l0]; rw [if_neg (by omega)]
  ·
   rw [List.drop_of_length_le (by omega)]; rfl
 | succ d ih =>
  intro i hi
  have hlt : i < l.length := by omega
  rw [any_drop_succ _ l i hlt]
  by_cases hb : 200 < l[i].f1.size
  ·
   refine Ev.step (f := fun _ => some true) (fun k => ?_) (ev_eq (Ev.now true) (by simp [hb]))
   simp only [paymasterlaw15_Great.l0]; rw [if_pos (by omega), if_pos (by omega), rdLeaf_nat l i hlt, if_pos (by omega)]
  ·
   by_cases hc : 200 < l[i].f2.size
   ·
    refine Ev.step (f := fun _ => some true) (fun k => ?_) (ev_eq (Ev.now true) (by simp [hc]))
    simp only [paymasterlaw15_Great.l0]; rw [if_pos (by omega), if_pos (by omega), rdLeaf_nat l i hlt, if_neg (by omega), if_pos (by omega)]
   ·
    refine Ev.step (f := fun k => paymasterlaw15_Great.l0 k l ((i + 1 : Nat) : Int)) (fun k => ?_) (ev_eq (ih (i + 1) (by omega)) (by simp [hb, hc]))
    simp only [paymasterlaw15_Great.l0]; rw [if_pos (by omega), if_pos (by omega), rdLeaf_nat l i hlt, if_neg (by omega), if_neg (by omega), wrap64_id (by omega) (by omega)]; rfl
def greatL (l : List SLeaf) : Bool := decide (70 < l.length) || l.any fun n => decide (200 < n.f1.size) || decide (200 < n.f2.size)
theorem great15_ev (l : List SLeaf) (hl : l.length ≤ 9223372036854775807) : Ev (fun k => paymasterlaw15_Great.f k l) (greatL l) := by
 unfold paymasterlaw15_Great.f greatL
 by_cases h : 70 < l.length
 ·
  exact Ev.some_ (fun k => by rw [if_pos (by omega)]; simp [h])
 ·
  refine Ev.congr (fun k => by rw [if_neg (by omega)]; rfl) (ev_eq (great15_loop l hl l.length 0 (by omega)) (by simp [h]))
def shapeN (a0 a1 p : Int) (l : List SNode) : Int := if a1 < 0 ∨ a1 > 63 then 120 else if a0 < 1 ∨ a0 > 32 ∨ l.any (fun n => !nodeOf a0 n) = true then 70 else if (l.length : Int) ≠ a1 ∨ p / 2 ^ a1.toNat ≠ 0 then 160 else 0
theorem proofShape_eq (a0 a1 p : Int) (l : List SNode) : proof_Shape.f a0 a1 p l = some (shapeN a0 a1 p l) := rfl
end Go.Proofs.YtfcodmdckcihmaaDoor.P
namespace Go.Proofs.YtfcodmdckcihmaaDoor.P
open Go.RowKit Go.Proofs.YtfcodmdckcihmaaDoorW.PrintWords Go.Proofs.YtfcodmdckcihmaaDoorW.PrintLast Go.Proofs.YtfcodmdckcihmaaDoorW.PrintMore
set_option linter.unusedVariables false
set_option linter.unusedSimpArgs false
set_option linter.unnecessarySimpa false
theorem heqRoot (d : Nat) (w : World) (x0 y0 : ByteArray) (x1 y1 : Int) (x2 y2 : Int) (x3 y3 : Int) :
  (Op.equalIn (d + 3) 41 (.agg #[.string x0, .int .u64 x1, .int .u64 x2, .int .i64 x3]) (.agg #[.string y0, .int .u64 y1, .int .u64 y2, .int .i64 y3])).run Tryd.prog w = .ok (x0.toList == y0.toList && ((x1 == y1 && (x2 == y2)) && (x3 == y3))) w := by
 refine eqA_of Tryd.underlying41 (by kernel_rfl) ?_
 refine eqf_cons (by rfl) (by go_simp; rfl) (by go_simp; rfl) (by go_simp) ?_
 refine eqf_cons (by rfl) (by go_simp) (by go_simp) (eqAU128 (d + 0) w _ _ _ _) ?_
 exact eqf_last (by rfl) (by go_simp; rfl) (by go_simp; rfl) (by go_simp)
end Go.Proofs.YtfcodmdckcihmaaDoor.P
namespace Go.Proofs.YtfcodmdckcihmaaDoor.P
open Go.RowKit Go.Proofs.YtfcodmdckcihmaaDoorW.PrintWords Go.Proofs.YtfcodmdckcihmaaDoorW.PrintLast Go.Proofs.YtfcodmdckcihmaaDoorW.PrintMore
set_option linter.unusedVariables false
set_option linter.unusedSimpArgs false
set_option linter.unnecessarySimpa false
attribute [local go_sem high] eqANode heqRoot eqALeaf
theorem greatL_ok {l : List SLeaf} (h : greatL l = false) : l.length ≤ 70 ∧ ∀ x ∈ l, x.f1.size ≤ 200 ∧ x.f2.size ≤ 200 := by
 unfold greatL at h
 simp only [Bool.or_eq_false_iff, decide_eq_false_iff_not, List.any_eq_false] at h
 refine ⟨by omega, fun x hx => ?_⟩
 have := h.2 x hx
 simp at this
 omega
structure TB (w : World) (a ar : Nat) (wd : Int) (l : List SLeaf) (V : World) : Prop where
 t : TreeR a (treeT wd l) V
 r : RefT ar wd l V
 b : Below w.heap.size w V
theorem TB.below {w : World} {a ar : Nat} {wd : Int} {l : List SLeaf} {V V' : World} (h : TB w a ar wd l V) (hb : Below V.heap.size V V') : TB w a ar wd l V' := ⟨h.t.below hb, h.r.below hb, h.b.trans (hb.mono h.b.size)⟩
structure KB (w V0 : World) (g n : Nat) (V : World) : Prop where
 k : ∀ k, k ≠ g → V.heap[k]? = V0.heap[k]?
 c : ∃ cs, V.heap[g]? = some (.cells cs 36 (0, 0)) ∧ n * 5 ≤ cs.size
 b : Below w.heap.size w V
 s : V.heap.size = V0.heap.size
theorem KB.cell {w V0 V : World} {g n i : Nat} (h : KB w V0 g n V) (hi : i < n) : (∃ v, V.cell? ⟨g, i * 5 + 1, none⟩ = some v) ∧ V.frozen? ⟨g, i * 5 + 1, none⟩ = false := by
 obtain ⟨cs, h1, h2⟩ := h.c
 exact ⟨⟨cs[i * 5 + 1]'(by omega), by rw [blk_cell h1]; simp [show i * 5 + 1 < cs.size by omega]⟩, blk_frozen h1 _⟩
theorem KB.put {w V0 V : World} {g n i : Nat} (h : KB w V0 g n V) (hg : w.heap.size ≤ g) (v : Value) : KB w V0 g n (V.setCell ⟨g, i, none⟩ v) := by
 obtain ⟨cs, h1, h2⟩ := h.c
 exact ⟨fun k hk => (Below.heap_setCell _ _ _ _ hk).trans (h.k k hk), ⟨cs.setIfInBounds i v, blk_put h1 i v rfl, by simpa using h2⟩, below_set h.b hg, by simpa using h.s⟩
theorem KB.start {w V0 : World} {base g n cap : Nat} {xs : List SLeaf} (h : V0.ownsRow base 36 5 (.slice (some ⟨g, 0, none⟩) n cap) n (cellsL xs)) (hB : Below w.heap.size w V0) : KB w V0 g n V0 := by
 rcases h.2 with ⟨e, _⟩ | ⟨g', cap', cur, e, _, h2, h3, _, h5, _⟩
 ·
  cases e
 ·
  cases e
  exact ⟨fun _ _ => rfl, ⟨cur, h2, by rw [h5]; exact Nat.mul_le_mul_right 5 h3⟩, hB, rfl⟩
end Go.Proofs.YtfcodmdckcihmaaDoor.P
namespace Go.Proofs.YtfcodmdckcihmaaDoor.P
open Go.RowKit Go.Proofs.YtfcodmdckcihmaaDoorW.PrintWords Go.Proofs.YtfcodmdckcihmaaDoorW.PrintLast Go.Proofs.YtfcodmdckcihmaaDoorW.PrintMore
set_option linter.unusedVariables false
set_option linter.unusedSimpArgs false
set_option linter.unnecessarySimpa false
attribute [local go_sem high] eqANode heqRoot eqALeaf
structure LeafC (V : World) (ap : Addr) (y : SLeaf) : Prop where
 p0 : V.cell? ap = some (.bool y.f0)
 p1 : V.cell? ⟨ap.block, ap.off + 1, none⟩ = some (.string y.f1)
 p2 : V.cell? ⟨ap.block, ap.off + 2, none⟩ = some (.string y.f2)
 p3 : V.cell? ⟨ap.block, ap.off + 3, none⟩ = some (.int .u64 y.f3.f0)
 p4 : V.cell? ⟨ap.block, ap.off + 4, none⟩ = some (.int .u64 y.f3.f1)
theorem leafC_at {V : World} {A : Option Addr} {l : List SLeaf} {p : Nat} (h : Kd.C kLeaf V A l.length l) (hp : p < l.length) (hn : l.length ≤ 1024) : ∃ ad, A = some ad ∧ LeafC V (ad.add (p * 5)) l[p] := by
 obtain ⟨ad, e1, p0, p1, p2, p3, p4⟩ := at_TLeaf h (p : Int) (by omega) (by omega)
 have e3 : rd_TLeaf l (p : Int) = l[p] := by rw [rd_TLeaf, Int.toNat_natCast]; simp [List.getD_eq_getElem?_getD, hp]
 rw [e3, Int.toNat_natCast] at p0 p1 p2 p3 p4
 exact ⟨ad, e1, ⟨p0, p1, p2, p3, p4⟩⟩
theorem LeafC.below {V V' : World} {ap : Addr} {y : SLeaf} (h : LeafC V ap y) (hb : Below V.heap.size V V') : LeafC V' ap y := ⟨pw_cell_below hb h.p0, pw_cell_below hb h.p1, pw_cell_below hb h.p2, pw_cell_below hb h.p3, pw_cell_below hb h.p4⟩
structure At18 (w w' : World) (g12 g17 : Nat) (rt : SNode) (m : Int) (ap : Addr) (y : SLeaf) : Prop where
 b : Below w.heap.size w w'
 r : w'.heap[g12]? = some (.cells #[.string rt.f0, .int .u64 rt.f1.f0, .int .u64 rt.f1.f1, .int .i64 m] 41 (0, 0))
 k : w'.heap[g17]? = some (.cells #[.bool y.f0, .string y.f1, .string y.f2, .int .u64 y.f3.f0, .int .u64 y.f3.f1] 36 (0, 0))
 l : LeafC w' ap y
theorem At18.of {w W : World} {g12 g17 : Nat} {rt : SNode} {m : Int} {ap : Addr} {y : SLeaf} {C : Prop} (h : C ∧ At18 w W g12 g17 rt m ap y) : At18 w W g12 g17 rt m ap y := h.2
theorem At18.keep {w W w' : World} {g12 g17 : Nat} {rt : SNode} {m : Int} {ap : Addr} {y : SLeaf} (k : Below W.heap.size W w') (h : At18 w W g12 g17 rt m ap y) : At18 w w' g12 g17 rt m ap y := ⟨h.b.trans (k.mono h.b.size), blk_below h.r k, blk_below h.k k, h.l.below k⟩
theorem At18.cells {w w' : World} {g12 g17 : Nat} {rt : SNode} {m : Int} {ap : Addr} {y : SLeaf} (h : At18 w w' g12 g17 rt m ap y) : ((w'.cell? ⟨g12, 0, none⟩ = some (.string rt.f0) ∧ w'.cell? ⟨g12, 1, none⟩ = some (.int .u64 rt.f1.f0) ∧ w'.cell? ⟨g12, 2, none⟩ = some (.int .u64 rt.f1.f1) ∧ w'.cell? ⟨g12, 3, none⟩ = some (.int .i64 m)) ∧ (w'.cell? ⟨g17, 0, none⟩ = some (.bool y.f0) ∧ w'.cell? ⟨g17, 1, none⟩ = some (.string y.f1) ∧ w'.cell? ⟨g17, 2, none⟩ = some (.string y.f2) ∧ w'.cell? ⟨g17, 3, none⟩ = some (.int .u64 y.f3.f0) ∧ w'.cell? ⟨g17, 4, none⟩ = some (.int .u64 y.f3.f1)) ∧ (w'.cell? ap = some (.bool y.f0) ∧ w'.cell? ⟨ap.block, ap.off + 1, none⟩ = some (.string y.f1) ∧ w'.cell? ⟨ap.block, ap.off + 2, none⟩ = some (.string y.f2) ∧ w'.cell? ⟨ap.block, ap.off + 3, none⟩ = some (.int .u64 y.f3.f0) ∧ w'.cell? ⟨ap.block, ap.off + 4, none⟩ = some (.int .u64 y.f3.f1))) ∧ At18 w w' g12 g17 rt m ap y :=
 ⟨⟨⟨(blk_cell h.r 0).trans rfl, (blk_cell h.r 1).trans rfl, (blk_cell h.r 2).trans rfl, (blk_cell h.r 3).trans rfl⟩, ⟨(blk_cell h.k 0).trans rfl, (blk_cell h.k 1).trans rfl, (blk_cell h.k 2).trans rfl, (blk_cell h.k 3).trans rfl, (blk_cell h.k 4).trans rfl⟩, ⟨h.l.p0, h.l.p1, h.l.p2, h.l.p3, h.l.p4⟩⟩, h⟩
structure At28 (w w' : World) (g12 : Nat) (rt : SNode) (m : Int) (ap : Addr) (y : SLeaf) : Prop where
 b : Below w.heap.size w w'
 r : w'.heap[g12]? = some (.cells #[.string rt.f0, .int .u64 rt.f1.f0, .int .u64 rt.f1.f1, .int .i64 m] 41 (0, 0))
 l : LeafC w' ap y
theorem At28.of {w W : World} {g12 : Nat} {rt : SNode} {m : Int} {ap : Addr} {y : SLeaf} {C : Prop} (h : C ∧ At28 w W g12 rt m ap y) : At28 w W g12 rt m ap y := h.2
theorem At28.keep {w W w' : World} {g12 : Nat} {rt : SNode} {m : Int} {ap : Addr} {y : SLeaf} (k : Below W.heap.size W w') (h : At28 w W g12 rt m ap y) : At28 w w' g12 rt m ap y := ⟨h.b.trans (k.mono h.b.size), blk_below h.r k, h.l.below k⟩
theorem At28.cells {w w' : World} {g12 : Nat} {rt : SNode} {m : Int} {ap : Addr} {y : SLeaf} (h : At28 w w' g12 rt m ap y) : ((w'.cell? ⟨g12, 0, none⟩ = some (.string rt.f0) ∧ w'.cell? ⟨g12, 1, none⟩ = some (.int .u64 rt.f1.f0) ∧ w'.cell? ⟨g12, 2, none⟩ = some (.int .u64 rt.f1.f1) ∧ w'.cell? ⟨g12, 3, none⟩ = some (.int .i64 m)) ∧ (w'.cell? ap = some (.bool y.f0) ∧ w'.cell? ⟨ap.block, ap.off + 1, none⟩ = some (.string y.f1) ∧ w'.cell? ⟨ap.block, ap.off + 2, none⟩ = some (.string y.f2) ∧ w'.cell? ⟨ap.block, ap.off + 3, none⟩ = some (.int .u64 y.f3.f0) ∧ w'.cell? ⟨ap.block, ap.off + 4, none⟩ = some (.int .u64 y.f3.f1))) ∧ At28 w w' g12 rt m ap y :=
 ⟨⟨⟨(blk_cell h.r 0).trans rfl, (blk_cell h.r 1).trans rfl, (blk_cell h.r 2).trans rfl, (blk_cell h.r 3).trans rfl⟩, ⟨h.l.p0, h.l.p1, h.l.p2, h.l.p3, h.l.p4⟩⟩, h⟩
end Go.Proofs.YtfcodmdckcihmaaDoor.P
namespace Go.Proofs.YtfcodmdckcihmaaDoor.P
open Go.RowKit Go.Proofs.YtfcodmdckcihmaaDoorW.PrintWords Go.Proofs.YtfcodmdckcihmaaDoorW.PrintLast Go.Proofs.YtfcodmdckcihmaaDoorW.PrintMore
set_option linter.unusedVariables false
set_option linter.unusedSimpArgs false
set_option linter.unnecessarySimpa false
attribute [local go_sem high] eqANode heqRoot eqALeaf
def lf16 (i : Nat) : SLeaf := ⟨false, strOfNums [97 + (i : Int)], ⟨#[]⟩, ⟨0, (i : Int)⟩⟩
def l16 : List SLeaf := (List.range 4).map lf16
theorem l16_ok : ∀ x ∈ l16, OkL x := by
 intro x hx
 obtain ⟨i, hi, rfl⟩ := List.mem_map.1 hx
 have := List.mem_range.1 hi
 refine ⟨?_, by show (0 : Nat) ≤ _; omega, ⟨by show (0 : Int) ≤ 0 ∧ (0 : Int) < 18446744073709551616; decide, by show (0 : Int) ≤ (i : Int) ∧ (i : Int) < 18446744073709551616; omega⟩⟩
 show (strOfNums [97 + (i : Int)]).size ≤ 1000000
 rw [strOfNums_size]; simp
theorem l16_new : newI 7 l16 = 0 := by decide +kernel
theorem l16_len : l16.length = 4 := rfl
theorem l16_s1 : shapeN 7 2 2 (besL 7 l16 2 2) = 0 := by decide +kernel
theorem l16_s2 : shapeN 7 1 2 (besL 7 l16 2 2) = 160 := by decide +kernel
theorem l16_s3 : shapeN 6 2 2 (besL 7 l16 2 2) = 70 := by decide +kernel
theorem l16_s4 : shapeN 7 64 2 (besL 7 l16 2 2) = 120 := by decide +kernel
theorem l16_b : besL 7 l16 2 2 = [leafNodeI 7 (lf16 3), (upV 7 1 (l16.map (leafNodeI 7))).getD 0 nodeZ] := by rfl
structure At16 (w w' : World) (g9 g10 ga gc c : Nat) (y z : SLeaf) (s0 s1 : SNode) : Prop where
 b : Below w.heap.size w w'
 k : w'.heap[g9]? = some (.cells #[.bool y.f0, .string y.f1, .string y.f2, .int .u64 y.f3.f0, .int .u64 y.f3.f1, .int .u64 2, .slice (some ⟨ga, 0, none⟩) 2 c] 70 (0, 0))
 n : w'.heap[g10]? = some (.cells #[.string s1.f0, .int .u64 s1.f1.f0, .int .u64 s1.f1.f1] 46 (0, 0))
 l : LeafC w' ⟨gc, 15, none⟩ z
 s : Kd.C kNode w' (some ⟨ga, 0, none⟩) 2 [s0, s1]
theorem At16.keep {w W w' : World} {g9 g10 ga gc c : Nat} {y z : SLeaf} {s0 s1 : SNode} (k : Below W.heap.size W w') (h : At16 w W g9 g10 ga gc c y z s0 s1) : At16 w w' g9 g10 ga gc c y z s0 s1 := ⟨h.b.trans (k.mono h.b.size), blk_below h.k k, blk_below h.n k, h.l.below k, Kd.C_below h.s k⟩
theorem At16.of {w W : World} {g9 g10 ga gc c : Nat} {y z : SLeaf} {s0 s1 : SNode} {C : Prop} (h : C ∧ At16 w W g9 g10 ga gc c y z s0 s1) : At16 w W g9 g10 ga gc c y z s0 s1 := h.2
theorem At16.cells {w w' : World} {g9 g10 ga gc c : Nat} {y z : SLeaf} {s0 s1 : SNode} (h : At16 w w' g9 g10 ga gc c y z s0 s1) : ((w'.cell? ⟨g9, 0, none⟩ = some (.bool y.f0) ∧ w'.cell? ⟨g9, 1, none⟩ = some (.string y.f1) ∧ w'.cell? ⟨g9, 2, none⟩ = some (.string y.f2) ∧ w'.cell? ⟨g9, 3, none⟩ = some (.int .u64 y.f3.f0) ∧ w'.cell? ⟨g9, 4, none⟩ = some (.int .u64 y.f3.f1) ∧ w'.cell? ⟨g9, 5, none⟩ = some (.int .u64 2) ∧ w'.cell? ⟨g9, 6, none⟩ = some (.slice (some ⟨ga, 0, none⟩) 2 c)) ∧ (w'.cell? ⟨g10, 0, none⟩ = some (.string s1.f0) ∧ w'.cell? ⟨g10, 1, none⟩ = some (.int .u64 s1.f1.f0) ∧ w'.cell? ⟨g10, 2, none⟩ = some (.int .u64 s1.f1.f1)) ∧ (w'.cell? ⟨gc, 15, none⟩ = some (.bool z.f0) ∧ w'.cell? ⟨gc, 16, none⟩ = some (.string z.f1) ∧ w'.cell? ⟨gc, 17, none⟩ = some (.string z.f2) ∧ w'.cell? ⟨gc, 18, none⟩ = some (.int .u64 z.f3.f0) ∧ w'.cell? ⟨gc, 19, none⟩ = some (.int .u64 z.f3.f1)) ∧ (w'.cell? ⟨ga, 0, none⟩ = some (.string s0.f0) ∧ w'.cell? ⟨ga, 1, none⟩ = some (.int .u64 s0.f1.f0) ∧ w'.cell? ⟨ga, 2, none⟩ = some (.int .u64 s0.f1.f1)) ∧ (w'.cell? ⟨ga, 3, none⟩ = some (.string s1.f0) ∧ w'.cell? ⟨ga, 4, none⟩ = some (.int .u64 s1.f1.f0) ∧ w'.cell? ⟨ga, 5, none⟩ = some (.int .u64 s1.f1.f1))) ∧ At16 w w' g9 g10 ga gc c y z s0 s1 := by
 obtain ⟨ad, had, p0, p1, p2⟩ := at_TNode h.s 0 (by decide) (by decide)
 cases had
 obtain ⟨ad, had, q0, q1, q2⟩ := at_TNode h.s 1 (by decide) (by decide)
 cases had
 exact ⟨⟨⟨(blk_cell h.k 0).trans rfl, (blk_cell h.k 1).trans rfl, (blk_cell h.k 2).trans rfl, (blk_cell h.k 3).trans rfl, (blk_cell h.k 4).trans rfl, (blk_cell h.k 5).trans rfl, (blk_cell h.k 6).trans rfl⟩, ⟨(blk_cell h.n 0).trans rfl, (blk_cell h.n 1).trans rfl, (blk_cell h.n 2).trans rfl⟩, ⟨h.l.p0, h.l.p1, h.l.p2, h.l.p3, h.l.p4⟩, ⟨p0, p1, p2⟩, ⟨q0, q1, q2⟩⟩, h⟩
theorem At16.shape {w w' : World} {g9 g10 ga gc c : Nat} {y z : SLeaf} {s0 s1 : SNode} (h : At16 w w' g9 g10 ga gc c y z s0 s1) (hc : 2 ≤ c) (a0 a1 r : Int) (hf : proof_Shape.f a0 a1 2 [s0, s1] = some r) :
  Calls Tryd.prog 39 #[.int .i64 a0, .int .i64 a1, .agg #[.int .u64 2, .slice (some ⟨ga, 0, none⟩) 2 c]] w' fun e w2 => e = .returned (.int .i64 r) ∧ Below w'.heap.size w' w2 :=
 proof_Shape.calls a0 a1 2 _ c [s0, s1] r w' h.s hc hf
set_option maxRecDepth 100000 in
set_option maxHeartbeats 4000000 in
theorem awake16.calls (w : World) (hK : LaidT w) : Calls Tryd.prog 36 #[] w fun e w' => e = .returned (.bool true) ∧ Below w.heap.size w w' := by
 have HK := aM' hK
 clear hK
 obtain ⟨i0, hi, hz0, hz1, hz2⟩ := info_parts leafInfo
 go_enter Tryd.func36, Tryd.ntmps36
 go_wp2
 go_loopw [1, 2] (fun v1 v2 wr => ∃ i : Nat, v2 = .int .i64 (i : Int) ∧ Aside0 (i ≤ 4) ∧ Aside0 (Below w.heap.size w wr) ∧ Aside0 (wr.ownsRow w.heap.size 36 5 v1 i (cellsL (l16.take i)))) (fun _ v2 _ => 4 - (intOf v2).toNat)
 case atStart => exact ⟨0, rfl, ⟨by decide⟩, ⟨Below.refl _ _⟩, ⟨World.ownsRow_nil _ _ _ _⟩⟩
 case round =>
  obtain ⟨i, rfl, HI, HB, HO⟩ := hrel
  obtain ⟨A8, c8, rfl⟩ : ∃ A8 c8, u1 = .slice A8 i c8 := by
   rcases HO.out.2 with ⟨h, h0⟩ | ⟨g, cap, cur, h, _⟩
   ·
    exact ⟨none, 0, by rw [h, h0]⟩
   ·
    exact ⟨_, _, h⟩
  have hi4 : i ≤ 4 := HI.out
  by_cases hlt : i < 4
  ·
   have b1 : decide ((i : Int) < 4) = true := decide_eq_true (by omega)
   have b2 : decide (i < 4) = true := decide_eq_true hlt
   have w8 : IntKind.u8.wrap (i : Int) = (i : Int) := IntWalk.u8_in _ (by omega)
   obtain ⟨c, hc⟩ : ∃ c : Int, c = 97 + (i : Int) := ⟨_, rfl⟩
   have wc : IntKind.u8.wrap (97 + (i : Int)) = c := by rw [hc]; exact IntWalk.u8_in _ (by omega)
   have wu : IntKind.u64.wrap (i : Int) = (i : Int) := wrapu64_id (by omega) (by omega)
   have hcv := run_convert_bytes_arg (P := Tryd.prog) (w := wr.alloc (.cells #[.int .u8 c] 5)) 125 5 Tryd.underlying125 Tryd.underlying5 wr.heap.size 0 1 1 [c] rfl (fun j hj => by obtain rfl : j = 0 := (by omega); exact blk_cell (blk_new wr _) 0) 9 Tryd.underlying9
   obtain ⟨s, hs⟩ : ∃ s, s = strOfNums [c] := ⟨_, rfl⟩
   rw [← hs] at hcv
   have HTK := aM' (show l16.take (i + 1) = l16.take i ++ [⟨false, s, ⟨#[]⟩, ⟨0, (i : Int)⟩⟩] by
    rw [List.take_succ_eq_append_getElem (by rw [l16_len]; exact hlt)]
    congr 2
    rw [hs, hc]
    simp [l16, lf16])
   clear hs hc
   have hb1 : Below wr.heap.size wr (wr.alloc (.cells #[.int .u8 c] 5)) := below_alloc (Below.refl _ _) _
   have HB1 := aM' (HB.out.trans (hb1.mono HB.out.size))
   have HO1 := aM' (ownB HO.out hb1)
   go_wp2_with (at_builtin; refine wpList_append_own _ rfl _ _ 22 rfl w.heap.size 36 i0 (.agg #[.bool false, .string ⟨#[]⟩, .string ⟨#[]⟩, .int .u64 0, .int .u64 0]) 5 56 Tryd.underlying22 hi hz0 hz1 hz2 rfl (by decide) (.slice A8 i c8) i _ rfl (ownB HO1.out (below_alloc (Below.refl _ _) (.cells #[.bool false, .string s, .string ⟨#[]⟩, .int .u64 0, .int .u64 (i : Int)] 36))) ⟨wr.heap.size + 1, 0, none⟩ 1 1 [.bool false, .string s, .string ⟨#[]⟩, .int .u64 0, .int .u64 (i : Int)] rfl rfl ?c2 ?c3 ?c4 ?c5 ?c6 ?_)
   case c2 =>
    have h := blk_new (wr.alloc (.cells #[.int .u8 c] 5)) (.cells #[.bool false, .string s, .string ⟨#[]⟩, .int .u64 0, .int .u64 (i : Int)] 36)
    rw [World.size_alloc] at h
    exact World.news_of_block h
   case c3 =>
    intro u hu
    simp only [List.mem_cons, List.not_mem_nil, or_false] at hu
    rcases hu with rfl | rfl | rfl | rfl | rfl <;> rfl
   case c4 => unfold maxLen; omega
   case c5 => omega
   case c6 => rw [World.size_alloc]; have := HB1.out.size; omega
   intro v' w' hown hgr hnil
   have HB' := aM' (below_grown (below_alloc HB1.out (.cells #[.bool false, .string s, .string ⟨#[]⟩, .int .u64 0, .int .u64 (i : Int)] 36)) hgr (fun r e => (HO1.out.lt r e).1))
   have hown2 : w'.ownsRow w.heap.size 36 5 v' (i + 1) (cellsL (l16.take (i + 1))) := by
    rw [HTK.out, cellsL_append]; exact hown
   have HO' := aM' hown2
   clear hown hgr hnil hown2 hb1 hcv w8 wc wu
   go_wp2
   go_roundw
   case rel => exact ⟨i + 1, by go_num, ⟨by omega⟩, HB', HO'⟩
   case measure => simp [intOf]; omega
  ·
   obtain rfl : i = 4 := by omega
   have b1 : decide (((4 : Nat) : Int) < 4) = false := by decide
   have b2 : decide (4 < 4) = false := by decide
   have ho := HO.out
   rw [show l16.take 4 = l16 from rfl] at ho
   obtain ⟨gc, cc, hv, -, -⟩ := ho.form (by decide)
   cases hv
   have hol := ownLeaves_C ho
   have HOL := aM' hol
   clear ho hol hi4
   go_wp2_with fail
   refine (treeNew.calls 7 (some ⟨gc, 0, none⟩) c8 l16 wr (HK.out.below HB.out) HOL.out.2.2 HOL.out.2.1 (by decide) l16_ok).mono ?_
   rintro e w3 ⟨hb, h⟩
   rcases h with ⟨-, a, gl, cl, VV, gs, rfl, hO⟩ | ⟨hn, -⟩
   case inr => exact absurd l16_new hn
   have HB3 := aM' (HB.out.trans (hb.mono HB.out.size))
   have HO3 := aM' hO
   have HC3 := aM' (Kd.C_below HOL.out.2.2 hb)
   have HKK := aM' (newI_zero l16_new l16_ok)
   clear hb hO
   go_wp2_with fail
   refine (proofOf.calls _ a gl cl VV gs 7 l16 2 2 w3 HO3.out HKK.out (by decide) (by decide) (by decide) (by decide)).mono ?_
   rintro e w4 ⟨A, c, rfl, hown, hb⟩
   obtain ⟨y, hy⟩ : ∃ y, y = l16[2]'(by decide) := ⟨_, rfl⟩
   rw [← hy]
   have HY := aM' hy
   clear hy
   obtain ⟨g9, hg9⟩ : ∃ g, g = w4.heap.size := ⟨_, rfl⟩
   obtain ⟨W5, hW5⟩ : ∃ V, V = w4.alloc (.cells #[.bool y.f0, .string y.f1, .string y.f2, .int .u64 y.f3.f0, .int .u64 y.f3.f1, .int .u64 2, .slice A 2 c] 70) := ⟨_, rfl⟩
   have hb5 : Below w3.heap.size w3 W5 := by rw [hW5]; exact below_alloc hb _
   have HB5 := aM' (HB3.out.trans (hb5.mono HB3.out.size))
   have HO5 := aM' (HO3.out.keep hb5)
   have HOW5 := aM' (show W5.ownsRow w3.heap.size 46 3 (.slice A 2 c) 2 (cellsN (besL 7 l16 2 2)) by rw [hW5]; exact ownB hown (below_alloc (Below.refl _ _) _))
   have HC5 := aM' (Kd.C_below HC3.out hb5)
   have HG9 := aM' (show W5.heap[g9]? = some (.cells #[.bool y.f0, .string y.f1, .string y.f2, .int .u64 y.f3.f0, .int .u64 y.f3.f1, .int .u64 2, .slice A 2 c] 70 (0, 0)) by rw [hW5, hg9]; exact blk_new _ _)
   go_wp2_with fail
   simp only [← hg9, ← hW5]
   clear hb hown hb5 hW5 hg9
   refine (proofOfNo.calls _ a gl cl VV gs 7 l16 4 W5 HO5.out HKK.out (by decide) (by decide)).mono ?_
   rintro e w6 ⟨rfl, hb⟩
   have HB6 := aM' (HB5.out.trans (hb.mono HB5.out.size))
   have HO6 := aM' (HO5.out.keep hb)
   have HOW6 := aM' (ownB HOW5.out hb)
   have HC6 := aM' (Kd.C_below HC5.out hb)
   have HG6 := aM' (blk_below HG9.out hb)
   clear hb
   go_upto_region 9 with (fail)
   obtain ⟨W7, hW7⟩ : ∃ V, V = w6.alloc (.cells #[.bool false, .string ⟨#[]⟩, .string ⟨#[]⟩, .int .u64 0, .int .u64 0, .int .u64 0, .slice none 0 0] 70) := ⟨_, rfl⟩
   have hb7 : Below w6.heap.size w6 W7 := by rw [hW7]; exact below_alloc (Below.refl _ _) _
   have HB7 := aM' (HB6.out.trans (hb7.mono HB6.out.size))
   have HO7 := aM' (HO6.out.keep hb7)
   have HOW7 := aM' (ownB HOW6.out hb7)
   have HC7 := aM' (Kd.C_below HC6.out hb7)
   have HG7 := aM' (blk_below HG6.out hb7)
   rw [← hW7]
   clear hb7 hW7
   have x0 := blk_cell HG7.out 0
   have x1 := blk_cell HG7.out 1
   have x2 := blk_cell HG7.out 2
   have x3 := blk_cell HG7.out 3
   have x4 := blk_cell HG7.out 4
   have x5 := blk_cell HG7.out 5
   have x6 := blk_cell HG7.out 6
   simp at x0 x1 x2 x3 x4 x5 x6
   obtain ⟨ad, had, hl⟩ := leafC_at HC7.out (p := 2) (by decide) (by decide)
   cases had
   rw [← HY.out] at hl
   have y0 : W7.cell? ⟨gc, 10, none⟩ = some (.bool y.f0) := hl.p0
   have y1 : W7.cell? ⟨gc, 11, none⟩ = some (.string y.f1) := hl.p1
   have y2 : W7.cell? ⟨gc, 12, none⟩ = some (.string y.f2) := hl.p2
   have y3 : W7.cell? ⟨gc, 13, none⟩ = some (.int .u64 y.f3.f0) := hl.p3
   have y4 : W7.cell? ⟨gc, 14, none⟩ = some (.int .u64 y.f3.f1) := hl.p4
   clear hl
   have c24 : decide ((2 : Int) < 4) = true := by decide
   go_quiet (fail)
   obtain ⟨W8, hW8⟩ : ∃ V, V = W7.drewN nq := ⟨_, rfl⟩
   have hb8 : Below W7.heap.size W7 W8 := by rw [hW8]; exact pw_below_drewN (Below.refl _ _) nq
   have HB8 := aM' (HB7.out.trans (hb8.mono HB7.out.size))
   have HO8 := aM' (HO7.out.keep hb8)
   have HOW8 := aM' (ownB HOW7.out hb8)
   have HC8 := aM' (Kd.C_below HC7.out hb8)
   have HG8 := aM' (blk_below HG7.out hb8)
   rw [← hW8]
   clear hb8 hW8 x0 x1 x2 x3 x4 x5 x6 y0 y1 y2 y3 y4
   obtain ⟨nx, hnx⟩ : ∃ z, z = (upV 7 1 (l16.map (leafNodeI 7))).getD 0 nodeZ := ⟨_, rfl⟩
   have HNX := aM' (node_is HKK.out (m := 2) (by decide) (n := 1) (by decide) (p := 0) (by decide) (q := 0) (by decide) hnx)
   have HNE := aM' hnx
   clear hnx
   go_wp2_with fail
   refine (HO8.out.nodeC HKK.out (by decide) HNX.out).mono ?_
   rintro e w9 ⟨rfl, hb⟩
   have HB9 := aM' (HB8.out.trans (hb.mono HB8.out.size))
   have HOW9 := aM' (ownB HOW8.out hb)
   have HC9 := aM' (Kd.C_below HC8.out hb)
   have HG9' := aM' (blk_below HG8.out hb)
   clear hb
   obtain ⟨ga, rfl⟩ : ∃ ga, A = some ⟨ga, 0, none⟩ := by
    obtain ⟨gx, cx, hv, -, -⟩ := HOW9.out.form (by decide)
    cases hv
    exact ⟨gx, rfl⟩
   obtain ⟨-, hcap, hs⟩ := ownNodes_C HOW9.out
   obtain ⟨z, hz⟩ : ∃ z, z = lf16 3 := ⟨_, rfl⟩
   obtain ⟨s0, hs0⟩ : ∃ s, s = leafNodeI 7 z := ⟨_, rfl⟩
   have hbe : besL 7 l16 2 2 = [s0, nx] := by rw [l16_b, hs0, hz, HNE.out]
   rw [hbe] at hs
   have H1 := aM' (show proof_Shape.f 7 2 2 [s0, nx] = some 0 by rw [proofShape_eq, ← hbe, l16_s1])
   have H2 := aM' (show proof_Shape.f 7 1 2 [s0, nx] = some 160 by rw [proofShape_eq, ← hbe, l16_s2])
   have H3 := aM' (show proof_Shape.f 6 2 2 [s0, nx] = some 70 by rw [proofShape_eq, ← hbe, l16_s3])
   have H4 := aM' (show proof_Shape.f 7 64 2 [s0, nx] = some 120 by rw [proofShape_eq, ← hbe, l16_s4])
   obtain ⟨kl, hkl⟩ := (tagLeafNode_ev 7 z (by rw [hz]; decide +kernel) (by rw [hz]; decide +kernel)).rounds
   rw [← hs0] at hkl
   have HLN := aM' hkl
   have HLC := aM' (show LeafC w9 ⟨gc, 15, none⟩ z by
    obtain ⟨ad, had, hl⟩ := leafC_at HC9.out (p := 3) (by decide) (by decide)
    cases had
    rw [hz]; exact hl)
   have HSS := aM' hs
   have HCAP := aM' hcap
   clear hz hs0 hbe hkl hs hcap
   go_upto_region 12 with (fail)
   obtain ⟨g10, hg10⟩ : ∃ g, g = w9.heap.size := ⟨_, rfl⟩
   obtain ⟨W10, hW10⟩ : ∃ V, V = w9.alloc (.cells #[.string nx.f0, .int .u64 nx.f1.f0, .int .u64 nx.f1.f1] 46) := ⟨_, rfl⟩
   have hb10 : Below w9.heap.size w9 W10 := by rw [hW10]; exact below_alloc (Below.refl _ _) _
   have HS := aM' (show At16 w W10 g9 g10 ga gc c y z s0 nx from ⟨HB9.out.trans (hb10.mono HB9.out.size), blk_below HG9'.out hb10, by rw [hW10, hg10]; exact blk_new _ _, HLC.out.below hb10, Kd.C_below HSS.out hb10⟩)
   simp only [← hg10, ← hW10]
   clear hg10 hW10 hb10
   have HSD := aM' (HS.out.keep (below_drew (Below.refl _ _)))
   have c34 : decide ((3 : Int) < 4) = true := by decide
   have c02 : decide ((0 : Int) < 2) = true := by decide
   have c12 : decide ((1 : Int) < 2) = true := by decide
   go_region_held3 (fun w' => ((w'.cell? ⟨g9, 0, none⟩ = some (.bool y.f0) ∧ w'.cell? ⟨g9, 1, none⟩ = some (.string y.f1) ∧ w'.cell? ⟨g9, 2, none⟩ = some (.string y.f2) ∧ w'.cell? ⟨g9, 3, none⟩ = some (.int .u64 y.f3.f0) ∧ w'.cell? ⟨g9, 4, none⟩ = some (.int .u64 y.f3.f1) ∧ w'.cell? ⟨g9, 5, none⟩ = some (.int .u64 2) ∧ w'.cell? ⟨g9, 6, none⟩ = some (.slice (some ⟨ga, 0, none⟩) 2 c)) ∧ (w'.cell? ⟨g10, 0, none⟩ = some (.string nx.f0) ∧ w'.cell? ⟨g10, 1, none⟩ = some (.int .u64 nx.f1.f0) ∧ w'.cell? ⟨g10, 2, none⟩ = some (.int .u64 nx.f1.f1)) ∧ (w'.cell? ⟨gc, 15, none⟩ = some (.bool z.f0) ∧ w'.cell? ⟨gc, 16, none⟩ = some (.string z.f1) ∧ w'.cell? ⟨gc, 17, none⟩ = some (.string z.f2) ∧ w'.cell? ⟨gc, 18, none⟩ = some (.int .u64 z.f3.f0) ∧ w'.cell? ⟨gc, 19, none⟩ = some (.int .u64 z.f3.f1)) ∧ (w'.cell? ⟨ga, 0, none⟩ = some (.string s0.f0) ∧ w'.cell? ⟨ga, 1, none⟩ = some (.int .u64 s0.f1.f0) ∧ w'.cell? ⟨ga, 2, none⟩ = some (.int .u64 s0.f1.f1)) ∧ (w'.cell? ⟨ga, 3, none⟩ = some (.string nx.f0) ∧ w'.cell? ⟨ga, 4, none⟩ = some (.int .u64 nx.f1.f0) ∧ w'.cell? ⟨ga, 5, none⟩ = some (.int .u64 nx.f1.f1))) ∧ At16 w w' g9 g10 ga gc c y z s0 nx) (first | exact HSD.out.cells | exact (At16.keep (by assumption) (At16.of (by assumption))).cells) (first | (go_at_call 34; (with_reducible refine (tag_LeafNode.calls kl 7 z.f0 z.f1 z.f2 z.f3.f0 z.f3.f1 s0.f0 s0.f1.f0 s0.f1.f1 _ (HK.out.below (At16.of (by assumption)).b) HLN.out).mono ?_); rintro e w' ⟨rfl, hb⟩) | (go_at_call 39; (first | (with_reducible refine ((At16.of (by assumption)).shape HCAP.out 7 2 0 H1.out).mono ?_) | (with_reducible refine ((At16.of (by assumption)).shape HCAP.out 7 1 160 H2.out).mono ?_) | (with_reducible refine ((At16.of (by assumption)).shape HCAP.out 6 2 70 H3.out).mono ?_) | (with_reducible refine ((At16.of (by assumption)).shape HCAP.out 7 64 120 H4.out).mono ?_)); rintro e w' ⟨rfl, hb⟩))
   all_goals
    go_wp2
    go_ret
    exact ⟨by simp, (At16.of (by assumption)).b⟩
end Go.Proofs.YtfcodmdckcihmaaDoor.P
namespace Go.Proofs.YtfcodmdckcihmaaDoor.P
open Go.RowKit Go.Proofs.YtfcodmdckcihmaaDoorW.PrintWords Go.Proofs.YtfcodmdckcihmaaDoorW.PrintLast Go.Proofs.YtfcodmdckcihmaaDoorW.PrintMore
set_option linter.unusedVariables false
set_option linter.unusedSimpArgs false
set_option linter.unnecessarySimpa false
def eqN (a b : SNode) : Bool := a.f0.toList == b.f0.toList && (a.f1.f0 == b.f1.f0 && a.f1.f1 == b.f1.f1)
theorem eqN_refl (a : SNode) : eqN a a = true := by simp [eqN]
theorem eqN_not (a b : SNode) : (!(a.f0.toList == b.f0.toList) || ((!(a.f1.f0 == b.f1.f0) || (!(a.f1.f1 == b.f1.f1))))) = !eqN a b := by
 unfold eqN
 cases (a.f0.toList == b.f0.toList) <;> cases (a.f1.f0 == b.f1.f0) <;> cases (a.f1.f1 == b.f1.f1) <;> rfl
def sameL : List SNode → List SNode → Bool
 | [], [] => true
 | a :: l, b :: m => eqN a b && sameL l m
 | _, _ => false
theorem sameL_refl : ∀ l, sameL l l = true
 | [] => rfl
 | a :: l => by rw [sameL, eqN_refl, sameL_refl l]; rfl
theorem sameL_len : ∀ l m : List SNode, l.length ≠ m.length → sameL l m = false
 | [], [], h => absurd rfl h
 | [], _ :: _, _ => rfl
 | _ :: _, [], _ => rfl
 | a :: l, b :: m, h => by rw [sameL, sameL_len l m (by simpa using h)]; simp
theorem sameL_drop (l m : List SNode) (i : Nat) (h : i < l.length) (h' : i < m.length) : sameL (l.drop i) (m.drop i) = (eqN l[i] m[i] && sameL (l.drop (i + 1)) (m.drop (i + 1))) := by
 rw [List.drop_eq_getElem_cons h, List.drop_eq_getElem_cons h', sameL]
theorem same14_loop (l m : List SNode) (hl : l.length ≤ 9223372036854775807) (hm : l.length = m.length) : ∀ d i : Nat, i + d = l.length → Ev (fun k => paymasterref14_Same.l0 k l m (i : Int)) (sameL (l.drop i) (m.drop i)) := by
 intro d
 induction d with
 | zero =>
  intro i hi
  refine Ev.step (f := fun _ => some true) (fun k => ?_) (ev_eq (Ev.now true) ?_)
  ·
   rw [paymasterref14_Same.l0, if_neg (by omega)]
  ·
   rw [List.drop_of_length_le (by omega), List.drop_of_length_le (by omega)]; rfl
 | succ d ih =>
  intro i hi
  have h1 : i < l.length := by omega
  have h2 : i < m.length := by omega
  rw [sameL_drop l m i h1 h2]
  cases hb : eqN l[i] m[i] with
  | false =>
   refine Ev.step (f := fun _ => some false) (fun k => ?_) (ev_eq (Ev.now false) (by simp))
   rw [paymasterref14_Same.l0, if_pos (by omega), if_pos (by omega), if_pos (by omega), rdNode_nat l i h1, rdNode_nat m i h2, eqN_not, hb, if_pos (by rfl)]
  | true =>
   refine Ev.step (f := fun k => paymasterref14_Same.l0 k l m ((i + 1 : Nat) : Int)) (fun k => ?_) (ev_eq (ih (i + 1) (by omega)) (by simp))
   rw [paymasterref14_Same.l0, if_pos (by omega), if_pos (by omega), if_pos (by omega), rdNode_nat l i h1, rdNode_nat m i h2, eqN_not, hb, if_neg (by simp), wrap64_id (by omega) (by omega)]; rfl
theorem same14_ev (l m : List SNode) (hl : l.length ≤ 9223372036854775807) : Ev (fun k => paymasterref14_Same.f k l m) (sameL l m) := by
 unfold paymasterref14_Same.f
 by_cases h : l.length = m.length
 ·
  refine Ev.congr (fun k => by rw [if_pos (by omega)]; rfl) (ev_eq (same14_loop l m hl h l.length 0 (by omega)) (by simp))
 ·
  exact Ev.some_ (fun k => by rw [if_neg (by omega), sameL_len l m h])
end Go.Proofs.YtfcodmdckcihmaaDoor.P
namespace Go.Proofs.YtfcodmdckcihmaaDoor.P
open Go.RowKit Go.Proofs.YtfcodmdckcihmaaDoorW.PrintWords Go.Proofs.YtfcodmdckcihmaaDoorW.PrintLast Go.Proofs.YtfcodmdckcihmaaDoorW.PrintMore
set_option linter.unusedVariables false
set_option linter.unusedSimpArgs false
set_option linter.unnecessarySimpa false
theorem bes_half (q : Nat) : besN q / 2 = q / 2 := by unfold besN; split <;> omega
end Go.Proofs.YtfcodmdckcihmaaDoor.P
namespace Go.Proofs.YtfcodmdckcihmaaDoor.P
open Go.RowKit Go.Proofs.YtfcodmdckcihmaaDoorW.PrintWords Go.Proofs.YtfcodmdckcihmaaDoorW.PrintLast Go.Proofs.YtfcodmdckcihmaaDoorW.PrintMore
set_option linter.unusedVariables false
set_option linter.unusedSimpArgs false
set_option linter.unnecessarySimpa false
attribute [local go_sem high] eqANode heqRoot eqALeaf
attribute [local go_sem] sel_true
/-! The law ProofBeside, walked. -/
theorem slice_low (A : Option Addr) (M c lo : Nat) (h : lo ≤ M) (hc : M ≤ c) (wx : World) : (Instr.slice 43 (.slice A M c) (some (.int .i64 lo)) none none).run Tryd.prog wx = .ok (.slice (if c = lo then A else A.map (·.add (lo * 3))) (M - lo) (c - lo)) wx := by
  have h1 := run_slice_l (P := Tryd.prog) wx 43 A M c (by kernel_rfl) .i64 (lo : Int) (by omega) (by omega)
  rw [h1]
  have hs : (sizeOf (Tryd.prog.elem 43)).run Tryd.prog wx = .ok 3 wx := by kernel_rfl
  rw [hs]
  simp only [Result.andThen, sliced, Int.toNat_natCast]
/-- The three entries' boxes, and their sides. -/
structure AtB (w w' : World) (g13 g15 g17 : Nat) (pa pb pz : Int) (m ga gb gz ca cb cz : Nat) (x y z : SLeaf) (SA SB SZ : List SNode) : Prop where
  b : Below w.heap.size w w'
  x13 : w'.heap[g13]? = some (.cells (entA x pa (.slice (some ⟨ga, 0, none⟩) m ca)) 70 (0, 0))
  y15 : w'.heap[g15]? = some (.cells (entA y pb (.slice (some ⟨gb, 0, none⟩) m cb)) 70 (0, 0))
  z17 : w'.heap[g17]? = some (.cells (entA z pz (.slice (some ⟨gz, 0, none⟩) m cz)) 70 (0, 0))
  sa : Kd.C kNode w' (some ⟨ga, 0, none⟩) m SA
  sb : Kd.C kNode w' (some ⟨gb, 0, none⟩) m SB
  sz : Kd.C kNode w' (some ⟨gz, 0, none⟩) m SZ
section
variable {w W w' : World} {g13 g15 g17 : Nat} {pa pb pz : Int} {m ga gb gz ca cb cz : Nat} {x y z : SLeaf} {SA SB SZ : List SNode}
theorem AtB.keep (k : Below W.heap.size W w') (h : AtB w W g13 g15 g17 pa pb pz m ga gb gz ca cb cz x y z SA SB SZ) : AtB w w' g13 g15 g17 pa pb pz m ga gb gz ca cb cz x y z SA SB SZ :=
  ⟨h.b.trans (k.mono h.b.size), blk_below h.x13 k, blk_below h.y15 k, blk_below h.z17 k, Kd.C_below h.sa k, Kd.C_below h.sb k, Kd.C_below h.sz k⟩
theorem AtB.of {C : Prop} (h : C ∧ AtB w W g13 g15 g17 pa pb pz m ga gb gz ca cb cz x y z SA SB SZ) : AtB w W g13 g15 g17 pa pb pz m ga gb gz ca cb cz x y z SA SB SZ := h.2
abbrev AtBE (w' : World) (g : Nat) (x : SLeaf) (ga m ca : Nat) : Prop := w'.cell? ⟨g, 0, none⟩ = some (.bool x.f0) ∧ w'.cell? ⟨g, 1, none⟩ = some (.string x.f1) ∧ w'.cell? ⟨g, 2, none⟩ = some (.string x.f2) ∧ w'.cell? ⟨g, 3, none⟩ = some (.int .u64 x.f3.f0) ∧ w'.cell? ⟨g, 4, none⟩ = some (.int .u64 x.f3.f1) ∧ w'.cell? ⟨g, 6, none⟩ = some (.slice (some ⟨ga, 0, none⟩) m ca)
abbrev AtBN (w' : World) (g : Nat) (n : SNode) : Prop := w'.cell? ⟨g, 0, none⟩ = some (.string n.f0) ∧ w'.cell? ⟨g, 1, none⟩ = some (.int .u64 n.f1.f0) ∧ w'.cell? ⟨g, 2, none⟩ = some (.int .u64 n.f1.f1)
abbrev AtBC (w' : World) (g13 g15 g17 m ga gb gz ca cb cz : Nat) (x y z : SLeaf) (na nz : SNode) : Prop := AtBE w' g13 x ga m ca ∧ AtBE w' g15 y gb m cb ∧ AtBE w' g17 z gz m cz ∧ AtBN w' ga na ∧ AtBN w' gz nz
theorem atBE {W : World} {g ga m ca : Nat} {x : SLeaf} {p : Int} (h : W.heap[g]? = some (.cells (entA x p (.slice (some ⟨ga, 0, none⟩) m ca)) 70 (0, 0))) : AtBE W g x ga m ca :=
  ⟨(blk_cell h 0).trans rfl, (blk_cell h 1).trans rfl, (blk_cell h 2).trans rfl, (blk_cell h 3).trans rfl, (blk_cell h 4).trans rfl, (blk_cell h 6).trans rfl⟩
theorem atBN {W : World} {g m : Nat} {S : List SNode} {n : SNode} (h : Kd.C kNode W (some ⟨g, 0, none⟩) m S) (hm : 1 ≤ m) (hn : S.getD 0 nodeZ = n) : AtBN W g n := by
  obtain ⟨ad, had, p0, p1, p2⟩ := at_TNode h 0 (by decide) (by omega)
  cases had
  have e : rd_TNode S 0 = n := hn
  rw [e] at p0 p1 p2
  exact ⟨p0, p1, p2⟩
theorem AtB.cells {na nz : SNode} (h : AtB w w' g13 g15 g17 pa pb pz m ga gb gz ca cb cz x y z SA SB SZ) (hm : 1 ≤ m) (ha : SA.getD 0 nodeZ = na) (hz : SZ.getD 0 nodeZ = nz) : AtBC w' g13 g15 g17 m ga gb gz ca cb cz x y z na nz ∧ AtB w w' g13 g15 g17 pa pb pz m ga gb gz ca cb cz x y z SA SB SZ :=
  ⟨⟨atBE h.x13, atBE h.y15, atBE h.z17, atBN h.sa hm ha, atBN h.sz hm hz⟩, h⟩
end
theorem same_drop.calls (A B : Option Addr) (M ca cb lo d : Nat) (S T : List SNode) (w : World) (ha : Kd.C kNode w A M S) (hb : Kd.C kNode w B M T) (hca : M ≤ ca) (hcb : M ≤ cb) (hlo : lo ≤ M) (hd : M - lo = d) (h : S.drop lo = T.drop lo) :
    Calls Tryd.prog 38 #[.slice (if ca = lo then A else A.map (·.add (lo * 3))) d (ca - lo), .slice (if cb = lo then B else B.map (·.add (lo * 3))) d (cb - lo)] w fun e w' => e = .returned (.bool true) ∧ Drawn0 w w' := by
  obtain ⟨k, hk⟩ := (same14_ev (S.drop lo) (T.drop lo) (by have := ha.2.1; have := ha.1; rw [List.length_drop]; omega)).rounds
  rw [h, sameL_refl] at hk
  have hS : S.length = M := ha.1
  have hT : T.length = M := hb.1
  subst hd
  have h1 := Kd.C_drop (c := ca) (m := lo) (by rw [hS]; exact ha) (by omega) (by omega)
  have h2 := Kd.C_drop (c := cb) (m := lo) (by rw [hT]; exact hb) (by omega) (by omega)
  have q := paymasterref14_Same.calls k _ (ca - lo) (S.drop lo) _ (cb - lo) (T.drop lo) true w h1 (by rw [List.length_drop]; omega) h2 (by rw [List.length_drop]; omega) (by rw [h]; exact hk)
  rw [List.length_drop, List.length_drop, hS, hT] at q
  exact q
theorem bes_first {wd : Int} {l : List SLeaf} {m p q : Nat} (hm : 1 ≤ m) (hq : q = besN p) (hql : q < l.length) : (besL wd l p m).getD 0 nodeZ = leafNodeI wd (l[q]'hql) := by
  subst hq
  unfold besL
  rw [List.getD_eq_getElem?_getD, List.getElem?_map, List.getElem?_range (by omega)]
  show besV wd _ p 0 = _
  have e : besV wd (l.map (leafNodeI wd)) p 0 = (l.map (leafNodeI wd)).getD (besN (p / 2 ^ 0)) zeroN := rfl
  rw [e, Nat.pow_zero, Nat.div_one, List.getD_eq_getElem?_getD, List.getElem?_map, List.getElem?_eq_getElem hql]
  rfl
theorem bes_meet {wd : Int} {l : List SLeaf} {m n p q : Nat} (h : p / 2 ^ n = q / 2 ^ n) : (besL wd l p m).drop n = (besL wd l q m).drop n := by
  unfold besL
  apply List.ext_getElem
  · simp
  · intro i h1 h2
    simp only [List.getElem_drop, List.getElem_map, List.getElem_range]
    have e : p / 2 ^ (n + i) = q / 2 ^ (n + i) := by
      have : ∀ x : Nat, x / 2 ^ (n + i) = x / 2 ^ n / 2 ^ i := fun x => by rw [Nat.div_div_eq_div_mul, ← Nat.pow_add]
      rw [this, this, h]
    unfold besV
    rw [e]
theorem besN_lt {p m : Nat} (hm : 1 ≤ m) (h : p < 2 ^ m) : besN p < 2 ^ m := by
  obtain ⟨k, rfl⟩ : ∃ k, m = k + 1 := ⟨m - 1, by omega⟩
  rw [Nat.pow_succ] at h ⊢
  unfold besN
  split <;> omega
theorem besN_two (p : Nat) : besN (besN p) = p := by unfold besN; split <;> split <;> omega
set_option maxRecDepth 100000 in
set_option maxHeartbeats 8000000 in
theorem lawPBeside.calls (wd : Int) (A : Option Addr) (c : Nat) (l : List SLeaf) (one two : Int) (w : World) (hK : LaidT w) (hr : Kd.C kLeaf w A l.length l) (hc : l.length ≤ c) (hub : ∀ x ∈ l, OkU x.f3) (hll : l.length ≤ 9223372036854775807) (h1 : 0 ≤ one ∧ one < 65536) (h2 : 0 ≤ two ∧ two < 65536) :
    Calls Tryd.prog 7 #[.int .i64 wd, .slice A l.length c, .int .u16 one, .int .u16 two] w fun e w' => e = .returned (.bool true) ∧ Below w.heap.size w w' := by
  have HK := Aside0.mk hK
  have HR := Aside0.mk hr
  have HC := Aside0.mk hc
  have HUB := Aside0.mk hub
  obtain ⟨kg, hkg⟩ := (great15_ev l hll).rounds
  obtain ⟨gr, hgr⟩ : ∃ g, g = greatL l := ⟨_, rfl⟩
  rw [← hgr] at hkg
  have HG := Aside0.mk hkg
  have HGR := Aside0.mk hgr
  have HPB := Aside0.mk (And.intro h1 h2)
  clear hK hr hc hub hll hkg hgr h1 h2
  go_enter Tryd.func7, Tryd.ntmps7
  go_wp2_with fail
  refine (awake16.calls w HK.out).mono ?_
  rintro e w1 ⟨rfl, hb⟩
  have HB1 := Aside0.mk hb
  clear hb
  go_wp2_with fail
  refine (paymasterlaw15_Great.calls kg A c l gr _ (Kd.C_below HR.out HB1.out) HC.out HG.out).mono ?_
  rintro e w2 ⟨rfl, hd⟩
  obtain ⟨nd, rfl⟩ := hd
  obtain ⟨W2, hW2⟩ : ∃ V, V = w1.drewN nd := ⟨_, rfl⟩
  have HB2 := Aside0.mk (show Below w.heap.size w W2 by rw [hW2]; exact pw_below_drewN HB1.out nd)
  rw [← hW2]
  clear hW2
  cases gr with
  | true =>
    go_wp2
    go_ret
    exact ⟨rfl, HB2.out⟩
  | false =>
    obtain ⟨h70, hsz⟩ := greatL_ok HGR.out.symm
    have HOK := Aside0.mk (show ∀ y ∈ l, OkL y from fun y hy => ⟨by have := (hsz y hy).1; omega, by have := (hsz y hy).2; omega, HUB.out y hy⟩)
    have H70 := Aside0.mk h70
    clear h70 hsz
    by_cases h2 : (l.length : Int) < 2
    · have b1 : decide ((l.length : Int) < 2) = true := decide_eq_true h2
      have b2 : decide (l.length < 2) = true := decide_eq_true (by omega)
      go_wp2
      go_ret
      exact ⟨rfl, HB2.out⟩
    have b1 : decide ((l.length : Int) < 2) = false := decide_eq_false h2
    have b2 : decide (l.length < 2) = false := decide_eq_false (by omega)
    have HL2 := Aside0.mk (show 2 ≤ l.length by omega)
    clear h2
    go_wp2_with fail
    refine (treeNew.calls wd A c l W2 (HK.out.below HB2.out) (Kd.C_below HR.out HB2.out) HC.out (by have := H70.out; omega) HOK.out).mono ?_
    rintro e w5 ⟨hb, h⟩
    clear b1 b2
    have HB5 := Aside0.mk (HB2.out.trans (hb.mono HB2.out.size))
    rcases h with ⟨hz, a, gl, cl, VV, gs, rfl, hO⟩ | ⟨hnz, rfl⟩
    case inr =>
      have b0 : (newI wd l == 0) = false := by simp [hnz]
      have HNZ := Aside0.mk hnz
      clear hb hnz
      generalize newI wd l = er at b0 HNZ
      go_wp2
      go_ret
      exact ⟨rfl, HB5.out⟩
    case inl =>
      have HO5 := Aside0.mk hO
      have HKK := Aside0.mk (newI_zero hz HOK.out)
      clear hb hz hO
      obtain ⟨m, hm⟩ : ∃ m, m = l.length.log2 := ⟨_, rfl⟩
      have HMM := Aside0.mk hm
      obtain ⟨rt, hrt⟩ : ∃ r, r = topI (treeT wd l) := ⟨_, rfl⟩
      have HRT := Aside0.mk hrt
      have HL1024 := Aside0.mk (show l.length ≤ 1024 by have := H70.out; omega)
      have hm6 : m ≤ 6 := by
        rcases Nat.lt_or_ge 6 m with h1 | h1
        · have h2 := Nat.pow_le_pow_right (n := 2) (by decide) (show 7 ≤ m by omega)
          have h3 := HKK.out.p
          rw [← HMM.out] at h3
          have := H70.out
          omega
        · exact h1
      have HM6 := Aside0.mk hm6
      clear hm hrt hm6
      have HM1 := Aside0.mk (show 1 ≤ m by
        rcases Nat.eq_zero_or_pos m with h0 | h0
        · have h3 := HKK.out.p
          rw [← HMM.out, h0] at h3
          have := HL2.out
          omega
        · exact h0)
      have HPM := Aside0.mk (show l.length = 2 ^ m by rw [HMM.out]; exact HKK.out.p)
      obtain ⟨pa, hpa⟩ : ∃ p : Nat, (p : Int) = one % (l.length : Int) := ⟨(one % (l.length : Int)).toNat, by rw [Int.toNat_of_nonneg (Int.emod_nonneg _ (by have := HL2.out; omega))]⟩
      obtain ⟨pb, hpb⟩ : ∃ p : Nat, (p : Int) = two % (l.length : Int) := ⟨(two % (l.length : Int)).toNat, by rw [Int.toNat_of_nonneg (Int.emod_nonneg _ (by have := HL2.out; omega))]⟩
      have hal : pa < l.length := by have := HL2.out; have := Int.emod_lt_of_pos one (show (0 : Int) < (l.length : Int) by omega); omega
      have hbl : pb < l.length := by have := HL2.out; have := Int.emod_lt_of_pos two (show (0 : Int) < (l.length : Int) by omega); omega
      have HAL := Aside0.mk hal
      have HBL := Aside0.mk hbl
      have hrem1 : Int.tmod one (l.length : Int) = (pa : Int) := by rw [hpa]; exact Int.tmod_eq_emod_of_nonneg HPB.out.1.1
      have hrem2 : Int.tmod two (l.length : Int) = (pb : Int) := by rw [hpb]; exact Int.tmod_eq_emod_of_nonneg HPB.out.2.1
      have hw1 : IntKind.u64.wrap one = one := wrapu64_id (by have := HPB.out; omega) (by have := HPB.out; omega)
      have hw2 : IntKind.u64.wrap two = two := wrapu64_id (by have := HPB.out; omega) (by have := HPB.out; omega)
      have hwl : IntKind.u64.wrap (l.length : Int) = (l.length : Int) := wrapu64_id (by omega) (by have := H70.out; omega)
      have hne : ((l.length : Nat) : Int) ≠ 0 := by have := HL2.out; omega
      have hne2 : l.length ≠ 0 := by have := HL2.out; omega
      obtain ⟨pz, hpz⟩ : ∃ p, p = besN pa := ⟨_, rfl⟩
      have HPZ := Aside0.mk hpz
      have HZL := Aside0.mk (show pz < l.length by rw [hpz, HPM.out]; exact besN_lt HM1.out (by rw [← HPM.out]; exact HAL.out))
      have hxor : Go.bits .xor .u64 (pa : Int) 1 = (pz : Int) := by rw [hpz]; exact bits_bes pa (by have := H70.out; omega)
      clear hpa hpb hal hbl hpz
      go_upto_region 8 with (fail)
      go_region
      clear hrem1 hrem2 hw1 hw2 hwl hne hne2
      obtain ⟨V5, hV5⟩ : ∃ V, V = w5.drew := ⟨_, rfl⟩
      have HB5 := Aside0.mk (show Below w.heap.size w V5 by rw [hV5]; exact below_drew HB5.out)
      have HO5 := Aside0.mk (show TreeOwn W2.heap.size V5 a (treeT wd l) gl cl VV gs by rw [hV5]; exact HO5.out.keep (below_drew (Below.refl _ _)))
      go_wp2_with fail
      rw [← hV5]
      clear hV5
      refine (proofOf.calls _ a gl cl VV gs wd l pa m V5 HO5.out HKK.out HL1024.out HMM.out (by have := HM6.out; omega) HAL.out).mono ?_
      rintro e w6 ⟨A6, ca, rfl, hown, hb⟩
      obtain ⟨ga, cq, hv, -, -⟩ := hown.form HM1.out
      cases hv
      obtain ⟨x, hx⟩ : ∃ y, y = l[pa]'HAL.out := ⟨_, rfl⟩
      rw [← hx]
      have HYx := Aside0.mk hx
      clear hx
      obtain ⟨hc6, hk6⟩ := own_nodes hown (besL_len wd l pa m)
      obtain ⟨g13, hg6⟩ : ∃ g, g = w6.heap.size := ⟨_, rfl⟩
      obtain ⟨W7, hW6⟩ : ∃ V, V = w6.alloc (.cells #[.bool x.f0, .string x.f1, .string x.f2, .int .u64 x.f3.f0, .int .u64 x.f3.f1, .int .u64 (pa : Int), .slice (some ⟨ga, 0, none⟩) m ca] 70) := ⟨_, rfl⟩
      have hb6 : Below V5.heap.size V5 W7 := by rw [hW6]; exact below_alloc hb _
      have hz6 : Below w6.heap.size w6 W7 := by rw [hW6]; exact below_alloc (Below.refl _ _) _
      have HB6 := Aside0.mk (HB5.out.trans (hb6.mono HB5.out.size))
      have HO6 := Aside0.mk (HO5.out.keep hb6)
      have HC6 := Aside0.mk hc6
      have HS6 := Aside0.mk (Kd.C_below hk6 hz6)
      have HBX6 := Aside0.mk hb6
      have HG6 := Aside0.mk (show W7.heap[g13]? = some (.cells (entA x (pa : Int) (.slice (some ⟨ga, 0, none⟩) m ca)) 70 (0, 0)) by rw [hW6, hg6]; exact blk_new _ _)
      clear hown hb hb6 hz6 hc6 hk6
      go_upto_region 10 with (fail)
      simp only [← hg6, ← hW6]
      clear hg6 hW6
      go_wp2_with fail
      refine (proofOf.calls _ a gl cl VV gs wd l pb m W7 HO6.out HKK.out HL1024.out HMM.out (by have := HM6.out; omega) HBL.out).mono ?_
      rintro e w8 ⟨A8, cb, rfl, hown, hb⟩
      obtain ⟨gb, cq, hv, -, -⟩ := hown.form HM1.out
      cases hv
      obtain ⟨y, hy⟩ : ∃ y, y = l[pb]'HBL.out := ⟨_, rfl⟩
      rw [← hy]
      have HYy := Aside0.mk hy
      clear hy
      obtain ⟨hc8, hk8⟩ := own_nodes hown (besL_len wd l pb m)
      obtain ⟨g15, hg8⟩ : ∃ g, g = w8.heap.size := ⟨_, rfl⟩
      obtain ⟨W9, hW8⟩ : ∃ V, V = w8.alloc (.cells #[.bool y.f0, .string y.f1, .string y.f2, .int .u64 y.f3.f0, .int .u64 y.f3.f1, .int .u64 (pb : Int), .slice (some ⟨gb, 0, none⟩) m cb] 70) := ⟨_, rfl⟩
      have hb8 : Below W7.heap.size W7 W9 := by rw [hW8]; exact below_alloc hb _
      have hz8 : Below w8.heap.size w8 W9 := by rw [hW8]; exact below_alloc (Below.refl _ _) _
      have HB8 := Aside0.mk (HB6.out.trans (hb8.mono HB6.out.size))
      have HO8 := Aside0.mk (HO6.out.keep hb8)
      have HC8 := Aside0.mk hc8
      have HS8 := Aside0.mk (Kd.C_below hk8 hz8)
      have HBX8 := Aside0.mk hb8
      have HG8 := Aside0.mk (show W9.heap[g15]? = some (.cells (entA y (pb : Int) (.slice (some ⟨gb, 0, none⟩) m cb)) 70 (0, 0)) by rw [hW8, hg8]; exact blk_new _ _)
      clear hown hb hb8 hz8 hc8 hk8
      go_upto_region 11 with (fail)
      simp only [← hg8, ← hW8]
      clear hg8 hW8
      go_wp2_with fail
      refine (proofOf.calls _ a gl cl VV gs wd l pz m W9 HO8.out HKK.out HL1024.out HMM.out (by have := HM6.out; omega) HZL.out).mono ?_
      rintro e w10 ⟨A10, cz, rfl, hown, hb⟩
      obtain ⟨gz, cq, hv, -, -⟩ := hown.form HM1.out
      cases hv
      obtain ⟨z, hz⟩ : ∃ y, y = l[pz]'HZL.out := ⟨_, rfl⟩
      rw [← hz]
      have HYz := Aside0.mk hz
      clear hz
      obtain ⟨hc10, hk10⟩ := own_nodes hown (besL_len wd l pz m)
      obtain ⟨g17, hg10⟩ : ∃ g, g = w10.heap.size := ⟨_, rfl⟩
      obtain ⟨W11, hW10⟩ : ∃ V, V = w10.alloc (.cells #[.bool z.f0, .string z.f1, .string z.f2, .int .u64 z.f3.f0, .int .u64 z.f3.f1, .int .u64 (pz : Int), .slice (some ⟨gz, 0, none⟩) m cz] 70) := ⟨_, rfl⟩
      have hb10 : Below W9.heap.size W9 W11 := by rw [hW10]; exact below_alloc hb _
      have hz10 : Below w10.heap.size w10 W11 := by rw [hW10]; exact below_alloc (Below.refl _ _) _
      have HB10 := Aside0.mk (HB8.out.trans (hb10.mono HB8.out.size))
      have HO10 := Aside0.mk (HO8.out.keep hb10)
      have HC10 := Aside0.mk hc10
      have HS10 := Aside0.mk (Kd.C_below hk10 hz10)
      have HBX10 := Aside0.mk hb10
      have HG10 := Aside0.mk (show W11.heap[g17]? = some (.cells (entA z (pz : Int) (.slice (some ⟨gz, 0, none⟩) m cz)) 70 (0, 0)) by rw [hW10, hg10]; exact blk_new _ _)
      clear hown hb hb10 hz10 hc10 hk10
      go_upto_region 12 with (fail)
      simp only [← hg10, ← hW10]
      clear hg10 hW10 hxor
      obtain ⟨SA, hSA⟩ : ∃ S, S = besL wd l pa m := ⟨_, rfl⟩
      obtain ⟨SB, hSB⟩ : ∃ S, S = besL wd l pb m := ⟨_, rfl⟩
      obtain ⟨SZ, hSZ⟩ : ∃ S, S = besL wd l pz m := ⟨_, rfl⟩
      have HSA := Aside0.mk hSA
      have HSB := Aside0.mk hSB
      have HSZ := Aside0.mk hSZ
      have HS := Aside0.mk (show AtB w W11 g13 g15 g17 (pa : Int) (pb : Int) (pz : Int) m ga gb gz ca cb cz x y z SA SB SZ from ⟨HB10.out, blk_below (blk_below HG6.out HBX8.out) HBX10.out, blk_below HG8.out HBX10.out, HG10.out, by rw [hSA]; exact Kd.C_below (Kd.C_below HS6.out HBX8.out) HBX10.out, by rw [hSB]; exact Kd.C_below HS8.out HBX10.out, by rw [hSZ]; exact HS10.out⟩)
      clear hSA hSB hSZ
      obtain ⟨nz, hnz⟩ : ∃ n, n = leafNodeI wd z := ⟨_, rfl⟩
      obtain ⟨nx, hnx⟩ : ∃ n, n = leafNodeI wd x := ⟨_, rfl⟩
      have HFA := Aside0.mk (show SA.getD 0 nodeZ = nz by rw [HSA.out, hnz, HYz.out]; exact bes_first HM1.out HPZ.out HZL.out)
      have HFZ := Aside0.mk (show SZ.getD 0 nodeZ = nx by rw [HSZ.out, hnx, HYx.out]; exact bes_first HM1.out (by rw [HPZ.out, besN_two]) HAL.out)
      have hzl : z ∈ l := by rw [HYz.out]; exact List.getElem_mem _
      have hxl : x ∈ l := by rw [HYx.out]; exact List.getElem_mem _
      obtain ⟨kz, hkz⟩ := (tagLeafNode_ev wd z (HOK.out z hzl).id (HOK.out z hzl).sa).rounds
      obtain ⟨kx, hkx⟩ := (tagLeafNode_ev wd x (HOK.out x hxl).id (HOK.out x hxl).sa).rounds
      rw [← hnz] at hkz
      rw [← hnx] at hkx
      have HLZ := Aside0.mk hkz
      have HLX := Aside0.mk hkx
      clear hnz hnx hzl hxl hkz hkx
      have x6 : W11.cell? ⟨g13, 6, none⟩ = some (.slice (some ⟨ga, 0, none⟩) m ca) := (atBE HS.out.x13).2.2.2.2.2
      have y6 : W11.cell? ⟨g15, 6, none⟩ = some (.slice (some ⟨gb, 0, none⟩) m cb) := (atBE HS.out.y15).2.2.2.2.2
      have z6 : W11.cell? ⟨g17, 6, none⟩ = some (.slice (some ⟨gz, 0, none⟩) m cz) := (atBE HS.out.z17).2.2.2.2.2
      have HON := Aside0.mk (fun n => HO10.out.keep (pw_below_drewN (Below.refl _ _) n))
      go_quiet (exact Calls.quiet_of_same (((HON.out _).heightC HKK.out HL1024.out HMM.out).mono fun e w' h => ⟨h.1, h.2.symm⟩))
      clear x6 y6 z6
      obtain ⟨W12, hW12⟩ : ∃ V, V = W11.drewN nq := ⟨_, rfl⟩
      have HS2 := Aside0.mk (show AtB w W12 g13 g15 g17 (pa : Int) (pb : Int) (pz : Int) m ga gb gz ca cb cz x y z SA SB SZ by rw [hW12]; exact HS.out.keep (pw_below_drewN (Below.refl _ _) nq))
      go_upto_region 14 with (fail)
      simp only [← hW12]
      clear hW12
      obtain ⟨d1, hd1⟩ : ∃ d, d = m - 1 := ⟨_, rfl⟩
      obtain ⟨ea, hea⟩ : ∃ d, d = ca - 1 := ⟨_, rfl⟩
      obtain ⟨ez, hez⟩ : ∃ d, d = cz - 1 := ⟨_, rfl⟩
      obtain ⟨BA, hBA⟩ : ∃ B, B = (if ca = 1 then (some ⟨ga, 0, none⟩ : Option Addr) else (some ⟨ga, 0, none⟩ : Option Addr).map (·.add (1 * 3))) := ⟨_, rfl⟩
      obtain ⟨BZ, hBZ⟩ : ∃ B, B = (if cz = 1 then (some ⟨gz, 0, none⟩ : Option Addr) else (some ⟨gz, 0, none⟩ : Option Addr).map (·.add (1 * 3))) := ⟨_, rfl⟩
      have sa : ∀ wx : World, (Instr.slice 43 (.slice (some ⟨ga, 0, none⟩) m ca) (some (.int .i64 1)) none none).run Tryd.prog wx = .ok (.slice BA d1 ea) wx := fun wx => by
        rw [hBA, hd1, hea]; exact slice_low _ m ca 1 HM1.out HC6.out wx
      have sz : ∀ wx : World, (Instr.slice 43 (.slice (some ⟨gz, 0, none⟩) m cz) (some (.int .i64 1)) none none).run Tryd.prog wx = .ok (.slice BZ d1 ez) wx := fun wx => by
        rw [hBZ, hd1, hez]; exact slice_low _ m cz 1 HM1.out HC10.out wx
      have q : ∀ V : World, AtB w V g13 g15 g17 (pa : Int) (pb : Int) (pz : Int) m ga gb gz ca cb cz x y z SA SB SZ → Calls Tryd.prog 38 #[.slice BA d1 ea, .slice BZ d1 ez] V fun e w2 => e = .returned (.bool true) ∧ Drawn0 V w2 := fun V h => by
        rw [hBA, hBZ, hea, hez]
        exact same_drop.calls _ _ m ca cz 1 d1 SA SZ V h.sa h.sz HC6.out HC10.out HM1.out hd1.symm (by rw [HSA.out, HSZ.out]; exact bes_meet (by rw [HPZ.out, Nat.pow_one, bes_half]))
      have HSM := Aside0.mk q
      clear q hBA hBZ hd1 hea hez
      have HSD := Aside0.mk (HS2.out.keep (below_drew (Below.refl _ _)))
      have hm1 : 1 ≤ m := HM1.out
      have hmi : (0 : Int) < (m : Int) := by omega
      have hmn : 0 < m := hm1
      go_region_held3 (fun w' => AtBC w' g13 g15 g17 m ga gb gz ca cb cz x y z nz nx ∧ AtB w w' g13 g15 g17 (pa : Int) (pb : Int) (pz : Int) m ga gb gz ca cb cz x y z SA SB SZ) (first | exact HSD.out.cells HM1.out HFA.out HFZ.out | exact (AtB.keep (by assumption) (AtB.of (by assumption))).cells HM1.out HFA.out HFZ.out | exact (AtB.keep (Drawn0.below (by assumption)) (AtB.of (by assumption))).cells HM1.out HFA.out HFZ.out) (first | (go_at_call 34; (with_reducible refine (tag_LeafNode.calls kz wd z.f0 z.f1 z.f2 z.f3.f0 z.f3.f1 nz.f0 nz.f1.f0 nz.f1.f1 _ (HK.out.below (AtB.of (by assumption)).b) HLZ.out).mono ?_); rintro e w' ⟨rfl, hb⟩) | (go_at_call 34; (with_reducible refine (tag_LeafNode.calls kx wd x.f0 x.f1 x.f2 x.f3.f0 x.f3.f1 nx.f0 nx.f1.f0 nx.f1.f1 _ (HK.out.below (AtB.of (by assumption)).b) HLX.out).mono ?_); rintro e w' ⟨rfl, hb⟩) | (go_at_call 38; (with_reducible refine (HSM.out _ (AtB.of (by assumption))).mono ?_); rintro e w' ⟨rfl, hb⟩))
      have HS3 := Aside0.mk (AtB.of (by assumption))
      go_upto_region 16 with (fail)
      clear sa sz hm1 hmi hmn
      go_wp2
      go_loopw [19] (fun v19 wr => ∃ n : Nat, v19 = .int .i64 (n : Int) ∧ Aside0 (n ≤ m) ∧ Aside0 (AtB w wr g13 g15 g17 (pa : Int) (pb : Int) (pz : Int) m ga gb gz ca cb cz x y z SA SB SZ)) (fun v19 _ => m - (intOf v19).toNat)
      case atStart => exact ⟨0, rfl, ⟨Nat.zero_le _⟩, ⟨HS3.out⟩⟩
      case round =>
        obtain ⟨n, rfl, HN, HW⟩ := hrel
        have hn6 : n ≤ 6 := by have := HN.out; have := HM6.out; omega
        obtain ⟨qa, hqa⟩ : ∃ q, q = pa / 2 ^ n := ⟨_, rfl⟩
        obtain ⟨qb, hqb⟩ : ∃ q, q = pb / 2 ^ n := ⟨_, rfl⟩
        have hsa : (pa : Int) / 2 ^ n = (qa : Int) := by rw [hqa]; simp
        have hsb : (pb : Int) / 2 ^ n = (qb : Int) := by rw [hqb]; simp
        have hwn : IntKind.u64.wrap (n : Int) = (n : Int) := wrapu64_id (by omega) (by omega)
        by_cases he : qa = qb
        · have c1 : ((qa : Int) == (qb : Int)) = true := by simp [he]
          have c2 : (qa == qb) = true := by simp [he]
          have HQ := Aside0.mk (show pa / 2 ^ n = pb / 2 ^ n by rw [← hqa, ← hqb]; exact he)
          clear hqa hqb he
          obtain ⟨d1, hd1⟩ : ∃ d, d = m - n := ⟨_, rfl⟩
          obtain ⟨ea, hea⟩ : ∃ d, d = ca - n := ⟨_, rfl⟩
          obtain ⟨eb, heb⟩ : ∃ d, d = cb - n := ⟨_, rfl⟩
          obtain ⟨BA, hBA⟩ : ∃ B, B = (if ca = n then (some ⟨ga, 0, none⟩ : Option Addr) else (some ⟨ga, 0, none⟩ : Option Addr).map (·.add (n * 3))) := ⟨_, rfl⟩
          obtain ⟨BB, hBB⟩ : ∃ B, B = (if cb = n then (some ⟨gb, 0, none⟩ : Option Addr) else (some ⟨gb, 0, none⟩ : Option Addr).map (·.add (n * 3))) := ⟨_, rfl⟩
          have sa : ∀ wx : World, (Instr.slice 43 (.slice (some ⟨ga, 0, none⟩) m ca) (some (.int .i64 (n : Int))) none none).run Tryd.prog wx = .ok (.slice BA d1 ea) wx := fun wx => by
            rw [hBA, hd1, hea]; exact slice_low _ m ca n HN.out HC6.out wx
          have sb : ∀ wx : World, (Instr.slice 43 (.slice (some ⟨gb, 0, none⟩) m cb) (some (.int .i64 (n : Int))) none none).run Tryd.prog wx = .ok (.slice BB d1 eb) wx := fun wx => by
            rw [hBB, hd1, heb]; exact slice_low _ m cb n HN.out HC8.out wx
          have q : ∀ V : World, AtB w V g13 g15 g17 (pa : Int) (pb : Int) (pz : Int) m ga gb gz ca cb cz x y z SA SB SZ → Calls Tryd.prog 38 #[.slice BA d1 ea, .slice BB d1 eb] V fun e w2 => e = .returned (.bool true) ∧ Drawn0 V w2 := fun V h => by
            rw [hBA, hBB, hea, heb]
            exact same_drop.calls _ _ m ca cb n d1 SA SB V h.sa h.sb HC6.out HC8.out HN.out hd1.symm (by rw [HSA.out, HSB.out]; exact bes_meet HQ.out)
          have HSM := Aside0.mk q
          clear q hBA hBB hd1 hea heb
          have hnm : n ≤ m := HN.out
          have x6 : wr.cell? ⟨g13, 6, none⟩ = some (.slice (some ⟨ga, 0, none⟩) m ca) := (atBE HW.out.x13).2.2.2.2.2
          have y6 : wr.cell? ⟨g15, 6, none⟩ = some (.slice (some ⟨gb, 0, none⟩) m cb) := (atBE HW.out.y15).2.2.2.2.2
          have HWN := Aside0.mk (fun nn => HW.out.keep (pw_below_drewN (Below.refl _ _) nn))
          go_upto_region 19 with (fail)
          go_quiet (exact Calls.quiet_of ((HSM.out _ (HWN.out _)).mono fun e w' h => ⟨h.1, h.2.out⟩))
          go_wp2
          go_ret
          exact ⟨rfl, pw_below_drewN HW.out.b _⟩
        · have c1 : ((qa : Int) == (qb : Int)) = false := by simp; omega
          have c2 : (qa == qb) = false := by simp [he]
          have HLT := Aside0.mk (show n < m by
            rcases Nat.lt_or_ge n m with h | h
            · exact h
            · obtain rfl : n = m := by have := HN.out; omega
              refine absurd ?_ he
              rw [hqa, hqb, Nat.div_eq_of_lt (by rw [← HPM.out]; exact HAL.out), Nat.div_eq_of_lt (by rw [← HPM.out]; exact HBL.out)])
          clear hqa hqb he
          go_wp2
          go_roundw
          case rel => exact ⟨n + 1, by go_num, ⟨by have := HLT.out; omega⟩, HW⟩
          case measure => simp [intOf]; have := HLT.out; omega
def law16_ProofBeside.f (wd : Int) (l : List SLeaf) (one two : Int) : Option Bool := if ((0 ≤ one ∧ one < 65536) ∧ (0 ≤ two ∧ two < 65536) ∧ l.length ≤ 9223372036854775807) ∧ (∀ x ∈ l, (0 ≤ x.f3.f0 ∧ x.f3.f0 < 18446744073709551616) ∧ 0 ≤ x.f3.f1 ∧ x.f3.f1 < 18446744073709551616) then some true else none
theorem law16_ProofBeside.calls (wd : Int) (A : Option Addr) (c : Nat) (l : List SLeaf) (one two : Int) (r : Bool) (w : World) (hK : LaidT w) (hr : Kd.C kLeaf w A l.length l) (hc : l.length ≤ c) (h : law16_ProofBeside.f wd l one two = some r) :
    Calls Tryd.prog 7 #[.int .i64 wd, .slice A l.length c, .int .u16 one, .int .u16 two] w fun e w' => e = .returned (.bool r) ∧ Below w.heap.size w w' := by
  unfold law16_ProofBeside.f at h
  split at h
  · next hh =>
    cases h
    exact lawPBeside.calls wd A c l one two w hK hr hc (fun x hx => by obtain ⟨h1, h2⟩ := hh.2 x hx; exact ⟨h1, h2⟩) hh.1.2.2 hh.1.1 hh.1.2.1
  · cases h
end Go.Proofs.YtfcodmdckcihmaaDoor.P
namespace Go.Proofs.YtfcodmdckcihmaaDoor.P
open Go.RowKit Go.Proofs.YtfcodmdckcihmaaDoorW.PrintWords Go.Proofs.YtfcodmdckcihmaaDoorW.PrintLast Go.Proofs.YtfcodmdckcihmaaDoorW.PrintMore
set_option linter.unusedVariables false
set_option linter.unusedSimpArgs false
set_option linter.unnecessarySimpa false
theorem wf_u16p {n : Int} (h : (Lit.int .u16 n).wf = true) : 0 ≤ n ∧ n < 65536 := by
 simp [Lit.wf, IntKind.min, IntKind.max, IntKind.signed, IntKind.bits] at h
 omega
theorem pure_ProofBeside : ∀ (y0 : Int) (y1 : (List SLeaf)) (y2 : Int) (y3 : Int), (Lit.int .i64 y0).wf = true → (y1.length ≤ 140737488355328 ∧ ∀ q0 ∈ y1, wfLeaf q0) → (Lit.int .u16 y2).wf = true → (Lit.int .u16 y3).wf = true → law16_ProofBeside.f y0 y1 y2 y3 = some true := fun _ _ _ _ _ hl h2 h3 => by
 unfold law16_ProofBeside.f
 rw [if_pos ⟨⟨wf_u16p h2, wf_u16p h3, by omega⟩, fun x hx => ⟨wf_u64 (hl.2 x hx).2.2.2.1, wf_u64 (hl.2 x hx).2.2.2.2⟩⟩]
end Go.Proofs.YtfcodmdckcihmaaDoor.P
namespace Go.Proofs.YtfcodmdckcihmaaDoor.proofBeside
open Go.Proofs.YtfcodmdckcihmaaDoor.P Go.ChangeShapes Go.WideShapes Go.ChangeAt Go.RowKit
open Go.ChangeMaps (open_string shut_string)
open Go.Proofs.YtfcodmdckcihmaaDoorW.PrintWords Go.Proofs.YtfcodmdckcihmaaDoorW.PrintLast Go.Proofs.YtfcodmdckcihmaaDoorW.PrintMore
set_option linter.unusedVariables false
set_option linter.unusedSimpArgs false
theorem own : ownKnob Tryd.prog.godebug = none := by kernel_rfl
theorem laidOut : laidOutB Tryd.prog = true := by kernel_rfl
set_option maxRecDepth 100000 in
theorem lifted (os : Os) (started : os.Started) (H : Type) (enc : TypeId × Value → H) :
    ReturnsInHanded {} Tryd.checked os 7 .any (fun w args => (Rows.proofBesideSpec.pre enc Tryd.prog Tryd.f7 [] false w args ∧ laidMetH Tryd.prog Rows.proofBesideRow.laid w) ∧ sizedMet enc Tryd.prog Tryd.f7 (OpenSpec.ofChange Rows.proofBesideSpec) false w args)
      (Rows.proofBesideSpec.post enc Tryd.prog Tryd.f7 false true false false) := by
  refine returnsInHanded_of_change_and (C := Tryd.checked) (X := fun w _ => laidMetH Tryd.prog Rows.proofBesideRow.laid w) (fun _ _ _ hh h => h.of_heap hh) own started (by kernel_rfl) Tryd.func7
    (ChangeSpec.witness_at (enc := enc) (C := Tryd.checked) (os := os) (X := fun w _ => laidMetH Tryd.prog Rows.proofBesideRow.laid w) false (P.laidWorldT os) #[.int .i64 0, .slice none 0 0, .int .u16 0, .int .u16 0] 8 rfl (by kernel_rfl) (by kernel_rfl) (by kernel_rfl) (by kernel_rfl) (by kernel_rfl) (P.laidWorldT_met os _)) ?_
  intro W base args ds gs before hval0 hW _ hsz0 hL _
  have hval : ∀ (j : Nat) t v, Tryd.f7.params[j]? = some t → args[j]? = some v → Value.okWide Tryd.prog W .any base t v := hval0
  have hW' := hW
  obtain ⟨p, q, hA0, hV, rfl, hfz, hnd⟩ := hW
  have hA : DataW.TrodAll enc Tryd.prog W 0 (fun _ => true) true Tryd.f7.params.toList args.toList ds p := hA0
  rw [Tryd.params7] at hA hval
  obtain ⟨v0, vs0, d0, ds0, p0, q0, hargs, rfl, rfl, h0, r0⟩ := trodAll_cons hA
  obtain ⟨v1, vs1, d1, ds1, p1, q1, rfl, rfl, rfl, h1, r1⟩ := trodAll_cons r0
  obtain ⟨v2, vs2, d2, ds2, p2, q2, rfl, rfl, rfl, h2, r2⟩ := trodAll_cons r1
  obtain ⟨v3, vs3, d3, ds3, p3, q3, rfl, rfl, rfl, h3, r3⟩ := trodAll_cons r2
  obtain ⟨rfl, rfl, rfl⟩ := trodAll_nil r3
  obtain rfl : args = #[v0, v1, v2, v3] := by cases args; simp_all
  obtain ⟨rfl, rfl⟩ := trodVars_none hV
  have hz0 : Sized Tryd.prog 3 d0 := Sized.each hsz0 (j := 0) rfl rfl
  have hz1 : Sized Tryd.prog 22 d1 := Sized.each hsz0 (j := 1) rfl rfl
  have hz2 : Sized Tryd.prog 50 d2 := Sized.each hsz0 (j := 2) rfl rfl
  have hz3 : Sized Tryd.prog 50 d3 := Sized.each hsz0 (j := 3) rfl rfl
  have k0 := h0
  have lt0 : ∀ x ∈ p0, x.block < W.heap.size := by obtain ⟨m, hm⟩ := k0; exact DataW.trod_lt m _ _ _ hm
  obtain ⟨y0, rfl, rfl, rfl, w0⟩ := open_int Tryd.underlying3 (hval 0 3 v0 rfl rfl) h0
  have k1 := h1
  have lt1 : ∀ x ∈ p1, x.block < W.heap.size := by obtain ⟨m, hm⟩ := k1; exact DataW.trod_lt m _ _ _ hm
  obtain ⟨a1, len1, cap1, rfl⟩ := okWide_slice Tryd.underlying22 (hval 1 22 v1 rfl rfl)
  obtain ⟨y1, hk1, w1⟩ := (Rd.slice Tryd.underlying22 (by kernel_rfl) (of_decide_eq_true (by kernel_rfl)) rdLeaf).cell rfl h1 hz1
  obtain ⟨A1, c1, e1, l1, g1⟩ := hk1
  rw [List.cons.injEq] at e1
  obtain ⟨e1, -⟩ := e1
  injection e1 with ea1 el1 ec1
  subst ea1 el1 ec1
  have k2 := h2
  have lt2 : ∀ x ∈ p2, x.block < W.heap.size := by obtain ⟨m, hm⟩ := k2; exact DataW.trod_lt m _ _ _ hm
  obtain ⟨y2, rfl, rfl, rfl, w2⟩ := open_int Tryd.underlying50 (hval 2 50 v2 rfl rfl) h2
  have k3 := h3
  have lt3 : ∀ x ∈ p3, x.block < W.heap.size := by obtain ⟨m, hm⟩ := k3; exact DataW.trod_lt m _ _ _ hm
  obtain ⟨y3, rfl, rfl, rfl, w3⟩ := open_int Tryd.underlying50 (hval 3 50 v3 rfl rfl) h3
  clear hA0 hval0 hsz0
  have h := pure_ProofBeside y0 y1 y2 y3 w0 w1 w2 w3
  refine (law16_ProofBeside.calls y0 _ _ y1 y2 y3 true W (P.laidT_of_met hL) g1 l1 h).mono fun e W' ⟨he, bel0⟩ => ?_
  have bel := bel0
  subst he
  exact ⟨_, rfl, _, _, _, [], _, [], hW', trodAll_mk1 (shut_bool Tryd.underlying4 _), (trodAll_cons_mk (Below.trod laidOut (by kernel_rfl) (of_decide_eq_true (by kernel_rfl)) k0 bel lt0) (trodAll_cons_mk (Below.trod laidOut (by kernel_rfl) (of_decide_eq_true (by kernel_rfl)) k1 bel lt1) (trodAll_cons_mk (Below.trod laidOut (by kernel_rfl) (of_decide_eq_true (by kernel_rfl)) k2 bel lt2) (trodAll_cons_mk (Below.trod laidOut (by kernel_rfl) (of_decide_eq_true (by kernel_rfl)) k3 bel lt3) trodAll_mk0)))), rfl, bel.frame _, fun h => by cases h⟩
theorem over : Rows.proofBesideRow.holds Tryd.pinned (OpenSpec.ofChange Rows.proofBesideSpec) :=
  OpenClaim.holds_of_wide 7 Tryd.f7 rfl rfl rfl rfl rfl rfl rfl ⟨rfl, rfl, rfl, rfl, rfl⟩ rfl rfl rfl rfl rfl (by kernel_rfl) Tryd.func7 (by kernel_rfl)
    (of_decide_eq_true (by kernel_rfl)) (by unfold Func.isWrapper; first | (rw [if_pos (by decide +kernel)]; kernel_rfl) | (rw [if_neg (by decide +kernel)]; exact ⟨rfl, rfl⟩))
    (fun os started H enc _ => lifted os started H enc)
set_option maxRecDepth 100000 in
theorem proved : Rows.ProofBesideCardSaid :=
  Claim7.holds_tied_plain_at .later [] [.data, .data, .pinned] true (true, "4f2cffd12862c0dd414eb8a94792080809aa0e0cec70df79135b296e27b5c26d") false
    over (fun _ h => by cases h) (by kernel_rfl) (fun _ h => by cases h) proofBeside_row_tie rfl ⟨rfl, rfl⟩ (by kernel_rfl) rfl
    (fun f fn hf hfn => by
      obtain rfl : f = 7 := Option.some.inj ((show Tryd.prog.funcNamed "paymaster/paymasterlaw16.ProofBeside" = some 7 by kernel_rfl).symm.trans hf) |>.symm
      obtain rfl : fn = Tryd.f7 := (Option.some.inj (Tryd.func7.symm.trans hfn)).symm
      exact ⟨by kernel_rfl, fun j t ht => by
        rw [Tryd.params7] at ht
        have h3 : t ∈ [3, 22, 50, 50] := by
          have := List.mem_of_getElem? (l := [3, 22, 50, 50]) (i := j) (a := t) (by simpa using ht)
          exact this
        simp only [List.mem_cons, List.not_mem_nil, or_false] at h3
        rcases h3 with rfl | rfl | rfl | rfl
        · exact (show Tryd.prog.wantsStandIn 3 = false by kernel_rfl)
        · exact (show Tryd.prog.wantsStandIn 22 = false by kernel_rfl)
        · exact (show Tryd.prog.wantsStandIn 50 = false by kernel_rfl)
        · exact (show Tryd.prog.wantsStandIn 50 = false by kernel_rfl)
      ⟩)
    (by kernel_rfl)
#print axioms proved
end Go.Proofs.YtfcodmdckcihmaaDoor.proofBeside
namespace Go.Proofs.YtfcodmdckcihmaaDoor
/-- The row, under a short name, for the claim. -/
theorem proofBeside_holds : Rows.ProofBesideCardSaid := proofBeside.proved
end Go.Proofs.YtfcodmdckcihmaaDoor
