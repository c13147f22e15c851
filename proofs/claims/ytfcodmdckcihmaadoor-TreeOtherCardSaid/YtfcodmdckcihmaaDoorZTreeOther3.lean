/- PROVED HERE: the Go function paymasterlaw15.TreeOther returns true for every input that the given statement speaks of, and each argument reads behind the call as it read before. Conditions: none beyond the given statement's own (the laid table of constants, tied by the card). -/
-- Several texts of this workplace as one.
import Derived.Test.YtfcodmdckcihmaaDoorZTreeOther2
import Derived.Test.YtfcodmdckcihmaaDoorProg
import Derived.Deep.OwnRows
import Derived.Laws.Rows
import Derived.Test.YtfcodmdckcihmaaDoorRows
import Derived.Test.YtfcodmdckcihmaaDoorCards
import Derived.Test.YtfcodmdckcihmaaDoorTie
namespace Go.Proofs.YtfcodmdckcihmaaDoor.P
open Go.RowKit Go.Proofs.YtfcodmdckcihmaaDoorW.PrintWords Go.Proofs.YtfcodmdckcihmaaDoorW.PrintLast Go.Proofs.YtfcodmdckcihmaaDoorW.PrintMore
set_option linter.unusedVariables false
set_option linter.unusedSimpArgs false
set_option linter.unnecessarySimpa false
attribute [local go_sem] sel_true
def SetPost (base a gl cl : Nat) (VV : Value) (gs : List RowG) (wd : Int) (ls : List SLeaf) (p : Nat) (x : SLeaf) (w : World) (e : Ending) (w' : World) : Prop :=
  e = .returned (.int .i64 (setI wd ls p x)) ∧ TreeOwn base w' a (treeT wd (setL wd ls p x)) gl cl VV gs ∧ Tch (parts gl gs) w w'
theorem SetPost.err {base a gl cl : Nat} {VV : Value} {gs : List RowG} {wd : Int} {ls : List SLeaf} {p : Nat} {x : SLeaf} {w w' : World} {e : Int} (hI : setI wd ls p x = e) (h0 : e ≠ 0) (hT : TreeOwn base w a (treeT wd ls) gl cl VV gs) (hB : Below w.heap.size w w') : SetPost base a gl cl VV gs wd ls p x w (.returned (.int .i64 e)) w' :=
  ⟨by rw [hI], by unfold setL; rw [if_neg (by rw [hI]; exact h0)]; exact hT.keep hB, .of hB⟩
theorem leafNode_k {wd : Int} {x : SLeaf} (hw : 1 ≤ wd ∧ wd ≤ 32) (hm : mayLeafI x = true) (hx : OkL x) : NodeK wd (leafNodeI wd x) := by
  refine ⟨?_, leafNodeI_ok wd x hx.ub⟩
  unfold leafNodeI
  rw [if_pos ⟨⟨by omega, by omega⟩, hm⟩]
  have e : ((dgI wd (leafTextI x)).size : Int) = wd := by rw [dgI_size _ _ (by omega) (by omega)]; omega
  simp only [nodeOf, e]
  simp
  omega
def waysL (wd : Int) (ls : List SLeaf) (p : Nat) (x : SLeaf) (n : Nat) : List SNode := (List.range n).map (wayV wd (ls.map (leafNodeI wd)) p (leafNodeI wd x))
theorem waysL_succ (wd : Int) (ls : List SLeaf) (p : Nat) (x : SLeaf) (n : Nat) : waysL wd ls p x (n + 1) = waysL wd ls p x n ++ [wayV wd (ls.map (leafNodeI wd)) p (leafNodeI wd x) n] := by
  unfold waysL; rw [List.range_succ, List.map_append]; rfl
theorem waysL_len (wd : Int) (ls : List SLeaf) (p : Nat) (x : SLeaf) (n : Nat) : (waysL wd ls p x n).length = n := by unfold waysL; simp
theorem treeR_of {base a gl cl gv cv K : Nat} {gs : List RowG} {wd : Int} {ls : List SLeaf} {V : World} (h : TreeOwn base V a (treeT wd ls) gl cl (.slice (some ⟨gv, 0, none⟩) (K + 1) cv) gs) (hr : (treeT wd ls).rows.length = K + 1) (hk : NewOk wd ls) (hn : ls.length ≤ 1024) : TreeR a (treeT wd ls) V := h.readT hk hn
structure StL (base a gl cl : Nat) (VV : Value) (gs : List RowG) (wd : Int) (ls : List SLeaf) (p : Nat) (x : SLeaf) (w : World) (i : Nat) (way : Value) (V : World) : Prop where
  b : Below w.heap.size w V
  t : TreeOwn base V a (treeT wd ls) gl cl VV gs
  o : V.ownsRow (w.heap.size + 1) 46 3 way (i + 1) (cellsN (waysL wd ls p x (i + 1)))
  k : ∀ j, j ≤ i → NodeK wd (wayV wd (ls.map (leafNodeI wd)) p (leafNodeI wd x) j)
  l : V.heap[w.heap.size]? = some (.cells (acL x) 36 (0, 0))
theorem StL.below {base a gl cl : Nat} {VV : Value} {gs : List RowG} {wd : Int} {ls : List SLeaf} {p : Nat} {x : SLeaf} {w : World} {i : Nat} {way : Value} {V V' : World} (h : StL base a gl cl VV gs wd ls p x w i way V) (hb : Below V.heap.size V V') : StL base a gl cl VV gs wd ls p x w i way V' :=
  ⟨h.b.trans (hb.mono h.b.size), h.t.keep hb, ownB h.o hb, h.k, blk_below h.l hb⟩
structure St12 (V W : World) (wn sn : SNode) (l : Nat → Bool) (γ δ : Nat) : Prop where
  b : Below V.heap.size V W
  h12 : l 12 = true → V.heap.size ≤ γ ∧ W.heap[γ]? = some (.cells (if l 14 = true then nodeA wn else nodeA nodeZ) 46 (0, 0))
  h13 : l 13 = true → V.heap.size ≤ δ ∧ W.heap[δ]? = some (.cells (if l 15 = true then nodeA sn else nodeA nodeZ) 46 (0, 0))
  ne : l 12 = true → l 13 = true → γ ≠ δ
  o14 : l 14 = true → l 12 = true
  o15 : l 15 = true → l 13 = true
section
variable {V W : World} {wn sn : SNode} {l : Nat → Bool} {γ δ : Nat}
theorem St12.start (V : World) (wn sn : SNode) : St12 V V.drew wn sn (fun _ => false) 0 0 := ⟨below_drew (Below.refl _ _), (fun h => by cases h), (fun h => by cases h), (fun h => by cases h), (fun h => by cases h), (fun h => by cases h)⟩
theorem St12.same (h : St12 V W wn sn l γ δ) (i : Nat) (hi : i < 12) : St12 V W wn sn (upd l i) γ δ := by
  have e12 : upd l i 12 = l 12 := upd_no (by omega)
  have e13 : upd l i 13 = l 13 := upd_no (by omega)
  have e14 : upd l i 14 = l 14 := upd_no (by omega)
  have e15 : upd l i 15 = l 15 := upd_no (by omega)
  exact ⟨h.b, by rw [e12, e14]; exact h.h12, by rw [e13, e15]; exact h.h13, by rw [e12, e13]; exact h.ne, by rw [e14, e12]; exact h.o14, by rw [e15, e13]; exact h.o15⟩
theorem St12.no12 (h : St12 V W wn sn l γ δ) (hl : l 12 = false) : l 14 = false := by
  cases hx : l 14 with
  | false => rfl
  | true => rw [h.o14 hx] at hl; cases hl
theorem St12.no13 (h : St12 V W wn sn l γ δ) (hl : l 13 = false) : l 15 = false := by
  cases hx : l 15 with
  | false => rfl
  | true => rw [h.o15 hx] at hl; cases hl
theorem St12.made12 (h : St12 V W wn sn l γ δ) (hl : l 12 = false) : St12 V (W.alloc (.cells #[.string ⟨#[]⟩, .int .u64 0, .int .u64 0] 46)) wn sn (upd l 12) W.heap.size δ := by
  have h14 : upd l 12 14 = false := h.no12 hl
  refine ⟨below_alloc h.b _, fun _ => ⟨h.b.size, ?_⟩, fun hx => ⟨(h.h13 hx).1, blk_alloc (h.h13 hx).2 _⟩, fun _ hx => ?_, (fun hx => by rw [h14] at hx; cases hx), h.o15⟩
  · rw [if_neg (by rw [h14]; decide)]; exact blk_new W _
  · have := blk_lt (h.h13 hx).2; omega
theorem St12.made13 (h : St12 V W wn sn l γ δ) (hl : l 13 = false) : St12 V (W.alloc (.cells #[.string ⟨#[]⟩, .int .u64 0, .int .u64 0] 46)) wn sn (upd l 13) γ W.heap.size := by
  have h15 : upd l 13 15 = false := h.no13 hl
  refine ⟨below_alloc h.b _, fun hx => ⟨(h.h12 hx).1, blk_alloc (h.h12 hx).2 _⟩, fun _ => ⟨h.b.size, ?_⟩, fun hx _ => ?_, h.o14, (fun hx => by rw [h15] at hx; cases hx)⟩
  · rw [if_neg (by rw [h15]; decide)]; exact blk_new W _
  · have := blk_lt (h.h12 hx).2; omega
theorem St12.stored14 (h : St12 V W wn sn l γ δ) (hl : l 14 = false) (h12 : l 12 = true) : St12 V (((W.setCell ⟨γ, 0, none⟩ (.string wn.f0)).setCell ⟨γ, 1, none⟩ (.int .u64 wn.f1.f0)).setCell ⟨γ, 2, none⟩ (.int .u64 wn.f1.f1)) wn sn (upd l 14) γ δ := by
  have hz := h.h12 h12
  rw [if_neg (by rw [hl]; decide)] at hz
  refine ⟨below_set (below_set (below_set h.b hz.1) hz.1) hz.1, fun _ => ⟨hz.1, ?_⟩, fun hx => ⟨(h.h13 hx).1, ?_⟩, h.ne, fun _ => h12, h.o15⟩
  · rw [if_pos (show upd l 14 14 = true from rfl)]; exact blk_put (blk_put (blk_put hz.2 0 _ rfl) 1 _ rfl) 2 _ rfl
  · have hne : δ ≠ γ := fun e => h.ne h12 hx e.symm
    exact blk_far (blk_far (blk_far (h.h13 hx).2 (by exact hne) _) (by exact hne) _) (by exact hne) _
theorem St12.stored15 (h : St12 V W wn sn l γ δ) (hl : l 15 = false) (h13 : l 13 = true) : St12 V (((W.setCell ⟨δ, 0, none⟩ (.string sn.f0)).setCell ⟨δ, 1, none⟩ (.int .u64 sn.f1.f0)).setCell ⟨δ, 2, none⟩ (.int .u64 sn.f1.f1)) wn sn (upd l 15) γ δ := by
  have hz := h.h13 h13
  rw [if_neg (by rw [hl]; decide)] at hz
  refine ⟨below_set (below_set (below_set h.b hz.1) hz.1) hz.1, fun hx => ⟨(h.h12 hx).1, ?_⟩, fun _ => ⟨hz.1, ?_⟩, h.ne, h.o14, fun _ => h13⟩
  · have hne : γ ≠ δ := fun e => h.ne hx h13 e
    exact blk_far (blk_far (blk_far (h.h12 hx).2 (by exact hne) _) (by exact hne) _) (by exact hne) _
  · rw [if_pos (show upd l 15 15 = true from rfl)]; exact blk_put (blk_put (blk_put hz.2 0 _ rfl) 1 _ rfl) 2 _ rfl
theorem St12.done (h : St12 V W wn sn l γ δ) (h12 : l 12 = true) (h13 : l 13 = true) (h14 : l 14 = true) (h15 : l 15 = true) : (V.heap.size ≤ γ ∧ W.heap[γ]? = some (.cells (nodeA wn) 46 (0, 0))) ∧ (V.heap.size ≤ δ ∧ W.heap[δ]? = some (.cells (nodeA sn) 46 (0, 0))) ∧ γ ≠ δ := by
  have a := h.h12 h12
  have b := h.h13 h13
  rw [if_pos h14] at a
  rw [if_pos h15] at b
  exact ⟨a, b, h.ne h12 h13⟩
end
theorem StL.next {base a gl cl : Nat} {VV : Value} {gs : List RowG} {wd : Int} {ls : List SLeaf} {p : Nat} {x : SLeaf} {w : World} {i : Nat} {way v' : Value} {V V' : World} {jn : SNode} (h : StL base a gl cl VV gs wd ls p x w i way V) (hT : TreeOwn base w a (treeT wd ls) gl cl VV gs) (hgr : V.grownBy V' way.ownBlock)
    (hown : V'.ownsRow (w.heap.size + 1) 46 3 v' (i + 1 + 1) (cellsN (waysL wd ls p x (i + 1)) ++ [.string jn.f0, .int .u64 jn.f1.f0, .int .u64 jn.f1.f1])) (hj : jn = wayV wd (ls.map (leafNodeI wd)) p (leafNodeI wd x) (i + 1)) (hk : NodeK wd jn) : StL base a gl cl VV gs wd ls p x w (i + 1) v' V' := by
  have hb := below_grown h.b hgr (fun r e => by have := (h.o.lt r e).1; omega)
  refine ⟨hb, hT.keep hb, ?_, fun j hj2 => ?_, (hgr.block _ (blk_lt h.l) (fun e => by have := (h.o.lt _ e.symm).1; omega)).trans h.l⟩
  · rw [waysL_succ, cellsN_append, ← hj]; exact hown
  · rcases Nat.lt_or_ge i j with h1 | h1
    · obtain rfl : j = i + 1 := by omega
      rw [← hj]; exact hk
    · exact h.k j h1
theorem ownBlk {w : World} {base g n cap size : Nat} {e : TypeId} {xs : List Value} (h : w.ownsRow base e size (.slice (some ⟨g, 0, none⟩) n cap) n xs) : ∃ cs, w.heap[g]? = some (.cells cs e (0, 0)) ∧ n * size ≤ cs.size := by
  rcases h.2 with ⟨h1, _⟩ | ⟨g', cap', cur, h1, _, h2, h3, _, h5, _⟩
  · cases h1
  · cases h1
    exact ⟨cur, h2, by rw [h5]; exact Nat.mul_le_mul_right _ h3⟩
theorem StL.zero {base a gl cl K : Nat} {VV : Value} {gs : List RowG} {wd : Int} {ls : List SLeaf} {p : Nat} {x : SLeaf} {w : World} {way : Value} {V : World} (h : StL base a gl cl VV gs wd ls p x w K way V) (hT : TreeOwn base w a (treeT wd ls) gl cl VV gs) (hK : ls.length = 2 ^ K) (hk : NewOk wd ls) (hp : p < ls.length) (hx : OkL x) (hm : mayLeafI x = true) : setI wd ls p x = 0 := by
  have hl : (ls.map (leafNodeI wd)).length = 2 ^ K := by rw [List.length_map]; exact hK
  have h1 := upV_set wd hl (p := p) (by omega) (leafNodeI wd x) K (Nat.le_refl _)
  have h2 := upV_tot wd (K := K) (l := (ls.map (leafNodeI wd)).set p (leafNodeI wd x)) (by rw [List.length_set]; exact hl) K (Nat.le_refl _)
  have h3 : (upV wd K (ls.map (leafNodeI wd))).length = 1 := by rw [upV_len2 hl K (Nat.le_refl _), Nat.sub_self]
  rw [Nat.div_eq_of_lt (by omega)] at h1
  have h4 := valU_lt (h.k K (Nat.le_refl _)).u
  rw [h1] at h2
  match e : upV wd K (ls.map (leafNodeI wd)), h3 with
  | [y], _ =>
    rw [e, List.set_cons_zero] at h2
    unfold setI
    rw [if_neg (show ¬ ls.length ≤ p by omega), if_neg (by rw [hm]; decide), List.map_set, ← h2, totL, totL, if_pos (by omega)]
def rowsM (wd : Int) (ls : List SLeaf) (p : Nat) (x : SLeaf) (j : Nat) : List (List SNode) := (treeT wd (ls.set p x)).rows.take j ++ (treeT wd ls).rows.drop j
structure StP (base a gl cl : Nat) (VV : Value) (gs : List RowG) (wd : Int) (ls : List SLeaf) (p : Nat) (x : SLeaf) (w : World) (K : Nat) (way : Value) (j : Nat) (V : World) : Prop where
  c : Tch (parts gl gs) w V
  t : TreeOwn base V a ⟨wd, ls.set p x, rowsM wd ls p x j⟩ gl cl VV gs
  o : V.ownsRow (w.heap.size + 1) 46 3 way (K + 1) (cellsN (waysL wd ls p x (K + 1)))
section
variable {base a gl cl : Nat} {VV : Value} {gs : List RowG} {wd : Int} {ls : List SLeaf} {p : Nat} {x : SLeaf} {w : World} {K : Nat} {way : Value} {j : Nat} {V V' : World}
theorem StP.below (h : StP base a gl cl VV gs wd ls p x w K way j V) (hb : Below V.heap.size V V') : StP base a gl cl VV gs wd ls p x w K way j V' := ⟨h.c.below hb, h.t.keep hb, ownB h.o hb⟩
theorem StP.start (h : StL base a gl cl VV gs wd ls p x w K way V) (hT : TreeOwn base w a (treeT wd ls) gl cl VV gs) (hp : p < ls.length) :
    StP base a gl cl VV gs wd ls p x w K way 0 (((((V.setCell ⟨gl, p * 5, none⟩ (.bool x.f0)).setCell ⟨gl, p * 5 + 1, none⟩ (.string x.f1)).setCell ⟨gl, p * 5 + 2, none⟩ (.string x.f2)).setCell ⟨gl, p * 5 + 3, none⟩ (.int .u64 x.f3.f0)).setCell ⟨gl, p * 5 + 4, none⟩ (.int .u64 x.f3.f1)).drew := by
  have hm : gl ∈ parts gl gs := List.mem_cons_self ..
  have hg := (hT.lt gl hm).2
  have hk : ∀ k, way.ownBlock = some k → k ≠ gl := fun k e => by have := (h.o.lt k e).1; omega
  refine StP.below ⟨(((((Tch.of h.b).set _ (.inl hm)).set _ (.inl hm)).set _ (.inl hm)).set _ (.inl hm)).set _ (.inl hm), h.t.putLeaf x hp, ?_⟩ (below_drew (Below.refl _ _))
  exact ownAny_keep h.o (fun g e => (Below.heap_setCell _ _ _ _ (hk g e)).trans ((Below.heap_setCell _ _ _ _ (hk g e)).trans ((Below.heap_setCell _ _ _ _ (hk g e)).trans ((Below.heap_setCell _ _ _ _ (hk g e)).trans (Below.heap_setCell _ _ _ _ (hk g e))))))
theorem rowsM_get (hn : (treeT wd ls).rows.length = K + 1) (hn2 : (treeT wd (ls.set p x)).rows.length = K + 1) (hj : j < K + 1) : (rowsM wd ls p x j)[j]? = (treeT wd ls).rows[j]? := by
  unfold rowsM
  rw [List.getElem?_append_right (by rw [List.length_take]; omega), List.length_take, List.getElem?_drop]
  congr 1
  omega
theorem rowsM_len (hn : (treeT wd ls).rows.length = K + 1) (hn2 : (treeT wd (ls.set p x)).rows.length = K + 1) (hj : j ≤ K + 1) : (rowsM wd ls p x j).length = K + 1 := by
  unfold rowsM
  rw [List.length_append, List.length_take, List.length_drop]
  omega
theorem rowsM_set {r : List SNode} (hn : (treeT wd ls).rows.length = K + 1) (hn2 : (treeT wd (ls.set p x)).rows.length = K + 1) (hj : j < K + 1) (hr : (treeT wd (ls.set p x)).rows[j]? = some r) : (rowsM wd ls p x j).set j r = rowsM wd ls p x (j + 1) := by
  unfold rowsM
  have e : ((treeT wd (ls.set p x)).rows.take j).length = j := by rw [List.length_take]; omega
  have hd : (treeT wd ls).rows.drop j = (treeT wd ls).rows[j]'(by omega) :: (treeT wd ls).rows.drop (j + 1) := List.drop_eq_getElem_cons (by omega)
  rw [List.set_append_right _ _ (by omega), e, Nat.sub_self, hd, List.set_cons_zero]
  have ht : (treeT wd (ls.set p x)).rows.take (j + 1) = (treeT wd (ls.set p x)).rows.take j ++ [r] := by
    rw [List.take_add_one, hr]; rfl
  rw [ht, List.append_assoc]; rfl
theorem StP.put {pr : RowG} {q : Nat} {r : List SNode} {n : SNode} (h : StP base a gl cl VV gs wd ls p x w K way j V) (hT : TreeOwn base w a (treeT wd ls) gl cl VV gs) (hn : (treeT wd ls).rows.length = K + 1) (hn2 : (treeT wd (ls.set p x)).rows.length = K + 1) (hj : j < K + 1) (hp : gs[j]? = some pr) (hr : (rowsM wd ls p x j)[j]? = some r) (hq : q < r.length) (hs : (treeT wd (ls.set p x)).rows[j]? = some (r.set q n)) :
    StP base a gl cl VV gs wd ls p x w K way (j + 1) (((V.setCell ⟨pr.1, q * 3, none⟩ (.string n.f0)).setCell ⟨pr.1, q * 3 + 1, none⟩ (.int .u64 n.f1.f0)).setCell ⟨pr.1, q * 3 + 2, none⟩ (.int .u64 n.f1.f1)) := by
  have hm : pr.1 ∈ parts gl gs := List.mem_cons_of_mem _ (List.mem_map.2 ⟨pr, List.mem_of_getElem? hp, rfl⟩)
  have hg := (hT.lt pr.1 hm).2
  have hk : ∀ k, way.ownBlock = some k → k ≠ pr.1 := fun k e => by have := (h.o.lt k e).1; omega
  have ht := h.t.putNode n hp hr hq
  rw [rowsM_set hn hn2 hj hs] at ht
  refine ⟨((h.c.set _ (.inl hm)).set _ (.inl hm)).set _ (.inl hm), ht, ?_⟩
  exact ownAny_keep h.o (fun g e => (Below.heap_setCell _ _ _ _ (hk g e)).trans ((Below.heap_setCell _ _ _ _ (hk g e)).trans (Below.heap_setCell _ _ _ _ (hk g e))))
theorem StP.done (h : StP base a gl cl VV gs wd ls p x w K way (K + 1) V) (hn : (treeT wd ls).rows.length = K + 1) (hn2 : (treeT wd (ls.set p x)).rows.length = K + 1) (hz : setI wd ls p x = 0) : SetPost base a gl cl VV gs wd ls p x w (.returned (.int .i64 0)) V := by
  refine ⟨by rw [hz], ?_, h.c⟩
  have e : setL wd ls p x = ls.set p x := by unfold setL; rw [if_pos hz]
  have e2 : rowsM wd ls p x (K + 1) = (treeT wd (ls.set p x)).rows := by
    unfold rowsM; rw [List.take_of_length_le (by omega), List.drop_of_length_le (by omega), List.append_nil]
  have ht := h.t
  rw [e2] at ht
  rw [e]
  exact ht
end
set_option maxRecDepth 100000 in
set_option maxHeartbeats 4000000 in
theorem tSet.calls (base ta gl cl : Nat) (VV : Value) (gs : List RowG) (wd : Int) (ls : List SLeaf) (p : Nat) (x : SLeaf) (w : World) (hK : LaidT w) (hT : TreeOwn base w ta (treeT wd ls) gl cl VV gs) (hk : NewOk wd ls) (hn : ls.length ≤ 1024) (hx : OkL x) (hp : p < 18446744073709551616) :
    Calls Tryd.prog 27 #[ptrT ta, .int .u64 (p : Int), leafV x] w (SetPost base ta gl cl VV gs wd ls p x w) := by
  have HK := aM' hK
  have HT := aM' hT
  have HKK := aM' hk
  have HN := aM' hn
  have HX := aM' hx
  have HP := aM' hp
  obtain ⟨W1, hW1⟩ : ∃ V, V = w.alloc (.cells (acL x) 36) := ⟨_, rfl⟩
  have hb1 : Below w.heap.size w W1 := by rw [hW1]; exact below_alloc (Below.refl _ _) _
  have hx1 : W1.heap[w.heap.size]? = some (.cells (acL x) 36 (0, 0)) := by rw [hW1]; exact blk_new _ _
  have hT1 := hT.keep hb1
  have q := aM' (tNone.calls ta _ W1 (hT1.readT hk hn))
  have c1 : W1.cell? ⟨ta, 1, none⟩ = some (.slice (some ⟨gl, 0, none⟩) ls.length cl) := blk_cell hT1.ht 1
  have x0 := blk_cell hx1 0
  have x1 := blk_cell hx1 1
  have x2 := blk_cell hx1 2
  have x3 := blk_cell hx1 3
  have x4 := blk_cell hx1 4
  simp at x0 x1 x2 x3 x4
  have hw : IntKind.u64.wrap ((ls.length : Nat) : Int) = (ls.length : Int) := wrapu64_id (by omega) (by omega)
  have HB1 := aM' hb1
  have HX1 := aM' hx1
  clear hK hT hk hn hx hp hb1 hx1 hT1
  obtain ⟨i0, hi, hz0, hz1, hz2⟩ := info_parts nodeInfo
  have hu := Tryd.underlying105
  obtain ⟨K, hK⟩ : ∃ K, K = ls.length.log2 := ⟨_, rfl⟩
  have hrl : (treeT wd ls).rows.length = K + 1 := by
    have h : (treeT wd ls).rows = levelsV wd ls.length.log2 (ls.map (leafNodeI wd)) := rfl
    rw [h, levelsV_len, hK]
  have hKl : ls.length = 2 ^ K := by rw [hK]; exact HKK.out.p
  obtain ⟨gv, cv, rfl, hcv, -, hgv⟩ := HT.out.levels (by rw [hrl]; omega)
  rw [hrl] at hcv HT
  have HRL := aM' hrl
  have HKL := aM' hKl
  have HCV := aM' hcv
  have HGV := aM' hgv
  have HK10 := aM' (show K ≤ 10 by
    rcases Nat.lt_or_ge 10 K with h1 | h1
    · have h2 := Nat.pow_le_pow_right (n := 2) (by decide) (show 11 ≤ K by omega)
      have := HN.out
      omega
    · exact h1)
  rw [hrl]
  clear hK hrl hKl hcv hgv
  by_cases hlt : p < ls.length
  case neg =>
    have b1 : decide ((ls.length : Int) ≤ (p : Int)) = true := decide_eq_true (by omega)
    have b2 : decide (ls.length ≤ p) = true := decide_eq_true (by omega)
    have HI := aM' (show setI wd ls p x = 2 by unfold setI; rw [if_pos (by omega)])
    clear hlt
    go_enter Tryd.func27, Tryd.ntmps27
    go_wp2_with fail
    rw [← hW1]
    clear hW1
    refine q.out.mono ?_
    rintro e w1 ⟨rfl, rfl⟩
    go_wp2
    go_ret
    exact SetPost.err HI.out (by decide) HT.out HB1.out
  case pos =>
    have b1 : decide ((ls.length : Int) ≤ (p : Int)) = false := decide_eq_false (by omega)
    have b2 : decide (ls.length ≤ p) = false := decide_eq_false (by omega)
    have HLT := aM' hlt
    have HM := aM' (tagMayLeaf_eq x HX.out.id)
    clear hlt
    go_enter Tryd.func27, Tryd.ntmps27
    go_wp2_with fail
    rw [← hW1]
    clear hW1
    refine q.out.mono ?_
    rintro e w1 ⟨rfl, rfl⟩
    go_wp2_with fail
    refine (tag_MayLeaf.calls x.f0 x.f1 x.f2 x.f3.f0 x.f3.f1 (mayLeafI x) _ (HK.out.below HB1.out) HM.out).mono ?_
    rintro e w2 ⟨rfl, hb⟩
    have HB2 := aM' (HB1.out.trans (hb.mono HB1.out.size))
    have HX2 := aM' (blk_below HX1.out hb)
    clear hb b1 b2 c1 x0 x1 x2 x3 x4 hw q HX1
    cases hml : mayLeafI x with
    | false =>
      have HI := aM' (show setI wd ls p x = 130 by unfold setI; rw [if_neg (by have := HLT.out; omega), if_pos hml])
      clear hml
      go_wp2
      go_ret
      exact SetPost.err HI.out (by decide) HT.out HB2.out
    | true =>
      have HML := aM' hml
      clear hml
      obtain ⟨kl, hkl⟩ := (tagLeafNode_ev wd x HX.out.id HX.out.sa).rounds
      have HLN := aM' hkl
      clear hkl
      have HA2 := aM' (show w2.heap[ta]? = some (.cells #[.int .i64 wd, .slice (some ⟨gl, 0, none⟩) ls.length cl, .slice (some ⟨gv, 0, none⟩) (K + 1) cv] 105 (0, 0)) from (HT.out.keep HB2.out).ht)
      obtain ⟨ln, hln⟩ : ∃ n, n = leafNodeI wd x := ⟨_, rfl⟩
      rw [← hln] at HLN
      have HLNE := aM' hln
      clear hln
      go_upto_region 7 with (fail)
      refine wp_forget (fun y => ({ tmps := List.toArray (.pointer (some ⟨ta, 0, none⟩) :: .int .u64 (p : Int) :: leafV x :: y 3 :: y 4 :: .pointer (some ⟨w.heap.size, 0, none⟩) :: .int .i64 0 :: y 7 :: y 8 :: y 9 :: y 10 :: y 11 :: y 12 :: y 13 :: y 14 :: y 15 :: y 16 :: y 17 :: y 18 :: y 19 :: y 20 :: y 21 :: y 22 :: y 23 :: y 24 :: y 25 :: y 26 :: y 27 :: y 28 :: y 29 :: y 30 :: y 31 :: y 32 :: y 33 :: y 34 :: y 35 :: y 36 :: y 37 :: y 38 :: y 39 :: y 40 :: y 41 :: y 42 :: y 43 :: y 44 :: y 45 :: y 46 :: y 47 :: y 48 :: y 49 :: y 50 :: y 51 :: y 52 :: y 53 :: y 54 :: y 55 :: y 56 :: y 57 :: y 58 :: y 59 :: y 60 :: y 61 :: y 62 :: y 63 :: y 64 :: y 65 :: y 66 :: y 67 :: y 68 :: y 69 :: y 70 :: y 71 :: y 72 :: y 73 :: y 74 :: y 75 :: y 76 :: y 77 :: y 78 :: y 79 :: y 80 :: y 81 :: y 82 :: y 83 :: y 84 :: y 85 :: y 86 :: y 87 :: y 88 :: y 89 :: y 90 :: y 91 :: y 92 :: y 93 :: y 94 :: y 95 :: y 96 :: y 97 :: y 98 :: y 99 :: y 100 :: y 101 :: y 102 :: y 103 :: y 104 :: y 105 :: y 106 :: y 107 :: y 108 :: y 109 :: y 110 :: y 111 :: y 112 :: y 113 :: y 114 :: y 115 :: y 116 :: y 117 :: y 118 :: []), defers := [] } : Act)) rfl ?_
      intro y
      refine region_inv (fun l a W => ∃ γ : Nat, a = ({ tmps := #[.pointer (some ⟨ta, 0, none⟩), .int .u64 (p : Int), leafV x, y 3, y 4, .pointer (some ⟨w.heap.size, 0, none⟩), .int .i64 0, sel (l 7) (.slice (some ⟨γ, 0, none⟩) 1 1) (y 7), y 8, y 9, y 10, y 11, y 12, y 13, y 14, y 15, y 16, y 17, y 18, y 19, y 20, y 21, y 22, y 23, y 24, y 25, y 26, y 27, y 28, y 29, y 30, y 31, y 32, sel (l 0) (.pointer (some ⟨ta, 0, none⟩)) (y 33), sel (l 1) (.pointer (some ⟨ta, 0, none⟩)) (y 34), sel (l 2) (.pointer (some ⟨ta, 0, none⟩)) (y 35), sel (l 3) (.int .i64 wd) (y 36), sel (l 4) (.agg #[.bool x.f0, .string x.f1, .string x.f2, .int .u64 x.f3.f0, .int .u64 x.f3.f1]) (y 37), sel (l 5) (.agg #[.string ln.f0, .int .u64 ln.f1.f0, .int .u64 ln.f1.f1]) (y 38), sel (l 6) (.slice (some ⟨γ, 0, none⟩) 1 1) (y 39), y 40, y 41, y 42, y 43, y 44, y 45, y 46, y 47, y 48, y 49, y 50, y 51, y 52, y 53, y 54, y 55, y 56, y 57, y 58, y 59, y 60, y 61, y 62, y 63, y 64, y 65, y 66, y 67, y 68, y 69, y 70, y 71, y 72, y 73, y 74, y 75, y 76, y 77, y 78, y 79, y 80, y 81, y 82, y 83, y 84, y 85, y 86, y 87, y 88, y 89, y 90, y 91, y 92, y 93, y 94, y 95, y 96, y 97, y 98, y 99, y 100, y 101, y 102, y 103, y 104, y 105, y 106, y 107, y 108, y 109, y 110, y 111, y 112, y 113, y 114, y 115, y 116, y 117, y 118], defers := [] } : Act) ∧ (Below w2.heap.size w2 W ∧ (l 6 = true → w2.heap.size ≤ γ ∧ W.heap[γ]? = some (.cells #[.string ln.f0, .int .u64 ln.f1.f0, .int .u64 ln.f1.f1] 46 (0, 0))) ∧ (l 7 = true → l 6 = true))) 8 rfl rfl (by kernel_rfl) ?h0 ?hend ?hstep
      case h0 => exact ⟨0, rfl, below_drew (Below.refl _ _), (fun h => by cases h), (fun h => by cases h)⟩
      case hstep =>
        refine rg_cons (rg_cons (rg_cons (rg_cons (rg_cons (rg_cons (rg_cons (rg_cons (rg_nil) ?s0) ?s1) ?s2) ?s3) ?s4) ?s5) ?s6) ?s7
        case s0 =>
          refine rg_step rfl ?_
          rintro l a W ⟨γ, rfl, hI⟩ hl hd
          clear hd
          refine rg_val (v := .pointer (some ⟨ta, 0, none⟩)) (w' := W) rfl (by go_simp) ?_
          refine ⟨γ, ?_, ?_⟩
          · simp only [Act.put, List.setIfInBounds_toArray, List.set_cons_zero, List.set_cons_succ]; rfl
          · exact hI
        case s1 =>
          refine rg_step rfl ?_
          rintro l a W ⟨γ, rfl, hI⟩ hl hd
          have d0 := hd 0 (by decide)
          clear hd
          refine rg_val (v := .pointer (some ⟨ta, 0, none⟩)) (w' := W) rfl (by go_simp) ?_
          refine ⟨γ, ?_, ?_⟩
          · simp only [Act.put, List.setIfInBounds_toArray, List.set_cons_zero, List.set_cons_succ]; rfl
          · exact hI
        case s2 =>
          refine rg_step rfl ?_
          rintro l a W ⟨γ, rfl, hI⟩ hl hd
          have d1 := hd 1 (by decide)
          clear hd
          refine rg_val (v := .pointer (some ⟨ta, 0, none⟩)) (w' := W) rfl (by go_simp) ?_
          refine ⟨γ, ?_, ?_⟩
          · simp only [Act.put, List.setIfInBounds_toArray, List.set_cons_zero, List.set_cons_succ]; rfl
          · exact hI
        case s3 =>
          refine rg_step rfl ?_
          rintro l a W ⟨γ, rfl, hI⟩ hl hd
          have d2 := hd 2 (by decide)
          clear hd
          have x0 := blk_cell (blk_below HA2.out hI.1) 0
          simp at x0
          refine rg_val (v := .int .i64 wd) (w' := W) rfl (by go_simp) ?_
          refine ⟨γ, ?_, ?_⟩
          · simp only [Act.put, List.setIfInBounds_toArray, List.set_cons_zero, List.set_cons_succ]; rfl
          · exact hI
        case s4 =>
          refine rg_step rfl ?_
          rintro l a W ⟨γ, rfl, hI⟩ hl hd
          clear hd
          have x0 := blk_cell (blk_below HX2.out hI.1) 0
          have x1 := blk_cell (blk_below HX2.out hI.1) 1
          have x2 := blk_cell (blk_below HX2.out hI.1) 2
          have x3 := blk_cell (blk_below HX2.out hI.1) 3
          have x4 := blk_cell (blk_below HX2.out hI.1) 4
          simp at x0 x1 x2 x3 x4
          refine rg_val (v := .agg #[.bool x.f0, .string x.f1, .string x.f2, .int .u64 x.f3.f0, .int .u64 x.f3.f1]) (w' := W) rfl (by go_simp) ?_
          refine ⟨γ, ?_, ?_⟩
          · simp only [Act.put, List.setIfInBounds_toArray, List.set_cons_zero, List.set_cons_succ]; rfl
          · exact hI
        case s5 =>
          refine rg_step rfl ?_
          rintro l a W ⟨γ, rfl, hI⟩ hl hd
          have d3 := hd 3 (by decide)
          have d4 := hd 4 (by decide)
          clear hd
          refine rg_call rfl (by go_simp; exact ⟨rfl, rfl⟩) ?_
          refine (tag_LeafNode.calls kl wd x.f0 x.f1 x.f2 x.f3.f0 x.f3.f1 ln.f0 ln.f1.f0 ln.f1.f1 W (HK.out.below (HB2.out.trans (hI.1.mono HB2.out.size))) HLN.out).mono ?_
          rintro ee W' ⟨rfl, hb⟩
          refine ⟨_, rfl, γ, ?_, ?_⟩
          · simp only [Act.put, List.setIfInBounds_toArray, List.set_cons_zero, List.set_cons_succ]; rfl
          · exact ⟨hI.1.trans (hb.mono hI.1.size), fun h => ⟨(hI.2.1 h).1, blk_below (hI.2.1 h).2 hb⟩, hI.2.2⟩
        case s6 =>
          refine rg_step rfl ?_
          rintro l a W ⟨γ, rfl, hI⟩ hl hd
          have d5 := hd 5 (by decide)
          clear hd
          have h7 : l 7 = false := by
            cases hx : l 7 with
            | false => rfl
            | true => have := hI.2.2 hx; rw [hl] at this; cases this
          have h7' : upd l 6 7 = false := h7
          refine rg_val (v := .slice (some ⟨W.heap.size, 0, none⟩) 1 1) (w' := W.alloc (.cells #[.string ln.f0, .int .u64 ln.f1.f0, .int .u64 ln.f1.f1] 46)) rfl (by go_simp) ?_
          refine ⟨W.heap.size, ?_, ?_⟩
          · simp only [Act.put, List.setIfInBounds_toArray, List.set_cons_zero, List.set_cons_succ, h7, h7']; rfl
          · exact ⟨below_alloc hI.1 _, fun _ => ⟨hI.1.size, blk_new W _⟩, fun _ => rfl⟩
        case s7 =>
          refine rg_step rfl ?_
          rintro l a W ⟨γ, rfl, hI⟩ hl hd
          have d6 := hd 6 (by decide)
          clear hd
          refine rg_val (v := .slice (some ⟨γ, 0, none⟩) 1 1) (w' := W) rfl (by go_simp) ?_
          refine ⟨γ, ?_, ?_⟩
          · simp only [Act.put, List.setIfInBounds_toArray, List.set_cons_zero, List.set_cons_succ]; rfl
          · exact ⟨hI.1, hI.2.1, fun _ => d6⟩
      case hend =>
        rintro l a W ⟨γ, rfl, hI⟩ hall
        have e0 := hall 0 (by decide)
        have e1 := hall 1 (by decide)
        have e2 := hall 2 (by decide)
        have e3 := hall 3 (by decide)
        have e4 := hall 4 (by decide)
        have e5 := hall 5 (by decide)
        have e6 := hall 6 (by decide)
        have e7 := hall 7 (by decide)
        clear hall
        have hn := hI.2.1 e6
        simp only [e0, e1, e2, e3, e4, e5, e6, e7, sel_true]
        clear e0 e1 e2 e3 e4 e5 e6 e7
        obtain ⟨hB, -, -⟩ := hI
        have hb4 : Below w.heap.size w W := HB2.out.trans (hB.mono HB2.out.size)
        have hs2 := blk_lt HX2.out
        have hS4 : StL base ta gl cl (.slice (some ⟨gv, 0, none⟩) (K + 1) cv) gs wd ls p x w 0 (.slice (some ⟨γ, 0, none⟩) 1 1) W := by
          refine ⟨hb4, HT.out.keep hb4, ⟨rfl, .inr ⟨γ, 1, #[.string ln.f0, .int .u64 ln.f1.f0, .int .u64 ln.f1.f1], rfl, by omega, hn.2, Nat.le_refl _, by decide, rfl, ?_⟩⟩, ?_, blk_below HX2.out hB⟩
          · rw [HLNE.out]; rfl
          · intro j hj
            obtain rfl : j = 0 := by omega
            exact leafNode_k HKK.out.w HML.out HX.out
        have HS4 := aM' hS4
        have t2 : W.cell? ⟨ta, 2, none⟩ = some (.slice (some ⟨gv, 0, none⟩) (K + 1) cv) := blk_cell hS4.t.ht 2
        have CH := aM' (fun (V : World) (h : TreeR ta (treeT wd ls) V) => by have q := tHeight.calls ta _ V h; rw [HRL.out, show ((K + 1 : Nat) : Int) - 1 = (K : Int) by omega] at q; exact q)
        have hkc : K ≤ cv := by have := HCV.out; omega
        clear hB hb4 hs2 hS4 hn
        go_wp2_with fail
        have HR4 := aM' (fun n => treeR_of (HS4.out.below (pw_below_drewN (Below.refl _ _) n)).t HRL.out HKK.out HN.out)
        go_quiet (exact Calls.quiet_of_same ((CH.out _ (HR4.out _)).mono fun e w' h => ⟨h.1, h.2.symm⟩))
        obtain ⟨W5, hW5⟩ : ∃ V, V = W.drewN nq := ⟨_, rfl⟩
        have HS5 := aM' (HS4.out.below (pw_below_drewN (Below.refl _ _) nq))
        rw [← hW5] at HS5
        simp only [← hW5]
        clear hW5 t2 HR4 HS4 CH hkc HA2 HX2 HB2 HLN HLNE HB1
        go_wp2
        refine wp_forget (fun y => ({ tmps := List.toArray (.pointer (some ⟨ta, 0, none⟩) :: .int .u64 (p : Int) :: leafV x :: y 3 :: y 4 :: .pointer (some ⟨w.heap.size, 0, none⟩) :: .int .i64 0 :: .slice (some ⟨γ, 0, none⟩) 1 1 :: .int .u64 (p : Int) :: y 9 :: y 10 :: y 11 :: y 12 :: y 13 :: y 14 :: y 15 :: y 16 :: y 17 :: y 18 :: y 19 :: y 20 :: y 21 :: y 22 :: y 23 :: y 24 :: y 25 :: y 26 :: y 27 :: y 28 :: y 29 :: y 30 :: y 31 :: y 32 :: y 33 :: y 34 :: y 35 :: y 36 :: y 37 :: y 38 :: y 39 :: y 40 :: y 41 :: y 42 :: y 43 :: y 44 :: y 45 :: y 46 :: .slice (some ⟨gv, 0, none⟩) K cv :: .int .i64 (K : Int) :: .int .i64 0 :: y 50 :: y 51 :: y 52 :: y 53 :: y 54 :: y 55 :: y 56 :: y 57 :: y 58 :: y 59 :: y 60 :: y 61 :: y 62 :: y 63 :: y 64 :: y 65 :: y 66 :: y 67 :: y 68 :: y 69 :: y 70 :: y 71 :: y 72 :: y 73 :: y 74 :: y 75 :: y 76 :: y 77 :: y 78 :: y 79 :: y 80 :: y 81 :: y 82 :: y 83 :: y 84 :: y 85 :: y 86 :: y 87 :: y 88 :: y 89 :: y 90 :: y 91 :: y 92 :: y 93 :: y 94 :: y 95 :: y 96 :: y 97 :: y 98 :: y 99 :: y 100 :: y 101 :: y 102 :: y 103 :: y 104 :: y 105 :: y 106 :: y 107 :: y 108 :: y 109 :: y 110 :: y 111 :: y 112 :: y 113 :: y 114 :: y 115 :: y 116 :: y 117 :: y 118 :: []), defers := [] } : Act)) rfl ?_
        intro y
        go_loopw [7, 8, 49] (fun v7 v8 v49 wr => ∃ i q : Nat, v49 = .int .i64 (i : Int) ∧ v8 = .int .u64 (q : Int) ∧ Aside0 (i ≤ K ∧ q = p / 2 ^ i) ∧ Aside0 (StL base ta gl cl (.slice (some ⟨gv, 0, none⟩) (K + 1) cv) gs wd ls p x w i v7 wr)) (fun _ _ v49 _ => K - (intOf v49).toNat)
        case atStart => exact ⟨0, p, rfl, rfl, ⟨⟨Nat.zero_le _, by rw [Nat.pow_zero, Nat.div_one]⟩⟩, HS5⟩
        case round =>
          obtain ⟨i, q, rfl, rfl, HI, HS⟩ := hrel
          obtain ⟨g7, c7, rfl, -, hg7⟩ := HS.out.o.form (by omega)
          have hK10 := HK10.out
          have HG7 := aM' hg7
          clear hg7
          by_cases hlt : i < K
          · have b1 : decide ((i : Int) < (K : Int)) = true := decide_eq_true (by omega)
            have b2 : decide (i < K) = true := decide_eq_true hlt
            have hrow : (treeT wd ls).rows[i]? = some (upV wd i (ls.map (leafNodeI wd))) := levelsV_get wd _ i _ (by have := HRL.out; have h : (treeT wd ls).rows = levelsV wd ls.length.log2 (ls.map (leafNodeI wd)) := rfl; rw [h, levelsV_len] at this; omega)
            obtain ⟨pr, hpr, l0, l1, hrc, hrd, hpm, cs, hpb, hpc⟩ := TreeOwn.level (cv := cv) (by rw [HRL.out]; exact HS.out.t) hrow
            obtain ⟨r, hr⟩ : ∃ r, r = upV wd i (ls.map (leafNodeI wd)) := ⟨_, rfl⟩
            rw [← hr] at hrow l0 hrc hrd hpc
            have hq := div_lt (by rw [← HKL.out]; exact HLT.out) (show i ≤ K by omega)
            have hrl : r.length = 2 ^ (K - i) := by rw [hr]; exact upV_len2 (by rw [List.length_map]; exact HKL.out) i (by omega)
            obtain ⟨sq, hsq⟩ : ∃ s, s = besN (p / 2 ^ i) := ⟨_, rfl⟩
            have hnk := besV_k (w := wd) (K := K) (by rw [List.length_map]; exact HKL.out) HKK.out.k HKK.out.t (by rw [← HKL.out]; exact HLT.out) i hlt
            have hsl : sq < r.length := by rw [hsq, hr]; exact hnk.2
            obtain ⟨wn, hwn⟩ : ∃ n, n = wayV wd (ls.map (leafNodeI wd)) p (leafNodeI wd x) i := ⟨_, rfl⟩
            obtain ⟨sn, hsn⟩ : ∃ n, n = besV wd (ls.map (leafNodeI wd)) p i := ⟨_, rfl⟩
            have HXX := aM' (show Go.bits .xor .u64 (q : Int) 1 = (sq : Int) by rw [hsq, HI.out.2]; exact bits_bes _ (Nat.lt_of_le_of_lt (Nat.div_le_self _ _) HP.out))
            have HSQ := aM' hsl
            have HSN := aM' (show NodeK wd sn by rw [hsn]; exact hnk.1)
            have HWN := aM' (show NodeK wd wn by rw [hwn]; exact HS.out.k i (Nat.le_refl _))
            have HW1 := aM' (show wayV wd (ls.map (leafNodeI wd)) p (leafNodeI wd x) (i + 1) = (if q % 2 = 1 then joinV wd sn wn else joinV wd wn sn) by rw [hsn, hwn, HI.out.2]; rfl)
            have hsr : r[sq] = sn := by
              have : besV wd (ls.map (leafNodeI wd)) p i = r.getD sq zeroN := by rw [hr, hsq]; rfl
              rw [hsn, this, List.getD_eq_getElem?_getD, List.getElem?_eq_getElem hsl]; rfl
            have hwr : (waysL wd ls p x (i + 1))[i]? = some wn := by
              rw [waysL_succ, List.getElem?_append_right (by rw [waysL_len]; omega), waysL_len, Nat.sub_self, hwn]; rfl
            have hcs := HS.out.o.cells (g := g7) rfl
            have ea : ∀ n, (⟨g7, 0, none⟩ : Addr).add n = ⟨g7, n, none⟩ := fun n => by unfold Addr.add; split <;> simp_all
            have eb : ∀ n, (⟨pr.1, 0, none⟩ : Addr).add n = ⟨pr.1, n, none⟩ := fun n => by unfold Addr.add; split <;> simp_all
            have w0 := cellsN_get _ i 0 wn hwr (by decide)
            have w1' := cellsN_get _ i 1 wn hwr (by decide)
            have w2' := cellsN_get _ i 2 wn hwr (by decide)
            have W0 := hcs _ _ w0
            have W1 := hcs _ _ w1'
            have W2' := hcs _ _ w2'
            rw [ea] at W0 W1 W2'
            obtain ⟨ad, e1, p0, p1, p2⟩ := at_TNode hrd (sq : Int) (by omega) (by omega)
            cases e1
            rw [rdNode_nat r sq hsl, Int.toNat_natCast, hsr] at p0 p1 p2
            rw [eb] at p0 p1 p2
            have hb11 := below_alloc (Below.refl wr.heap.size wr) (.cells #[rowV pr r, .int .i64 (i : Int)] 109)
            have EW := aM' (show (wr.alloc (.cells #[rowV pr r, .int .i64 (i : Int)] 109)).cell? ⟨g7, i * 3, none⟩ = some (.string wn.f0) ∧ (wr.alloc (.cells #[rowV pr r, .int .i64 (i : Int)] 109)).cell? ⟨g7, i * 3 + 1, none⟩ = some (.int .u64 wn.f1.f0) ∧ (wr.alloc (.cells #[rowV pr r, .int .i64 (i : Int)] 109)).cell? ⟨g7, i * 3 + 2, none⟩ = some (.int .u64 wn.f1.f1) from ⟨pw_cell_below hb11 W0, pw_cell_below hb11 W1, pw_cell_below hb11 W2'⟩)
            have ES := aM' (show (wr.alloc (.cells #[rowV pr r, .int .i64 (i : Int)] 109)).cell? ⟨pr.1, sq * 3, none⟩ = some (.string sn.f0) ∧ (wr.alloc (.cells #[rowV pr r, .int .i64 (i : Int)] 109)).cell? ⟨pr.1, sq * 3 + 1, none⟩ = some (.int .u64 sn.f1.f0) ∧ (wr.alloc (.cells #[rowV pr r, .int .i64 (i : Int)] 109)).cell? ⟨pr.1, sq * 3 + 2, none⟩ = some (.int .u64 sn.f1.f1) from ⟨pw_cell_below hb11 p0, pw_cell_below hb11 p1, pw_cell_below hb11 p2⟩)
            have H10 := aM' (blk_new wr (.cells #[rowV pr r, .int .i64 (i : Int)] 109))
            have HS10 := aM' (HS.out.below hb11)
            clear hr hpr hpc hpb hpm hrc hrd hrow hq hrl hsq hnk hsl hwn hsn hsr hwr hcs ea eb w0 w1' w2' W0 W1 W2' p0 p1 p2 hb11
            go_upto_region 12 with (fail)
            obtain ⟨g10, hg10⟩ : ∃ g, g = wr.heap.size := ⟨_, rfl⟩
            obtain ⟨V, hV⟩ : ∃ V, V = wr.alloc (.cells #[rowV pr r, .int .i64 (i : Int)] 109) := ⟨_, rfl⟩
            rw [← hg10, ← hV] at H10
            rw [← hV] at EW ES HS10
            simp only [← hg10, ← hV]
            clear hg10 hV l0 l1
            refine wp_forget (fun z => ({ tmps := List.toArray (.pointer (some ⟨ta, 0, none⟩) :: .int .u64 (p : Int) :: leafV x :: y 3 :: y 4 :: .pointer (some ⟨w.heap.size, 0, none⟩) :: z 6 :: .slice (some ⟨g7, 0, none⟩) (i + 1) c7 :: .int .u64 (q : Int) :: y 9 :: .pointer (some ⟨g10, 0, none⟩) :: z 11 :: z 12 :: z 13 :: z 14 :: y 15 :: y 16 :: y 17 :: y 18 :: y 19 :: y 20 :: y 21 :: y 22 :: y 23 :: y 24 :: y 25 :: y 26 :: y 27 :: y 28 :: y 29 :: y 30 :: y 31 :: y 32 :: y 33 :: y 34 :: y 35 :: y 36 :: y 37 :: y 38 :: y 39 :: y 40 :: y 41 :: y 42 :: y 43 :: y 44 :: y 45 :: y 46 :: .slice (some ⟨gv, 0, none⟩) K cv :: .int .i64 (K : Int) :: .int .i64 (i : Int) :: z 50 :: z 51 :: z 52 :: z 53 :: z 54 :: z 55 :: z 56 :: z 57 :: z 58 :: z 59 :: z 60 :: z 61 :: z 62 :: z 63 :: z 64 :: z 65 :: z 66 :: z 67 :: z 68 :: z 69 :: z 70 :: z 71 :: z 72 :: z 73 :: z 74 :: z 75 :: z 76 :: z 77 :: z 78 :: z 79 :: z 80 :: z 81 :: z 82 :: z 83 :: z 84 :: z 85 :: z 86 :: z 87 :: z 88 :: z 89 :: y 90 :: y 91 :: y 92 :: y 93 :: y 94 :: y 95 :: y 96 :: y 97 :: y 98 :: y 99 :: y 100 :: y 101 :: y 102 :: y 103 :: y 104 :: y 105 :: y 106 :: y 107 :: y 108 :: y 109 :: y 110 :: y 111 :: y 112 :: y 113 :: y 114 :: y 115 :: y 116 :: y 117 :: y 118 :: []), defers := [] } : Act)) rfl ?_
            intro z
            refine region_inv (fun l a W => ∃ γ : Nat, ∃ δ : Nat, a = ({ tmps := #[.pointer (some ⟨ta, 0, none⟩), .int .u64 (p : Int), leafV x, y 3, y 4, .pointer (some ⟨w.heap.size, 0, none⟩), z 6, .slice (some ⟨g7, 0, none⟩) (i + 1) c7, .int .u64 (q : Int), y 9, .pointer (some ⟨g10, 0, none⟩), sel (l 12) (.pointer (some ⟨γ, 0, none⟩)) (z 11), sel (l 13) (.pointer (some ⟨δ, 0, none⟩)) (z 12), z 13, z 14, y 15, y 16, y 17, y 18, y 19, y 20, y 21, y 22, y 23, y 24, y 25, y 26, y 27, y 28, y 29, y 30, y 31, y 32, y 33, y 34, y 35, y 36, y 37, y 38, y 39, y 40, y 41, y 42, y 43, y 44, y 45, y 46, .slice (some ⟨gv, 0, none⟩) K cv, .int .i64 (K : Int), .int .i64 (i : Int), z 50, z 51, z 52, sel (l 0) (.slice (some ⟨g7, 0, none⟩) (i + 1) c7) (z 53), sel (l 1) (.pointer (some ⟨g10, 1, none⟩)) (z 54), sel (l 2) (.int .i64 (i : Int)) (z 55), sel (l 3) (.pointer (some ⟨g7, i * 3, none⟩)) (z 56), sel (l 4) (.agg #[.string wn.f0, .int .u64 wn.f1.f0, .int .u64 wn.f1.f1]) (z 57), sel (l 5) (.pointer (some ⟨g10, 0, none⟩)) (z 58), sel (l 6) (.pointer (some ⟨g10, 0, none⟩)) (z 59), sel (l 7) (.slice (some ⟨pr.1, 0, none⟩) r.length pr.2) (z 60), sel (l 8) (.int .u64 (q : Int)) (z 61), sel (l 9) (.int .u64 (sq : Int)) (z 62), sel (l 10) (.pointer (some ⟨pr.1, sq * 3, none⟩)) (z 63), sel (l 11) (.agg #[.string sn.f0, .int .u64 sn.f1.f0, .int .u64 sn.f1.f1]) (z 64), z 65, z 66, z 67, z 68, z 69, z 70, z 71, z 72, z 73, z 74, z 75, z 76, z 77, z 78, z 79, z 80, z 81, z 82, z 83, z 84, z 85, z 86, z 87, z 88, z 89, y 90, y 91, y 92, y 93, y 94, y 95, y 96, y 97, y 98, y 99, y 100, y 101, y 102, y 103, y 104, y 105, y 106, y 107, y 108, y 109, y 110, y 111, y 112, y 113, y 114, y 115, y 116, y 117, y 118], defers := [] } : Act) ∧ St12 V W wn sn l γ δ) 16 rfl rfl (by kernel_rfl) ?h0 ?hend ?hstep
            case h0 => exact ⟨0, 0, rfl, St12.start V wn sn⟩
            case hstep =>
              refine rg_cons (rg_cons (rg_cons (rg_cons (rg_cons (rg_cons (rg_cons (rg_cons (rg_cons (rg_cons (rg_cons (rg_cons (rg_cons (rg_cons (rg_cons (rg_cons (rg_nil) ?s0) ?s1) ?s2) ?s3) ?s4) ?s5) ?s6) ?s7) ?s8) ?s9) ?s10) ?s11) ?s12) ?s13) ?s14) ?s15
              case s0 =>
                refine rg_step rfl ?_
                rintro l a W ⟨γ, δ, rfl, hI⟩ hl hd
                clear hd
                refine rg_val (v := .slice (some ⟨g7, 0, none⟩) (i + 1) c7) (w' := W) rfl (by go_simp) ?_
                refine ⟨γ, δ, ?_, ?_⟩
                · simp only [Act.put, List.setIfInBounds_toArray, List.set_cons_zero, List.set_cons_succ]; rfl
                · exact hI.same 0 (by decide)
              case s1 =>
                refine rg_step rfl ?_
                rintro l a W ⟨γ, δ, rfl, hI⟩ hl hd
                clear hd
                refine rg_val (v := .pointer (some ⟨g10, 1, none⟩)) (w' := W) rfl (by go_simp) ?_
                refine ⟨γ, δ, ?_, ?_⟩
                · simp only [Act.put, List.setIfInBounds_toArray, List.set_cons_zero, List.set_cons_succ]; rfl
                · exact hI.same 1 (by decide)
              case s2 =>
                refine rg_step rfl ?_
                rintro l a W ⟨γ, δ, rfl, hI⟩ hl hd
                have d1 := hd 1 (by decide)
                clear hd
                have x1 := blk_cell (blk_below H10.out hI.b) 1
                simp at x1
                refine rg_val (v := .int .i64 (i : Int)) (w' := W) rfl (by go_simp) ?_
                refine ⟨γ, δ, ?_, ?_⟩
                · simp only [Act.put, List.setIfInBounds_toArray, List.set_cons_zero, List.set_cons_succ]; rfl
                · exact hI.same 2 (by decide)
              case s3 =>
                refine rg_step rfl ?_
                rintro l a W ⟨γ, δ, rfl, hI⟩ hl hd
                have d0 := hd 0 (by decide)
                have d2 := hd 2 (by decide)
                clear hd
                refine rg_val (v := .pointer (some ⟨g7, i * 3, none⟩)) (w' := W) rfl (by go_simp; try omega) ?_
                refine ⟨γ, δ, ?_, ?_⟩
                · simp only [Act.put, List.setIfInBounds_toArray, List.set_cons_zero, List.set_cons_succ]; rfl
                · exact hI.same 3 (by decide)
              case s4 =>
                refine rg_step rfl ?_
                rintro l a W ⟨γ, δ, rfl, hI⟩ hl hd
                have d3 := hd 3 (by decide)
                clear hd
                have x0 := pw_cell_below hI.b EW.out.1
                have x1 := pw_cell_below hI.b EW.out.2.1
                have x2 := pw_cell_below hI.b EW.out.2.2
                refine rg_val (v := .agg #[.string wn.f0, .int .u64 wn.f1.f0, .int .u64 wn.f1.f1]) (w' := W) rfl (by go_simp) ?_
                refine ⟨γ, δ, ?_, ?_⟩
                · simp only [Act.put, List.setIfInBounds_toArray, List.set_cons_zero, List.set_cons_succ]; rfl
                · exact hI.same 4 (by decide)
              case s5 =>
                refine rg_step rfl ?_
                rintro l a W ⟨γ, δ, rfl, hI⟩ hl hd
                clear hd
                refine rg_val (v := .pointer (some ⟨g10, 0, none⟩)) (w' := W) rfl (by go_simp) ?_
                refine ⟨γ, δ, ?_, ?_⟩
                · simp only [Act.put, List.setIfInBounds_toArray, List.set_cons_zero, List.set_cons_succ]; rfl
                · exact hI.same 5 (by decide)
              case s6 =>
                refine rg_step rfl ?_
                rintro l a W ⟨γ, δ, rfl, hI⟩ hl hd
                have d5 := hd 5 (by decide)
                clear hd
                refine rg_val (v := .pointer (some ⟨g10, 0, none⟩)) (w' := W) rfl (by go_simp) ?_
                refine ⟨γ, δ, ?_, ?_⟩
                · simp only [Act.put, List.setIfInBounds_toArray, List.set_cons_zero, List.set_cons_succ]; rfl
                · exact hI.same 6 (by decide)
              case s7 =>
                refine rg_step rfl ?_
                rintro l a W ⟨γ, δ, rfl, hI⟩ hl hd
                have d6 := hd 6 (by decide)
                clear hd
                have x0 := blk_cell (blk_below H10.out hI.b) 0
                simp at x0
                refine rg_val (v := .slice (some ⟨pr.1, 0, none⟩) r.length pr.2) (w' := W) rfl (by go_simp) ?_
                refine ⟨γ, δ, ?_, ?_⟩
                · simp only [Act.put, List.setIfInBounds_toArray, List.set_cons_zero, List.set_cons_succ]; rfl
                · exact hI.same 7 (by decide)
              case s8 =>
                refine rg_step rfl ?_
                rintro l a W ⟨γ, δ, rfl, hI⟩ hl hd
                clear hd
                refine rg_val (v := .int .u64 (q : Int)) (w' := W) rfl (by go_simp) ?_
                refine ⟨γ, δ, ?_, ?_⟩
                · simp only [Act.put, List.setIfInBounds_toArray, List.set_cons_zero, List.set_cons_succ]; rfl
                · exact hI.same 8 (by decide)
              case s9 =>
                refine rg_step rfl ?_
                rintro l a W ⟨γ, δ, rfl, hI⟩ hl hd
                have d8 := hd 8 (by decide)
                clear hd
                have hxx := HXX.out
                refine rg_val (v := .int .u64 (sq : Int)) (w' := W) rfl (by go_simp) ?_
                refine ⟨γ, δ, ?_, ?_⟩
                · simp only [Act.put, List.setIfInBounds_toArray, List.set_cons_zero, List.set_cons_succ]; rfl
                · exact hI.same 9 (by decide)
              case s10 =>
                refine rg_step rfl ?_
                rintro l a W ⟨γ, δ, rfl, hI⟩ hl hd
                have d7 := hd 7 (by decide)
                have d9 := hd 9 (by decide)
                clear hd
                have hsq := HSQ.out
                refine rg_val (v := .pointer (some ⟨pr.1, sq * 3, none⟩)) (w' := W) rfl (by go_simp; try omega) ?_
                refine ⟨γ, δ, ?_, ?_⟩
                · simp only [Act.put, List.setIfInBounds_toArray, List.set_cons_zero, List.set_cons_succ]; rfl
                · exact hI.same 10 (by decide)
              case s11 =>
                refine rg_step rfl ?_
                rintro l a W ⟨γ, δ, rfl, hI⟩ hl hd
                have d10 := hd 10 (by decide)
                clear hd
                have x0 := pw_cell_below hI.b ES.out.1
                have x1 := pw_cell_below hI.b ES.out.2.1
                have x2 := pw_cell_below hI.b ES.out.2.2
                refine rg_val (v := .agg #[.string sn.f0, .int .u64 sn.f1.f0, .int .u64 sn.f1.f1]) (w' := W) rfl (by go_simp) ?_
                refine ⟨γ, δ, ?_, ?_⟩
                · simp only [Act.put, List.setIfInBounds_toArray, List.set_cons_zero, List.set_cons_succ]; rfl
                · exact hI.same 11 (by decide)
              case s12 =>
                refine rg_step rfl ?_
                rintro l a W ⟨γ, δ, rfl, hI⟩ hl hd
                clear hd
                have hs : l 14 = false := hI.no12 hl
                have hs' : upd l 12 14 = false := hs
                refine rg_val (v := .pointer (some ⟨W.heap.size, 0, none⟩)) (w' := W.alloc (.cells #[.string ⟨#[]⟩, .int .u64 0, .int .u64 0] 46)) rfl (by go_simp) ?_
                refine ⟨W.heap.size, δ, ?_, ?_⟩
                · simp only [Act.put, List.setIfInBounds_toArray, List.set_cons_zero, List.set_cons_succ]; rfl
                · exact hI.made12 hl
              case s13 =>
                refine rg_step rfl ?_
                rintro l a W ⟨γ, δ, rfl, hI⟩ hl hd
                clear hd
                have hs : l 15 = false := hI.no13 hl
                have hs' : upd l 13 15 = false := hs
                refine rg_val (v := .pointer (some ⟨W.heap.size, 0, none⟩)) (w' := W.alloc (.cells #[.string ⟨#[]⟩, .int .u64 0, .int .u64 0] 46)) rfl (by go_simp) ?_
                refine ⟨γ, W.heap.size, ?_, ?_⟩
                · simp only [Act.put, List.setIfInBounds_toArray, List.set_cons_zero, List.set_cons_succ]; rfl
                · exact hI.made13 hl
              case s14 =>
                refine rg_step rfl ?_
                rintro l a W ⟨γ, δ, rfl, hI⟩ hl hd
                have d4 := hd 4 (by decide)
                have d12 := hd 12 (by decide)
                clear hd
                have hz := hI.h12 d12
                rw [if_neg (by rw [hl]; decide)] at hz
                have z0 := blk_cell hz.2 0
                have z1 := blk_cell hz.2 1
                have z2 := blk_cell hz.2 2
                have zf := fun i => blk_frozen hz.2 i
                simp at z0 z1 z2
                refine rg_skip rfl (by go_simp; rfl) ?_
                refine ⟨γ, δ, ?_, ?_⟩
                · simp only [Act.put, List.setIfInBounds_toArray, List.set_cons_zero, List.set_cons_succ]; rfl
                · exact hI.stored14 hl d12
              case s15 =>
                refine rg_step rfl ?_
                rintro l a W ⟨γ, δ, rfl, hI⟩ hl hd
                have d11 := hd 11 (by decide)
                have d13 := hd 13 (by decide)
                clear hd
                have hz := hI.h13 d13
                rw [if_neg (by rw [hl]; decide)] at hz
                have z0 := blk_cell hz.2 0
                have z1 := blk_cell hz.2 1
                have z2 := blk_cell hz.2 2
                have zf := fun i => blk_frozen hz.2 i
                simp at z0 z1 z2
                refine rg_skip rfl (by go_simp; rfl) ?_
                refine ⟨γ, δ, ?_, ?_⟩
                · simp only [Act.put, List.setIfInBounds_toArray, List.set_cons_zero, List.set_cons_succ]; rfl
                · exact hI.stored15 hl d13
            case hend =>
              rintro l a W ⟨γ, δ, rfl, hI⟩ hall
              have e0 := hall 0 (by decide)
              have e1 := hall 1 (by decide)
              have e2 := hall 2 (by decide)
              have e3 := hall 3 (by decide)
              have e4 := hall 4 (by decide)
              have e5 := hall 5 (by decide)
              have e6 := hall 6 (by decide)
              have e7 := hall 7 (by decide)
              have e8 := hall 8 (by decide)
              have e9 := hall 9 (by decide)
              have e10 := hall 10 (by decide)
              have e11 := hall 11 (by decide)
              have e12 := hall 12 (by decide)
              have e13 := hall 13 (by decide)
              have e14 := hall 14 (by decide)
              have e15 := hall 15 (by decide)
              clear hall
              have hn := hI.done e12 e13 e14 e15
              have hB := hI.b
              simp only [e0, e1, e2, e3, e4, e5, e6, e7, e8, e9, e10, e11, e12, e13, e14, e15, sel_true]
              clear e0 e1 e2 e3 e4 e5 e6 e7 e8 e9 e10 e11 e12 e13 e14 e15
              clear hI
              obtain ⟨⟨hgs, hG⟩, ⟨hds, hD⟩, hne⟩ := hn
              have HB12 := aM' hB
              have HGG := aM' (And.intro hgs hG)
              have HDD := aM' (And.intro hds hD)
              have HNE := aM' hne
              clear hB hgs hG hds hD hne
              obtain ⟨o, ho⟩ : ∃ o, o = q % 2 := ⟨_, rfl⟩
              have hod : Go.bits .and .u64 (q : Int) 1 = (o : Int) := by rw [ho]; exact bits_odd q (by rw [HI.out.2]; exact Nat.lt_of_le_of_lt (Nat.div_le_self _ _) HP.out)
              obtain ⟨bo, hbo⟩ : ∃ b : Bool, ((o : Int) == 1) = b := ⟨_, rfl⟩
              have HBO := aM' (show bo = decide (q % 2 = 1) by
                rw [← hbo, ← ho, Bool.eq_iff_iff, beq_iff_eq, decide_eq_true_iff]; omega)
              obtain ⟨Ln, hLn⟩ : ∃ n, n = if bo = true then sn else wn := ⟨_, rfl⟩
              obtain ⟨Rn, hRn⟩ : ∃ n, n = if bo = true then wn else sn := ⟨_, rfl⟩
              have HLN := aM' hLn
              have HRN := aM' hRn
              clear hLn hRn ho
              go_upto_region 13 with (fail)
              refine wp_forget (fun z => ({ tmps := List.toArray (.pointer (some ⟨ta, 0, none⟩) :: .int .u64 (p : Int) :: leafV x :: y 3 :: y 4 :: .pointer (some ⟨w.heap.size, 0, none⟩) :: z 6 :: .slice (some ⟨g7, 0, none⟩) (i + 1) c7 :: .int .u64 (q : Int) :: y 9 :: .pointer (some ⟨g10, 0, none⟩) :: .pointer (some ⟨γ, 0, none⟩) :: .pointer (some ⟨δ, 0, none⟩) :: z 13 :: z 14 :: y 15 :: y 16 :: y 17 :: y 18 :: y 19 :: y 20 :: y 21 :: y 22 :: y 23 :: y 24 :: y 25 :: y 26 :: y 27 :: y 28 :: y 29 :: y 30 :: y 31 :: y 32 :: y 33 :: y 34 :: y 35 :: y 36 :: y 37 :: y 38 :: y 39 :: y 40 :: y 41 :: y 42 :: y 43 :: y 44 :: y 45 :: y 46 :: .slice (some ⟨gv, 0, none⟩) K cv :: .int .i64 (K : Int) :: .int .i64 (i : Int) :: z 50 :: z 51 :: z 52 :: z 53 :: z 54 :: z 55 :: z 56 :: z 57 :: z 58 :: z 59 :: z 60 :: z 61 :: z 62 :: z 63 :: z 64 :: z 65 :: z 66 :: z 67 :: z 68 :: z 69 :: z 70 :: z 71 :: z 72 :: z 73 :: z 74 :: z 75 :: z 76 :: z 77 :: z 78 :: z 79 :: z 80 :: z 81 :: z 82 :: z 83 :: z 84 :: z 85 :: z 86 :: z 87 :: z 88 :: z 89 :: y 90 :: y 91 :: y 92 :: y 93 :: y 94 :: y 95 :: y 96 :: y 97 :: y 98 :: y 99 :: y 100 :: y 101 :: y 102 :: y 103 :: y 104 :: y 105 :: y 106 :: y 107 :: y 108 :: y 109 :: y 110 :: y 111 :: y 112 :: y 113 :: y 114 :: y 115 :: y 116 :: y 117 :: y 118 :: []), defers := [] } : Act)) rfl ?_
              intro z
              go_upto_if 67 with (fail)
              clear hod hbo
              go_cut [] (fun wc => Aside0 (Below V.heap.size V wc ∧ wc.heap[γ]? = some (.cells (nodeA Ln) 46 (0, 0)) ∧ wc.heap[δ]? = some (.cells (nodeA Rn) 46 (0, 0))))
              case first =>
                cases bo with
                | false =>
                  go_wp2
                  go_meet
                  exact ⟨⟨HB12.out, by rw [HLN.out]; exact HGG.out.2, by rw [HRN.out]; exact HDD.out.2⟩⟩
                | true =>
                  have p0 := blk_cell HGG.out.2 0
                  have p1 := blk_cell HGG.out.2 1
                  have p2 := blk_cell HGG.out.2 2
                  have pf := fun i => blk_frozen HGG.out.2 i
                  have s0 := blk_cell HDD.out.2 0
                  have s1 := blk_cell HDD.out.2 1
                  have s2 := blk_cell HDD.out.2 2
                  have sf := fun i => blk_frozen HDD.out.2 i
                  simp at p0 p1 p2 s0 s1 s2
                  have hne := HNE.out
                  have hne2 := Ne.symm hne
                  go_wp2
                  go_meet
                  refine ⟨⟨below_set (below_set (below_set (below_set (below_set (below_set HB12.out HGG.out.1) HGG.out.1) HGG.out.1) HDD.out.1) HDD.out.1) HDD.out.1, ?_, ?_⟩⟩
                  · rw [HLN.out, if_pos (by trivial)]
                    exact blk_far (blk_far (blk_far (blk_put (blk_put (blk_put HGG.out.2 0 _ rfl) 1 _ rfl) 2 _ rfl) (by exact hne) _) (by exact hne) _) (by exact hne) _
                  · rw [HRN.out, if_pos (by trivial)]
                    exact blk_put (blk_put (blk_put (blk_far (blk_far (blk_far HDD.out.2 (by exact hne2) _) (by exact hne2) _) (by exact hne2) _) 0 _ rfl) 1 _ rfl) 2 _ rfl
              case rest =>
                have HC : Aside0 (Below V.heap.size V wc ∧ wc.heap[γ]? = some (.cells (nodeA Ln) 46 (0, 0)) ∧ wc.heap[δ]? = some (.cells (nodeA Rn) 46 (0, 0))) := hcut
                clear hcut
                have HSC := aM' (HS10.out.below HC.out.1)
                have HAC := aM' (show wc.heap[ta]? = some (.cells #[.int .i64 wd, .slice (some ⟨gl, 0, none⟩) ls.length cl, .slice (some ⟨gv, 0, none⟩) (K + 1) cv] 105 (0, 0)) from HSC.out.t.ht)
                have hKL : NodeK wd Ln := by rw [HLN.out]; split
                                             · exact HSN.out
                                             · exact HWN.out
                have hKR : NodeK wd Rn := by rw [HRN.out]; split
                                             · exact HWN.out
                                             · exact HSN.out
                have hW1 : wayV wd (ls.map (leafNodeI wd)) p (leafNodeI wd x) (i + 1) = joinV wd Ln Rn := by
                  rw [HW1.out, HLN.out, HRN.out, HBO.out]
                  by_cases h : q % 2 = 1
                  · simp [h]
                  · simp [h]
                obtain ⟨jn, je, hje⟩ : ∃ (jn : SNode) (je : Int), joinI wd Ln Rn = (jn.f0, jn.f1.f0, jn.f1.f1, je) := ⟨⟨_, ⟨_, _⟩⟩, _, rfl⟩
                have HJE : Aside0 ((je = 0 ∧ jn = wayV wd (ls.map (leafNodeI wd)) p (leafNodeI wd x) (i + 1) ∧ NodeK wd jn) ∨ (je = 10 ∧ setI wd ls p x = 10)) := by
                  refine ⟨?_⟩
                  by_cases hroom : valU Ln.f1 + valU Rn.f1 < 340282366920938463463374607431768211456
                  · rw [joinI_room hKL hKR hroom] at hje
                    have e := Prod.mk.inj hje
                    have e2 := Prod.mk.inj e.2
                    have e3 := Prod.mk.inj e2.2
                    have ej : jn = joinV wd Ln Rn := by
                      obtain ⟨a1, b1, c1⟩ := jn
                      show (⟨a1, ⟨b1, c1⟩⟩ : SNode) = ⟨(joinV wd Ln Rn).f0, ⟨(joinV wd Ln Rn).f1.f0, (joinV wd Ln Rn).f1.f1⟩⟩
                      rw [e.1, e2.1, e3.1]
                    exact .inl ⟨e3.2.symm, by rw [hW1, ej], by rw [ej]; exact joinV_k hKL hKR hroom⟩
                  · rw [joinI_full hKL hKR hroom] at hje
                    have e3 := Prod.mk.inj (Prod.mk.inj (Prod.mk.inj hje).2).2
                    refine .inr ⟨e3.2.symm, ?_⟩
                    have h1 := way_le wd (K := K) (by rw [List.length_map]; exact HKL.out) HKK.out.k HKK.out.t (by rw [← HKL.out]; exact HLT.out) (leafNodeI wd x) (i + 1) (by omega)
                    rw [hW1, joinV_val] at h1
                    unfold setI
                    rw [if_neg (show ¬ ls.length ≤ p by have := HLT.out; omega), if_neg (by rw [HML.out]; decide), if_neg (by rw [List.map_set]; omega)]
                obtain ⟨kj, hkj⟩ := (join_ev wd Ln Rn hKL.u hKR.u).rounds
                rw [hje] at hkj
                have HJ := aM' hkj
                clear hkj hje hKL hKR hW1
                go_upto_region 15 with (fail)
                refine wp_forget (fun z => ({ tmps := List.toArray (.pointer (some ⟨ta, 0, none⟩) :: .int .u64 (p : Int) :: leafV x :: y 3 :: y 4 :: .pointer (some ⟨w.heap.size, 0, none⟩) :: z 6 :: .slice (some ⟨g7, 0, none⟩) (i + 1) c7 :: .int .u64 (q : Int) :: y 9 :: .pointer (some ⟨g10, 0, none⟩) :: .pointer (some ⟨γ, 0, none⟩) :: .pointer (some ⟨δ, 0, none⟩) :: z 13 :: z 14 :: y 15 :: y 16 :: y 17 :: y 18 :: y 19 :: y 20 :: y 21 :: y 22 :: y 23 :: y 24 :: y 25 :: y 26 :: y 27 :: y 28 :: y 29 :: y 30 :: y 31 :: y 32 :: y 33 :: y 34 :: y 35 :: y 36 :: y 37 :: y 38 :: y 39 :: y 40 :: y 41 :: y 42 :: y 43 :: y 44 :: y 45 :: y 46 :: .slice (some ⟨gv, 0, none⟩) K cv :: .int .i64 (K : Int) :: .int .i64 (i : Int) :: z 50 :: z 51 :: z 52 :: z 53 :: z 54 :: z 55 :: z 56 :: z 57 :: z 58 :: z 59 :: z 60 :: z 61 :: z 62 :: z 63 :: z 64 :: z 65 :: z 66 :: z 67 :: z 68 :: z 69 :: z 70 :: z 71 :: z 72 :: z 73 :: z 74 :: z 75 :: z 76 :: z 77 :: z 78 :: z 79 :: z 80 :: z 81 :: z 82 :: z 83 :: z 84 :: z 85 :: z 86 :: z 87 :: z 88 :: z 89 :: y 90 :: y 91 :: y 92 :: y 93 :: y 94 :: y 95 :: y 96 :: y 97 :: y 98 :: y 99 :: y 100 :: y 101 :: y 102 :: y 103 :: y 104 :: y 105 :: y 106 :: y 107 :: y 108 :: y 109 :: y 110 :: y 111 :: y 112 :: y 113 :: y 114 :: y 115 :: y 116 :: y 117 :: y 118 :: []), defers := [] } : Act)) rfl ?_
                intro z
                refine region_inv (fun l a W => ∃ ε : Nat, a = ({ tmps := #[.pointer (some ⟨ta, 0, none⟩), .int .u64 (p : Int), leafV x, y 3, y 4, .pointer (some ⟨w.heap.size, 0, none⟩), z 6, .slice (some ⟨g7, 0, none⟩) (i + 1) c7, .int .u64 (q : Int), y 9, .pointer (some ⟨g10, 0, none⟩), .pointer (some ⟨γ, 0, none⟩), .pointer (some ⟨δ, 0, none⟩), sel (l 10) (.pointer (some ⟨ε, 0, none⟩)) (z 13), sel (l 12) (.int .i64 je) (z 14), y 15, y 16, y 17, y 18, y 19, y 20, y 21, y 22, y 23, y 24, y 25, y 26, y 27, y 28, y 29, y 30, y 31, y 32, y 33, y 34, y 35, y 36, y 37, y 38, y 39, y 40, y 41, y 42, y 43, y 44, y 45, y 46, .slice (some ⟨gv, 0, none⟩) K cv, .int .i64 (K : Int), .int .i64 (i : Int), z 50, z 51, z 52, z 53, z 54, z 55, z 56, z 57, z 58, z 59, z 60, z 61, z 62, z 63, z 64, z 65, z 66, z 67, z 68, z 69, sel (l 7) (.tuple #[.agg #[.string jn.f0, .int .u64 jn.f1.f0, .int .u64 jn.f1.f1], .int .i64 je]) (z 70), sel (l 0) (.pointer (some ⟨ta, 0, none⟩)) (z 71), sel (l 1) (.pointer (some ⟨ta, 0, none⟩)) (z 72), sel (l 2) (.pointer (some ⟨ta, 0, none⟩)) (z 73), sel (l 3) (.int .i64 wd) (z 74), sel (l 4) (.agg #[.string Ln.f0, .int .u64 Ln.f1.f0, .int .u64 Ln.f1.f1]) (z 75), sel (l 5) (.agg #[.string Rn.f0, .int .u64 Rn.f1.f0, .int .u64 Rn.f1.f1]) (z 76), sel (l 6) (.tuple #[.agg #[.string jn.f0, .int .u64 jn.f1.f0, .int .u64 jn.f1.f1], .int .i64 je]) (z 77), sel (l 8) (.agg #[.string jn.f0, .int .u64 jn.f1.f0, .int .u64 jn.f1.f1]) (z 78), sel (l 9) (.int .i64 je) (z 79), z 80, z 81, z 82, z 83, z 84, z 85, z 86, z 87, z 88, z 89, y 90, y 91, y 92, y 93, y 94, y 95, y 96, y 97, y 98, y 99, y 100, y 101, y 102, y 103, y 104, y 105, y 106, y 107, y 108, y 109, y 110, y 111, y 112, y 113, y 114, y 115, y 116, y 117, y 118], defers := [] } : Act) ∧ (Below wc.heap.size wc W ∧ (l 10 = true → wc.heap.size ≤ ε ∧ W.heap[ε]? = some (.cells (if l 11 = true then nodeA jn else nodeA nodeZ) 46 (0, 0))) ∧ (l 11 = true → l 10 = true))) 13 rfl rfl (by kernel_rfl) ?h0 ?hend ?hstep
                case h0 => exact ⟨0, rfl, below_drew (Below.refl _ _), (fun h => by cases h), (fun h => by cases h)⟩
                case hstep =>
                  refine rg_cons (rg_cons (rg_cons (rg_cons (rg_cons (rg_cons (rg_cons (rg_cons (rg_cons (rg_cons (rg_cons (rg_cons (rg_cons (rg_nil) ?s0) ?s1) ?s2) ?s3) ?s4) ?s5) ?s6) ?s7) ?s8) ?s9) ?s10) ?s11) ?s12
                  case s0 =>
                    refine rg_step rfl ?_
                    rintro l a W ⟨ε, rfl, hI⟩ hl hd
                    clear hd
                    refine rg_val (v := .pointer (some ⟨ta, 0, none⟩)) (w' := W) rfl (by go_simp) ?_
                    refine ⟨ε, ?_, ?_⟩
                    · simp only [Act.put, List.setIfInBounds_toArray, List.set_cons_zero, List.set_cons_succ]; rfl
                    · exact hI
                  case s1 =>
                    refine rg_step rfl ?_
                    rintro l a W ⟨ε, rfl, hI⟩ hl hd
                    have d0 := hd 0 (by decide)
                    clear hd
                    refine rg_val (v := .pointer (some ⟨ta, 0, none⟩)) (w' := W) rfl (by go_simp) ?_
                    refine ⟨ε, ?_, ?_⟩
                    · simp only [Act.put, List.setIfInBounds_toArray, List.set_cons_zero, List.set_cons_succ]; rfl
                    · exact hI
                  case s2 =>
                    refine rg_step rfl ?_
                    rintro l a W ⟨ε, rfl, hI⟩ hl hd
                    have d1 := hd 1 (by decide)
                    clear hd
                    refine rg_val (v := .pointer (some ⟨ta, 0, none⟩)) (w' := W) rfl (by go_simp) ?_
                    refine ⟨ε, ?_, ?_⟩
                    · simp only [Act.put, List.setIfInBounds_toArray, List.set_cons_zero, List.set_cons_succ]; rfl
                    · exact hI
                  case s3 =>
                    refine rg_step rfl ?_
                    rintro l a W ⟨ε, rfl, hI⟩ hl hd
                    have d2 := hd 2 (by decide)
                    clear hd
                    have x0 := blk_cell (blk_below HAC.out hI.1) 0
                    simp at x0
                    refine rg_val (v := .int .i64 wd) (w' := W) rfl (by go_simp) ?_
                    refine ⟨ε, ?_, ?_⟩
                    · simp only [Act.put, List.setIfInBounds_toArray, List.set_cons_zero, List.set_cons_succ]; rfl
                    · exact hI
                  case s4 =>
                    refine rg_step rfl ?_
                    rintro l a W ⟨ε, rfl, hI⟩ hl hd
                    clear hd
                    have x0 := blk_cell (blk_below HC.out.2.1 hI.1) 0
                    have x1 := blk_cell (blk_below HC.out.2.1 hI.1) 1
                    have x2 := blk_cell (blk_below HC.out.2.1 hI.1) 2
                    simp at x0 x1 x2
                    refine rg_val (v := .agg #[.string Ln.f0, .int .u64 Ln.f1.f0, .int .u64 Ln.f1.f1]) (w' := W) rfl (by go_simp) ?_
                    refine ⟨ε, ?_, ?_⟩
                    · simp only [Act.put, List.setIfInBounds_toArray, List.set_cons_zero, List.set_cons_succ]; rfl
                    · exact hI
                  case s5 =>
                    refine rg_step rfl ?_
                    rintro l a W ⟨ε, rfl, hI⟩ hl hd
                    clear hd
                    have x0 := blk_cell (blk_below HC.out.2.2 hI.1) 0
                    have x1 := blk_cell (blk_below HC.out.2.2 hI.1) 1
                    have x2 := blk_cell (blk_below HC.out.2.2 hI.1) 2
                    simp at x0 x1 x2
                    refine rg_val (v := .agg #[.string Rn.f0, .int .u64 Rn.f1.f0, .int .u64 Rn.f1.f1]) (w' := W) rfl (by go_simp) ?_
                    refine ⟨ε, ?_, ?_⟩
                    · simp only [Act.put, List.setIfInBounds_toArray, List.set_cons_zero, List.set_cons_succ]; rfl
                    · exact hI
                  case s6 =>
                    refine rg_step rfl ?_
                    rintro l a W ⟨ε, rfl, hI⟩ hl hd
                    have d3 := hd 3 (by decide)
                    have d4 := hd 4 (by decide)
                    have d5 := hd 5 (by decide)
                    clear hd
                    refine rg_call rfl (by go_simp; exact ⟨rfl, rfl⟩) ?_
                    refine (node_Join.calls kj wd Ln.f0 Ln.f1.f0 Ln.f1.f1 Rn.f0 Rn.f1.f0 Rn.f1.f1 jn.f0 jn.f1.f0 jn.f1.f1 je W (HK.out.below (HSC.out.b.trans (hI.1.mono HSC.out.b.size))).1 HJ.out).mono ?_
                    rintro ee W' ⟨rfl, hb⟩
                    refine ⟨_, rfl, ε, ?_, ?_⟩
                    · simp only [Act.put, List.setIfInBounds_toArray, List.set_cons_zero, List.set_cons_succ]; rfl
                    · exact ⟨hI.1.trans (hb.mono hI.1.size), fun h => ⟨(hI.2.1 h).1, blk_below (hI.2.1 h).2 hb⟩, hI.2.2⟩
                  case s7 =>
                    refine rg_step rfl ?_
                    rintro l a W ⟨ε, rfl, hI⟩ hl hd
                    have d6 := hd 6 (by decide)
                    clear hd
                    refine rg_val (v := .tuple #[.agg #[.string jn.f0, .int .u64 jn.f1.f0, .int .u64 jn.f1.f1], .int .i64 je]) (w' := W) rfl (by go_simp) ?_
                    refine ⟨ε, ?_, ?_⟩
                    · simp only [Act.put, List.setIfInBounds_toArray, List.set_cons_zero, List.set_cons_succ]; rfl
                    · exact hI
                  case s8 =>
                    refine rg_step rfl ?_
                    rintro l a W ⟨ε, rfl, hI⟩ hl hd
                    have d7 := hd 7 (by decide)
                    clear hd
                    refine rg_val (v := .agg #[.string jn.f0, .int .u64 jn.f1.f0, .int .u64 jn.f1.f1]) (w' := W) rfl (by go_simp) ?_
                    refine ⟨ε, ?_, ?_⟩
                    · simp only [Act.put, List.setIfInBounds_toArray, List.set_cons_zero, List.set_cons_succ]; rfl
                    · exact hI
                  case s9 =>
                    refine rg_step rfl ?_
                    rintro l a W ⟨ε, rfl, hI⟩ hl hd
                    have d7 := hd 7 (by decide)
                    clear hd
                    refine rg_val (v := .int .i64 je) (w' := W) rfl (by go_simp) ?_
                    refine ⟨ε, ?_, ?_⟩
                    · simp only [Act.put, List.setIfInBounds_toArray, List.set_cons_zero, List.set_cons_succ]; rfl
                    · exact hI
                  case s10 =>
                    refine rg_step rfl ?_
                    rintro l a W ⟨ε, rfl, hI⟩ hl hd
                    clear hd
                    have h11 : l 11 = false := by
                      cases hx : l 11 with
                      | false => rfl
                      | true => have := hI.2.2 hx; rw [hl] at this; cases this
                    refine rg_val (v := .pointer (some ⟨W.heap.size, 0, none⟩)) (w' := W.alloc (.cells #[.string ⟨#[]⟩, .int .u64 0, .int .u64 0] 46)) rfl (by go_simp) ?_
                    refine ⟨W.heap.size, ?_, ?_⟩
                    · simp only [Act.put, List.setIfInBounds_toArray, List.set_cons_zero, List.set_cons_succ]; rfl
                    · exact ⟨below_alloc hI.1 _, fun _ => ⟨hI.1.size, by rw [if_neg (show ¬ upd l 10 11 = true from by rw [show upd l 10 11 = l 11 from rfl, h11]; decide)]; exact blk_new W _⟩, fun _ => rfl⟩
                  case s11 =>
                    refine rg_step rfl ?_
                    rintro l a W ⟨ε, rfl, hI⟩ hl hd
                    have d8 := hd 8 (by decide)
                    have d10 := hd 10 (by decide)
                    clear hd
                    have hz := hI.2.1 d10
                    rw [if_neg (by rw [hl]; decide)] at hz
                    have z0 := blk_cell hz.2 0
                    have z1 := blk_cell hz.2 1
                    have z2 := blk_cell hz.2 2
                    have zf := fun i => blk_frozen hz.2 i
                    simp at z0 z1 z2
                    refine rg_skip rfl (by go_simp; rfl) ?_
                    refine ⟨ε, ?_, ?_⟩
                    · simp only [Act.put, List.setIfInBounds_toArray, List.set_cons_zero, List.set_cons_succ]; rfl
                    · exact ⟨below_set (below_set (below_set hI.1 hz.1) hz.1) hz.1, fun _ => ⟨hz.1, by rw [if_pos (show upd l 11 11 = true from rfl)]; exact blk_put (blk_put (blk_put hz.2 0 _ rfl) 1 _ rfl) 2 _ rfl⟩, fun _ => d10⟩
                  case s12 =>
                    refine rg_step rfl ?_
                    rintro l a W ⟨ε, rfl, hI⟩ hl hd
                    have d9 := hd 9 (by decide)
                    clear hd
                    refine rg_val (v := .int .i64 je) (w' := W) rfl (by go_simp) ?_
                    refine ⟨ε, ?_, ?_⟩
                    · simp only [Act.put, List.setIfInBounds_toArray, List.set_cons_zero, List.set_cons_succ]; rfl
                    · exact hI
                case hend =>
                  rintro l a W ⟨ε, rfl, hI⟩ hall
                  have e0 := hall 0 (by decide)
                  have e1 := hall 1 (by decide)
                  have e2 := hall 2 (by decide)
                  have e3 := hall 3 (by decide)
                  have e4 := hall 4 (by decide)
                  have e5 := hall 5 (by decide)
                  have e6 := hall 6 (by decide)
                  have e7 := hall 7 (by decide)
                  have e8 := hall 8 (by decide)
                  have e9 := hall 9 (by decide)
                  have e10 := hall 10 (by decide)
                  have e11 := hall 11 (by decide)
                  have e12 := hall 12 (by decide)
                  clear hall
                  have hn := hI.2.1 e10
                  rw [if_pos e11] at hn
                  have hB := hI.1
                  simp only [e0, e1, e2, e3, e4, e5, e6, e7, e8, e9, e10, e11, e12, sel_true]
                  clear e0 e1 e2 e3 e4 e5 e6 e7 e8 e9 e10 e11 e12
                  clear hI
                  have HS15 := aM' (HSC.out.below hB)
                  have HE := aM' hn.2
                  clear hn hB
                  rcases HJE.out with ⟨rfl, hj, hjk⟩ | ⟨rfl, hs10⟩
                  · have q0 := blk_cell HE.out 0
                    have q1 := blk_cell HE.out 1
                    have q2 := blk_cell HE.out 2
                    simp at q0 q1 q2
                    have HNX := aM' (And.intro hj hjk)
                    clear hj hjk
                    go_wp2_with (at_builtin; refine wpList_append_own _ rfl _ _ 43 rfl (w.heap.size + 1) 46 i0 (.agg #[(.string ⟨#[]⟩), (.int .u64 0), (.int .u64 0)]) 3 32 Tryd.underlying43 hi hz0 hz1 hz2 rfl (by decide) (.slice (some ⟨g7, 0, none⟩) (i + 1) c7) (i + 1) _ rfl (ownB HS15.out.o (below_alloc (Below.refl _ _) (.cells (nodeA jn) 46))) ⟨W.heap.size, 0, none⟩ 1 1 [.string jn.f0, .int .u64 jn.f1.f0, .int .u64 jn.f1.f1] rfl rfl ?c2 ?c3 ?c4 ?c5 ?c6 ?_)
                    case c3 => exact ⟨rfl, rfl, rfl⟩
                    case c4 => unfold maxLen; omega
                    case c5 => omega
                    case c6 => have := HS15.out.b.size; omega
                    intro v' w' hown hgr hnil
                    have HS' := aM' (StL.next (HS15.out.below (below_alloc (Below.refl _ _) (.cells (nodeA jn) 46))) HT.out hgr hown HNX.out.1 HNX.out.2)
                    clear hown hgr hnil q0 q1 q2
                    go_wp2
                    go_roundw
                    case rel => exact ⟨i + 1, q / 2, by go_num, by go_num, ⟨⟨by omega, by rw [HI.out.2, Nat.pow_succ, Nat.div_div_eq_div_mul]⟩⟩, HS'⟩
                    case measure => simp [intOf]; omega
                  · have HER := aM' hs10
                    have HBE := aM' HS15.out.b
                    clear hs10
                    go_wp2
                    go_ret
                    exact SetPost.err HER.out (by decide) HT.out HBE.out
          · obtain rfl : i = K := by have := HI.out.1; omega
            have b1 : decide ((i : Int) < (i : Int)) = false := decide_eq_false (by omega)
            have b2 : decide (i < i) = false := decide_eq_false (by omega)
            have HS0 := aM' (StL.zero HS.out HT.out HKL.out HKK.out HLT.out HX.out HML.out)
            obtain ⟨cs, hcs, hcz⟩ := ownBlk HS.out.t.hl
            have hcz2 : p * 5 + 4 < cs.size := by have := HLT.out; have : ls.length * 5 ≤ cs.size := hcz; omega
            have c0 := blk_cell hcs (p * 5)
            have c1 := blk_cell hcs (p * 5 + 1)
            have c2 := blk_cell hcs (p * 5 + 2)
            have c3 := blk_cell hcs (p * 5 + 3)
            have c4 := blk_cell hcs (p * 5 + 4)
            have cf := fun i => blk_frozen hcs i
            rw [Array.getElem?_eq_getElem (by omega)] at c0 c1 c2 c3 c4
            generalize cs[p * 5]'_ = v0 at c0
            generalize cs[p * 5 + 1]'_ = v1 at c1
            generalize cs[p * 5 + 2]'_ = v2 at c2
            generalize cs[p * 5 + 3]'_ = v3 at c3
            generalize cs[p * 5 + 4]'_ = v4 at c4
            have x0 := blk_cell HS.out.l 0
            have x1 := blk_cell HS.out.l 1
            have x2 := blk_cell HS.out.l 2
            have x3 := blk_cell HS.out.l 3
            have x4 := blk_cell HS.out.l 4
            simp at x0 x1 x2 x3 x4
            have t1 : wr.cell? ⟨ta, 1, none⟩ = some (.slice (some ⟨gl, 0, none⟩) ls.length cl) := blk_cell HS.out.t.ht 1
            have hpl : (p : Int) < (ls.length : Int) := by have := HLT.out; omega
            have HP2 := aM' (StP.start HS.out HT.out HLT.out)
            clear hcs hcz hcz2
            go_upto_region 21 with (fail)
            clear b1 b2
            go_still_tail 7, (by kernel_rfl)
            change wpList _ _ _ _ _ wr.drew
            clear x0 x1 x2 x3 x4 t1
            go_upto_region 22 with (fail)
            obtain ⟨V2, hV2⟩ : ∃ V2, V2 = (((((wr.setCell ⟨gl, p * 5, none⟩ (.bool x.f0)).setCell ⟨gl, p * 5 + 1, none⟩ (.string x.f1)).setCell ⟨gl, p * 5 + 2, none⟩ (.string x.f2)).setCell ⟨gl, p * 5 + 3, none⟩ (.int .u64 x.f3.f0)).setCell ⟨gl, p * 5 + 4, none⟩ (.int .u64 x.f3.f1)).drew := ⟨_, rfl⟩
            rw [← hV2] at HP2
            rw [← hV2]
            have HWK := aM' HS.out.k
            have HRL2 := aM' (show (treeT wd (ls.set p x)).rows.length = i + 1 by
              have h : (treeT wd (ls.set p x)).rows = levelsV wd (ls.set p x).length.log2 ((ls.set p x).map (leafNodeI wd)) := rfl
              have h2 := HRL.out
              have h3 : (treeT wd ls).rows = levelsV wd ls.length.log2 (ls.map (leafNodeI wd)) := rfl
              rw [h3, levelsV_len] at h2
              rw [h, levelsV_len, List.length_set]; exact h2)
            clear hV2 c0 c1 c2 c3 c4 cf hpl HS
            refine wp_forget (fun y => ({ tmps := List.toArray (.pointer (some ⟨ta, 0, none⟩) :: .int .u64 (p : Int) :: leafV x :: y 3 :: y 4 :: .pointer (some ⟨w.heap.size, 0, none⟩) :: y 6 :: .slice (some ⟨g7, 0, none⟩) (i + 1) c7 :: y 8 :: y 9 :: y 10 :: y 11 :: y 12 :: y 13 :: y 14 :: y 15 :: y 16 :: y 17 :: y 18 :: y 19 :: y 20 :: y 21 :: y 22 :: y 23 :: y 24 :: y 25 :: y 26 :: y 27 :: y 28 :: y 29 :: y 30 :: y 31 :: y 32 :: y 33 :: y 34 :: y 35 :: y 36 :: y 37 :: y 38 :: y 39 :: y 40 :: y 41 :: y 42 :: y 43 :: y 44 :: y 45 :: y 46 :: y 47 :: y 48 :: y 49 :: y 50 :: y 51 :: y 52 :: y 53 :: y 54 :: y 55 :: y 56 :: y 57 :: y 58 :: y 59 :: y 60 :: y 61 :: y 62 :: y 63 :: y 64 :: y 65 :: y 66 :: y 67 :: y 68 :: y 69 :: y 70 :: y 71 :: y 72 :: y 73 :: y 74 :: y 75 :: y 76 :: y 77 :: y 78 :: y 79 :: y 80 :: y 81 :: y 82 :: y 83 :: y 84 :: y 85 :: y 86 :: y 87 :: y 88 :: y 89 :: y 90 :: y 91 :: y 92 :: y 93 :: y 94 :: y 95 :: y 96 :: y 97 :: y 98 :: y 99 :: y 100 :: y 101 :: y 102 :: y 103 :: y 104 :: y 105 :: y 106 :: y 107 :: y 108 :: y 109 :: y 110 :: y 111 :: y 112 :: y 113 :: y 114 :: y 115 :: y 116 :: y 117 :: y 118 :: []), defers := [] } : Act)) rfl ?_
            intro y
            go_wp2
            go_loopw [99] (fun v99 wr => ∃ j : Nat, v99 = .int .i64 (j : Int) ∧ Aside0 (j ≤ i + 1) ∧ Aside0 (StP base ta gl cl (.slice (some ⟨gv, 0, none⟩) (i + 1) cv) gs wd ls p x w i (.slice (some ⟨g7, 0, none⟩) (i + 1) c7) j wr)) (fun v99 _ => i + 1 - (intOf v99).toNat)
            case atStart => exact ⟨0, rfl, ⟨Nat.zero_le _⟩, HP2⟩
            case round =>
              obtain ⟨j, rfl, HJ, HPJ⟩ := hrel
              by_cases hlt : j < i + 1
              · have b1 : decide ((j : Int) < ((i + 1 : Nat) : Int)) = true := decide_eq_true (by omega)
                have b2 : decide (j < i + 1) = true := decide_eq_true hlt
                have hrow : (rowsM wd ls p x j)[j]? = some (upV wd j (ls.map (leafNodeI wd))) := by
                  rw [rowsM_get HRL.out HRL2.out hlt]
                  exact levelsV_get wd _ j _ (by have := HRL.out; have h : (treeT wd ls).rows = levelsV wd ls.length.log2 (ls.map (leafNodeI wd)) := rfl; rw [h, levelsV_len] at this; omega)
                have b3 : decide ((j : Int) < (i : Int) + 1) = true := decide_eq_true (by omega)
                obtain ⟨pr, hpr, l0, l1, hrc, hrd, hpm, cs, hpb, hpc⟩ := TreeOwn.level (T := ⟨wd, ls.set p x, rowsM wd ls p x j⟩) (cv := cv) (by rw [rowsM_len HRL.out HRL2.out (by omega)]; exact HPJ.out.t) hrow
                have hq0 := div_lt (by rw [← HKL.out]; exact HLT.out) (show j ≤ i by omega)
                have hrl : (upV wd j (ls.map (leafNodeI wd))).length = 2 ^ (i - j) := upV_len2 (by rw [List.length_map]; exact HKL.out) j (by omega)
                obtain ⟨s, hs⟩ : ∃ s, s = p / 2 ^ j := ⟨_, rfl⟩
                have hsl : s < (upV wd j (ls.map (leafNodeI wd))).length := by rw [hs, hrl]; exact hq0
                obtain ⟨wn, hwn⟩ : ∃ n, n = wayV wd (ls.map (leafNodeI wd)) p (leafNodeI wd x) j := ⟨_, rfl⟩
                have hset : (treeT wd (ls.set p x)).rows[j]? = some ((upV wd j (ls.map (leafNodeI wd))).set s wn) := by
                  have h : (treeT wd (ls.set p x)).rows = levelsV wd (ls.set p x).length.log2 ((ls.set p x).map (leafNodeI wd)) := rfl
                  have h2 := HRL2.out
                  rw [h, levelsV_len] at h2
                  rw [h, List.map_set, show (ls.set p x).length.log2 = i by omega, hs, hwn]
                  exact levelsV_set wd (by rw [List.length_map]; exact HKL.out) (by rw [← HKL.out]; exact HLT.out) _ j (by omega)
                have hwr : (waysL wd ls p x (i + 1))[j]? = some wn := by
                  unfold waysL
                  rw [List.getElem?_map, List.getElem?_range (by omega), hwn]; rfl
                have hsh : (p : Int) / 2 ^ j = (s : Int) := by rw [hs]; simp
                obtain ⟨r, hr⟩ : ∃ r, r = upV wd j (ls.map (leafNodeI wd)) := ⟨_, rfl⟩
                rw [← hr] at hrow l0 hrc hrd hpc hsl hset
                have hcs := HPJ.out.o.cells (g := g7) rfl
                have ea : ∀ n, (⟨g7, 0, none⟩ : Addr).add n = ⟨g7, n, none⟩ := fun n => by unfold Addr.add; split <;> simp_all
                have w0 := cellsN_get _ j 0 wn hwr (by decide)
                have w1' := cellsN_get _ j 1 wn hwr (by decide)
                have w2' := cellsN_get _ j 2 wn hwr (by decide)
                have W0 := hcs _ _ w0
                have W1 := hcs _ _ w1'
                have W2' := hcs _ _ w2'
                rw [ea] at W0 W1 W2'
                have d0 : wr.cell? ⟨g7, j * 3, none⟩ = some (.string wn.f0) := W0
                have d1 : wr.cell? ⟨g7, j * 3 + 1, none⟩ = some (.int .u64 wn.f1.f0) := W1
                have d2 : wr.cell? ⟨g7, j * 3 + 2, none⟩ = some (.int .u64 wn.f1.f1) := W2'
                obtain ⟨W3, hW3⟩ : ∃ V, V = wr.alloc (.cells #[.string wn.f0, .int .u64 wn.f1.f0, .int .u64 wn.f1.f1] 46) := ⟨_, rfl⟩
                have hb3 : Below wr.heap.size wr W3 := by rw [hW3]; exact below_alloc (Below.refl _ _) _
                have z := hW3 ▸ blk_new wr (.cells #[.string wn.f0, .int .u64 wn.f1.f0, .int .u64 wn.f1.f1] 46)
                obtain ⟨g16, hg16⟩ : ∃ g, g = wr.heap.size := ⟨_, rfl⟩
                rw [← hg16] at z
                have HNEW := aM' ((HPJ.out.below hb3).put HT.out HRL.out HRL2.out hlt hpr hrow hsl hset)
                have hpb3 := blk_below hpb hb3
                have hsz : s * 3 + 2 < cs.size := by omega
                have v0 := blk_cell hpb3 (s * 3)
                have v1 := blk_cell hpb3 (s * 3 + 1)
                have v2 := blk_cell hpb3 (s * 3 + 2)
                have vf := fun i => blk_frozen hpb3 i
                rw [Array.getElem?_eq_getElem (by omega)] at v0 v1 v2
                generalize cs[s * 3]'_ = u0 at v0
                generalize cs[s * 3 + 1]'_ = u1 at v1
                generalize cs[s * 3 + 2]'_ = u2 at v2
                have k0 := pw_cell_below hb3 l0
                have k1 := pw_cell_below hb3 l1
                have n0 := blk_cell z 0
                have n1 := blk_cell z 1
                have n2 := blk_cell z 2
                simp at n0 n1 n2
                have t2 : W3.cell? ⟨ta, 2, none⟩ = some (.slice (some ⟨gv, 0, none⟩) (i + 1) cv) := pw_cell_below hb3 (blk_cell HPJ.out.t.ht 2)
                have hsi : (s : Int) < (r.length : Int) := by omega
                have k3 : (j : Int) < (i : Int) + 1 := by omega
                clear hq0 hrl hs hwn hset hwr hr hcs ea w0 w1' w2' W0 W1 W2' hpr hrow hpm hpb hpc hpb3 hsz hrd hb3 z l0 l1
                go_upto_region 25 with (fail)
                rw [← hg16, ← hW3]
                clear hW3 hg16 d0 d1 d2
                go_still_tail 14, (by kernel_rfl)
                change wpList _ _ _ _ _ W3.drew
                go_wp2
                go_roundw
                case rel => exact ⟨j + 1, by go_num, ⟨by omega⟩, ⟨HNEW.out.below (below_drew (Below.refl _ _))⟩⟩
                case measure => simp [intOf]; omega
              · obtain rfl : j = i + 1 := by have := HJ.out; omega
                have b1 : decide (((i + 1 : Nat) : Int) < (i : Int) + 1) = false := decide_eq_false (by omega)
                have b3 : decide ((i : Int) + 1 < (i : Int) + 1) = false := decide_eq_false (by omega)
                have b2 : decide (i + 1 < i + 1) = false := decide_eq_false hlt
                go_wp2
                go_ret
                exact HPJ.out.done HRL.out HRL2.out HS0.out
end Go.Proofs.YtfcodmdckcihmaaDoor.P
namespace Go.Proofs.YtfcodmdckcihmaaDoor.P
open Go.RowKit Go.Proofs.YtfcodmdckcihmaaDoorW.PrintWords Go.Proofs.YtfcodmdckcihmaaDoorW.PrintLast Go.Proofs.YtfcodmdckcihmaaDoorW.PrintMore
set_option linter.unusedVariables false
set_option linter.unusedSimpArgs false
set_option linter.unnecessarySimpa false
theorem litL_C {W : World} {g : Nat} {cur : Array Value} {xs : List SLeaf} (hg : W.heap[g]? = some (.cells cur 36 (0, 0))) (hc : cur.toList = cellsL xs) (hl : xs.length ≤ 1000) : Kd.C kLeaf W (some ⟨g, 0, none⟩) xs.length xs := by
 have hs : cur.size = xs.length * 5 := by rw [← cellsL_len, ← hc]; simp
 exact (ownLeaves_C (base := 0) (cap := xs.length) ⟨cellsL_len xs, .inr ⟨g, xs.length, cur, rfl, Nat.zero_le _, hg, Nat.le_refl _, by unfold maxLen; omega, hs, by rw [← hc, List.take_of_length_le (by simp; omega)]⟩⟩).2.2
def acc15 (id : ByteArray) (n : Int) : SLeaf := ⟨false, id, ⟨#[]⟩, ⟨0, n⟩⟩
set_option maxRecDepth 100000 in
theorem account15.calls (id : ByteArray) (n : Int) (w : World) : Calls Tryd.prog 66 #[.string id, .int .u64 n] w fun e w' => e = .returned (.agg #[.bool false, .string id, .string ⟨#[]⟩, .int .u64 0, .int .u64 n]) ∧ Below w.heap.size w w' := by
 have hu := Tryd.underlying36
 have hu2 := Tryd.underlying34
 have z := blk_new w (.cells #[.bool false, .string ⟨#[]⟩, .string ⟨#[]⟩, .int .u64 0, .int .u64 0] 36)
 go_enter Tryd.func66, Tryd.ntmps66
 go_wp2
 refine bodyPost_ret (v := .agg #[.bool false, .string id, .string ⟨#[]⟩, .int .u64 0, .int .u64 n]) ?_ rfl ⟨rfl, ?_⟩
 ·
  simp [results, Tryd.results66, go_sem, hu]
 ·
  repeat (with_reducible first | exact Below.refl _ _ | apply below_alloc | refine below_set ?_ (by (try dsimp only); omega))
def l15 : List SLeaf := [acc15 ⟨#[97]⟩ 1, acc15 ⟨#[98]⟩ 2, acc15 ⟨#[99]⟩ 3, acc15 ⟨#[100]⟩ 4]
def l15b : List SLeaf := [acc15 ⟨#[97]⟩ 1, acc15 ⟨#[98]⟩ 2, acc15 ⟨#[99]⟩ 3]
def l15c : List SLeaf := [acc15 ⟨#[]⟩ 1]
theorem acc_ok (id : ByteArray) (n : Int) (hid : id.size ≤ 1000000) (hn : 0 ≤ n ∧ n < 18446744073709551616) : OkL (acc15 id n) := ⟨hid, by show (0 : Nat) ≤ _; omega, ⟨by show (0 : Int) ≤ 0 ∧ (0 : Int) < 18446744073709551616; decide, hn⟩⟩
theorem l15_ok : ∀ x ∈ l15, OkL x := by
 intro x hx
 simp only [l15, List.mem_cons, List.not_mem_nil, or_false] at hx
 rcases hx with rfl | rfl | rfl | rfl <;> exact acc_ok _ _ (by decide) (by decide)
theorem l15b_ok : ∀ x ∈ l15b, OkL x := fun x hx => l15_ok x (by simp only [l15, l15b, List.mem_cons, List.not_mem_nil, or_false] at hx ⊢; rcases hx with h | h | h <;> simp [h])
theorem l15c_ok : ∀ x ∈ l15c, OkL x := by
 intro x hx
 simp only [l15c, List.mem_cons, List.not_mem_nil, or_false] at hx
 rw [hx]; exact acc_ok _ _ (by decide) (by decide)
theorem l15_new : newI 3 l15 = 0 := by decide +kernel
theorem l15b_new : newI 3 l15b = 120 := by decide +kernel
theorem l15c_new : newI 3 l15c = 130 := by decide +kernel
theorem l15_nodes : (nodeAtI (treeT 3 l15) 1 0).1.f1.f1 = 3 ∧ (nodeAtI (treeT 3 l15) 1 0).2 = true ∧ (nodeAtI (treeT 3 l15) 1 1).1.f1.f1 = 7 ∧ (nodeAtI (treeT 3 l15) 1 1).2 = true ∧ (nodeAtI (treeT 3 l15) 1 2).2 = false := by decide +kernel
theorem l15_root : (topI (treeT 3 l15)).f1.f1 = 10 ∧ ((treeT 3 l15).rows.length : Int) - 1 = 2 := by decide +kernel
theorem l15_set : setI 3 l15 1 (acc15 ⟨#[98]⟩ 5) = 0 ∧ (topI (treeT 3 (setL 3 l15 1 (acc15 ⟨#[98]⟩ 5)))).f1.f1 = 13 := by decide +kernel
theorem top_size {wd : Int} {ls : List SLeaf} (hk : NewOk wd ls) : ((topI (treeT wd ls)).f0.size : Int) = wd := by
 rw [levels_top]
 have hp : (ls.map (leafNodeI wd)).length = 2 ^ ls.length.log2 := by rw [List.length_map]; exact hk.p
 have h := up_ok hp hk.k hk.t ls.length.log2 (Nat.le_refl _)
 have h1 := h.1
 rw [Nat.sub_self] at h1
 match e : upV wd ls.length.log2 (ls.map (leafNodeI wd)), h1 with
 | [y], _ => exact (nodeOf_w (h.2.1 y (by rw [e]; simp)).of).2.2
theorem setL_ok {wd : Int} {l : List SLeaf} {p : Nat} {x : SLeaf} (h : ∀ y ∈ l, OkL y) (hx : OkL x) : ∀ y ∈ setL wd l p x, OkL y := by
 intro y hy
 unfold setL at hy
 split at hy
 ·
  rcases List.mem_or_eq_of_mem_set hy with h1 | rfl
  ·
   exact h y h1
  ·
   exact hx
 ·
  exact h y hy
theorem rootTotal (a : ByteArray) (b c d : Int) (W : World) : (Instr.field 41 (.agg #[.string a, .int .u64 b, .int .u64 c, .int .i64 d]) 1).run Tryd.prog W = .ok (.agg #[.int .u64 b, .int .u64 c]) W := by kernel_rfl
theorem u128Lo (b c : Int) (W : World) : (Instr.field 34 (.agg #[.int .u64 b, .int .u64 c]) 1).run Tryd.prog W = .ok (.int .u64 c) W := by kernel_rfl
set_option maxRecDepth 100000 in
set_option maxHeartbeats 4000000 in
theorem awake15.calls (w : World) (hK : LaidT w) : Calls Tryd.prog 26 #[] w fun e w' => e = .returned (.bool true) ∧ Below w.heap.size w w' := by
 have HK := aM' hK
 clear hK
 have hu4 := Tryd.underlying46
 have hu5 := Tryd.underlying41
 have hu6 := Tryd.underlying34
 have HB0 := aM' (Below.refl w.heap.size w)
 go_enter Tryd.func26, Tryd.ntmps26
 go_wp2_with fail
 refine (account15.calls ⟨#[97]⟩ 1 _).mono ?_
 rintro e w1 ⟨rfl, hb⟩
 have HB1 := aM' (HB0.out.trans (hb.mono HB0.out.size))
 clear hb
 go_wp2_with fail
 refine (account15.calls ⟨#[98]⟩ 2 _).mono ?_
 rintro e w2 ⟨rfl, hb⟩
 have HB2 := aM' (HB1.out.trans (hb.mono HB1.out.size))
 clear hb
 go_wp2_with fail
 refine (account15.calls ⟨#[99]⟩ 3 _).mono ?_
 rintro e w3 ⟨rfl, hb⟩
 have HB3 := aM' (HB2.out.trans (hb.mono HB2.out.size))
 clear hb
 go_wp2_with fail
 refine (account15.calls ⟨#[100]⟩ 4 _).mono ?_
 rintro e w4 ⟨rfl, hb⟩
 have HB4 := aM' (HB3.out.trans (hb.mono HB3.out.size))
 clear hb
 obtain ⟨V5, hV5⟩ : ∃ V, V = w4.alloc (.cells #[.bool false, .string ⟨#[97]⟩, .string ⟨#[]⟩, .int .u64 0, .int .u64 1, .bool false, .string ⟨#[98]⟩, .string ⟨#[]⟩, .int .u64 0, .int .u64 2, .bool false, .string ⟨#[99]⟩, .string ⟨#[]⟩, .int .u64 0, .int .u64 3, .bool false, .string ⟨#[100]⟩, .string ⟨#[]⟩, .int .u64 0, .int .u64 4] 36) := ⟨_, rfl⟩
 have HBV := aM' (show Below w.heap.size w V5 by rw [hV5]; exact below_alloc HB4.out _)
 have hz := hV5 ▸ blk_new w4 (.cells #[.bool false, .string ⟨#[97]⟩, .string ⟨#[]⟩, .int .u64 0, .int .u64 1, .bool false, .string ⟨#[98]⟩, .string ⟨#[]⟩, .int .u64 0, .int .u64 2, .bool false, .string ⟨#[99]⟩, .string ⟨#[]⟩, .int .u64 0, .int .u64 3, .bool false, .string ⟨#[100]⟩, .string ⟨#[]⟩, .int .u64 0, .int .u64 4] 36)
 have hC := litL_C (xs := l15) hz rfl (by decide)
 have HC := aM' hC
 go_wp2_with fail
 simp only [← hV5]
 clear hz hC hV5
 refine (treeNew.calls 3 (some ⟨w4.heap.size, 0, none⟩) 4 l15 V5 (HK.out.below HBV.out) HC.out (by decide) (by decide) l15_ok).mono ?_
 rintro e w5 ⟨hb, h⟩
 have HB5 := aM' (HBV.out.trans (hb.mono HBV.out.size))
 rcases h with ⟨-, a, gl, cl, VV, gs, rfl, hO⟩ | ⟨hn, -⟩
 case inr => exact absurd l15_new hn
 have HBASE := aM' HBV.out.size
 have HO := aM' hO
 clear hb hO HC HBV
 go_wp2_with fail
 refine (account15.calls ⟨#[97]⟩ 1 _).mono ?_
 rintro e w6 ⟨rfl, hb⟩
 have HB6 := aM' (HB5.out.trans (hb.mono HB5.out.size))
 have HO := aM' (HO.out.keep hb)
 clear hb
 go_wp2_with fail
 refine (account15.calls ⟨#[98]⟩ 2 _).mono ?_
 rintro e w7 ⟨rfl, hb⟩
 have HB7 := aM' (HB6.out.trans (hb.mono HB6.out.size))
 have HO := aM' (HO.out.keep hb)
 clear hb
 go_wp2_with fail
 refine (account15.calls ⟨#[99]⟩ 3 _).mono ?_
 rintro e w8 ⟨rfl, hb⟩
 have HB8 := aM' (HB7.out.trans (hb.mono HB7.out.size))
 have HO := aM' (HO.out.keep hb)
 clear hb
 obtain ⟨V9, hV9⟩ : ∃ V, V = w8.alloc (.cells #[.bool false, .string ⟨#[97]⟩, .string ⟨#[]⟩, .int .u64 0, .int .u64 1, .bool false, .string ⟨#[98]⟩, .string ⟨#[]⟩, .int .u64 0, .int .u64 2, .bool false, .string ⟨#[99]⟩, .string ⟨#[]⟩, .int .u64 0, .int .u64 3] 36) := ⟨_, rfl⟩
 have HBV := aM' (show Below w.heap.size w V9 by rw [hV9]; exact below_alloc HB8.out _)
 have hz := hV9 ▸ blk_new w8 (.cells #[.bool false, .string ⟨#[97]⟩, .string ⟨#[]⟩, .int .u64 0, .int .u64 1, .bool false, .string ⟨#[98]⟩, .string ⟨#[]⟩, .int .u64 0, .int .u64 2, .bool false, .string ⟨#[99]⟩, .string ⟨#[]⟩, .int .u64 0, .int .u64 3] 36)
 have hC := litL_C (xs := l15b) hz rfl (by decide)
 have HO := aM' (HO.out.keep (show Below w8.heap.size w8 V9 by rw [hV9]; exact below_alloc (Below.refl _ _) _))
 have HC := aM' hC
 go_wp2_with fail
 simp only [← hV9]
 clear hz hC hV9
 refine (treeNew.calls 3 (some ⟨w8.heap.size, 0, none⟩) 3 l15b V9 (HK.out.below HBV.out) HC.out (by decide) (by decide) l15b_ok).mono ?_
 rintro e w9 ⟨hb, h⟩
 have HB9 := aM' (HBV.out.trans (hb.mono HBV.out.size))
 have HO := aM' (HO.out.keep hb)
 rcases h with ⟨hn, -⟩ | ⟨-, rfl⟩
 case inl => exact absurd (l15b_new.symm.trans hn) (by decide)
 rw [l15b_new]
 clear hb HC HBV
 go_wp2_with fail
 refine (account15.calls ⟨#[]⟩ 1 _).mono ?_
 rintro e w10 ⟨rfl, hb⟩
 have HB10 := aM' (HB9.out.trans (hb.mono HB9.out.size))
 have HO := aM' (HO.out.keep hb)
 clear hb
 obtain ⟨V11, hV11⟩ : ∃ V, V = w10.alloc (.cells #[.bool false, .string ⟨#[]⟩, .string ⟨#[]⟩, .int .u64 0, .int .u64 1] 36) := ⟨_, rfl⟩
 have HBV := aM' (show Below w.heap.size w V11 by rw [hV11]; exact below_alloc HB10.out _)
 have hz := hV11 ▸ blk_new w10 (.cells #[.bool false, .string ⟨#[]⟩, .string ⟨#[]⟩, .int .u64 0, .int .u64 1] 36)
 have hC := litL_C (xs := l15c) hz rfl (by decide)
 have HO := aM' (HO.out.keep (show Below w10.heap.size w10 V11 by rw [hV11]; exact below_alloc (Below.refl _ _) _))
 have HC := aM' hC
 go_wp2_with fail
 simp only [← hV11]
 clear hz hC hV11
 refine (treeNew.calls 3 (some ⟨w10.heap.size, 0, none⟩) 1 l15c V11 (HK.out.below HBV.out) HC.out (by decide) (by decide) l15c_ok).mono ?_
 rintro e w11 ⟨hb, h⟩
 have HB11 := aM' (HBV.out.trans (hb.mono HBV.out.size))
 have HO := aM' (HO.out.keep hb)
 rcases h with ⟨hn, -⟩ | ⟨-, rfl⟩
 case inl => exact absurd (l15c_new.symm.trans hn) (by decide)
 rw [l15c_new]
 clear hb HC HBV
 obtain ⟨hkk, hlen⟩ : NewOk 3 l15 ∧ l15.length ≤ 1024 := ⟨newI_zero l15_new l15_ok, by decide⟩
 have HKK := aM' hkk
 have HLN := aM' hlen
 clear hkk hlen
 have q12 := tNode.calls a _ 1 0 w11 (HO.out.readT HKK.out HLN.out) (by decide)
 obtain ⟨x0, hx0⟩ : ∃ x, x = (nodeAtI (treeT 3 l15) 1 0).1 := ⟨_, rfl⟩
 rw [← hx0, l15_nodes.2.1] at q12
 have HX0 := aM' hx0
 clear hx0
 have Q := aM' q12
 clear q12
 go_wp2_with fail
 refine Q.out.mono ?_
 rintro e w12 ⟨rfl, hb⟩
 have HB12 := aM' (HB11.out.trans (hb.mono HB11.out.size))
 have HO := aM' (HO.out.keep hb)
 clear hb Q
 obtain ⟨gN0, hg⟩ : ∃ g, g = w12.heap.size := ⟨_, rfl⟩
 obtain ⟨w13, hw⟩ : ∃ V, V = w12.alloc (.cells #[.string x0.f0, .int .u64 x0.f1.f0, .int .u64 x0.f1.f1] 46) := ⟨_, rfl⟩
 have hb : Below w12.heap.size w12 w13 := by rw [hw]; exact below_alloc (Below.refl _ _) _
 have HB13 := aM' (HB12.out.trans (hb.mono HB12.out.size))
 have HO := aM' (HO.out.keep hb)
 have HN0 := aM' (show w13.heap[gN0]? = some (.cells #[.string x0.f0, .int .u64 x0.f1.f0, .int .u64 x0.f1.f1] 46 (0, 0)) by rw [hw, hg]; exact blk_new _ _)
 go_upto_region 7 with (fail)
 simp only [← hg, ← hw]
 clear hg hw hb
 have q14 := tNode.calls a _ 1 1 w13 (HO.out.readT HKK.out HLN.out) (by decide)
 obtain ⟨x1, hx1⟩ : ∃ x, x = (nodeAtI (treeT 3 l15) 1 1).1 := ⟨_, rfl⟩
 rw [← hx1, l15_nodes.2.2.2.1] at q14
 have HX1 := aM' hx1
 clear hx1
 have Q := aM' q14
 clear q14
 go_wp2_with fail
 refine Q.out.mono ?_
 rintro e w14 ⟨rfl, hb⟩
 have HB14 := aM' (HB13.out.trans (hb.mono HB13.out.size))
 have HO := aM' (HO.out.keep hb)
 have HN0 := aM' (blk_below HN0.out hb)
 clear hb Q
 obtain ⟨gN1, hg⟩ : ∃ g, g = w14.heap.size := ⟨_, rfl⟩
 obtain ⟨w15, hw⟩ : ∃ V, V = w14.alloc (.cells #[.string x1.f0, .int .u64 x1.f1.f0, .int .u64 x1.f1.f1] 46) := ⟨_, rfl⟩
 have hb : Below w14.heap.size w14 w15 := by rw [hw]; exact below_alloc (Below.refl _ _) _
 have HB15 := aM' (HB14.out.trans (hb.mono HB14.out.size))
 have HO := aM' (HO.out.keep hb)
 have HN0 := aM' (blk_below HN0.out hb)
 have HN1 := aM' (show w15.heap[gN1]? = some (.cells #[.string x1.f0, .int .u64 x1.f1.f0, .int .u64 x1.f1.f1] 46 (0, 0)) by rw [hw, hg]; exact blk_new _ _)
 go_upto_region 8 with (fail)
 simp only [← hg, ← hw]
 clear hg hw hb
 have q16 := tNode.calls a _ 1 2 w15 (HO.out.readT HKK.out HLN.out) (by decide)
 obtain ⟨x2, hx2⟩ : ∃ x, x = (nodeAtI (treeT 3 l15) 1 2).1 := ⟨_, rfl⟩
 rw [← hx2, l15_nodes.2.2.2.2] at q16
 have HX2 := aM' hx2
 clear hx2
 have Q := aM' q16
 clear q16
 go_wp2_with fail
 refine Q.out.mono ?_
 rintro e w16 ⟨rfl, hb⟩
 have HB16 := aM' (HB15.out.trans (hb.mono HB15.out.size))
 have HO := aM' (HO.out.keep hb)
 have HN0 := aM' (blk_below HN0.out hb)
 have HN1 := aM' (blk_below HN1.out hb)
 clear hb Q
 obtain ⟨gN2, hg⟩ : ∃ g, g = w16.heap.size := ⟨_, rfl⟩
 obtain ⟨w17, hw⟩ : ∃ V, V = w16.alloc (.cells #[.string x2.f0, .int .u64 x2.f1.f0, .int .u64 x2.f1.f1] 46) := ⟨_, rfl⟩
 have hb : Below w16.heap.size w16 w17 := by rw [hw]; exact below_alloc (Below.refl _ _) _
 have HB17 := aM' (HB16.out.trans (hb.mono HB16.out.size))
 have HO := aM' (HO.out.keep hb)
 have HN0 := aM' (blk_below HN0.out hb)
 have HN1 := aM' (blk_below HN1.out hb)
 have HN2 := aM' (show w17.heap[gN2]? = some (.cells #[.string x2.f0, .int .u64 x2.f1.f0, .int .u64 x2.f1.f1] 46 (0, 0)) by rw [hw, hg]; exact blk_new _ _)
 go_upto_region 9 with (fail)
 simp only [← hg, ← hw]
 clear hg hw hb
 have Q := aM' (tRoot.calls a _ w17 (HO.out.readT HKK.out HLN.out))
 unfold rootV at Q
 rw [l15_root.2] at Q
 obtain ⟨rt, hrt⟩ : ∃ x, x = topI (treeT 3 l15) := ⟨_, rfl⟩
 rw [← hrt] at Q
 have HRT := aM' hrt
 clear hrt
 go_wp2_with fail
 refine Q.out.mono ?_
 rintro e w18 ⟨rfl, hb⟩
 have HB18 := aM' (HB17.out.trans (hb.mono HB17.out.size))
 have HO := aM' (HO.out.keep hb)
 have HN0 := aM' (blk_below HN0.out hb)
 have HN1 := aM' (blk_below HN1.out hb)
 have HN2 := aM' (blk_below HN2.out hb)
 clear hb Q
 obtain ⟨gR, hg⟩ : ∃ g, g = w18.heap.size := ⟨_, rfl⟩
 obtain ⟨w19, hw⟩ : ∃ V, V = w18.alloc (.cells #[.string rt.f0, .int .u64 rt.f1.f0, .int .u64 rt.f1.f1, .int .i64 2] 41) := ⟨_, rfl⟩
 have hb : Below w18.heap.size w18 w19 := by rw [hw]; exact below_alloc (Below.refl _ _) _
 have HB19 := aM' (HB18.out.trans (hb.mono HB18.out.size))
 have HO := aM' (HO.out.keep hb)
 have HN0 := aM' (blk_below HN0.out hb)
 have HN1 := aM' (blk_below HN1.out hb)
 have HN2 := aM' (blk_below HN2.out hb)
 have HR := aM' (show w19.heap[gR]? = some (.cells #[.string rt.f0, .int .u64 rt.f1.f0, .int .u64 rt.f1.f1, .int .i64 2] 41 (0, 0)) by rw [hw, hg]; exact blk_new _ _)
 go_upto_region 10 with (fail)
 simp only [← hg, ← hw]
 clear hg hw hb
 have y0 := blk_cell HN0.out 2
 have y1 := blk_cell HN1.out 2
 have r0 := blk_cell HR.out 0
 have r2 := blk_cell HR.out 2
 have r3 := blk_cell HR.out 3
 simp at y0 y1 r0 r2 r3
 have e0 : x0.f1.f1 = 3 := by rw [HX0.out]; exact l15_nodes.1
 have e1 : x1.f1.f1 = 7 := by rw [HX1.out]; exact l15_nodes.2.2.1
 have e2 : rt.f1.f1 = 10 := by rw [HRT.out]; exact l15_root.1
 have e3 : (rt.f0.size : Int) = 3 := by rw [HRT.out]; exact top_size HKK.out
 rw [e0] at y0
 rw [e1] at y1
 rw [e2] at r2
 clear HX0 HX1 HX2 HRT
 go_wp2_with fail
 refine (account15.calls ⟨#[98]⟩ 5 _).mono ?_
 rintro e w20 ⟨rfl, hb⟩
 have HB20 := aM' (HB19.out.trans (hb.mono HB19.out.size))
 have HO := aM' (HO.out.keep hb)
 clear hb
 go_wp2_with fail
 refine (tSet.calls _ a gl cl VV gs 3 l15 1 (acc15 ⟨#[98]⟩ 5) w20 (HK.out.below HB20.out) HO.out HKK.out HLN.out (acc_ok _ _ (by decide) (by decide)) (by decide)).mono ?_
 rintro e w21 ⟨rfl, hO, hT⟩
 rw [l15_set.1]
 have HOS := aM' hO
 have HBS := aM' (HB20.out.trans ((hT.toBelow (b := w.heap.size) (fun k hk => Nat.le_trans HBASE.out (HO.out.lt k hk).1) HB20.out.size)))
 have HKS := aM' (newI_zero (newI_setL (p := 1) (x := acc15 ⟨#[98]⟩ 5) l15_new) (setL_ok l15_ok (acc_ok _ _ (by decide) (by decide))))
 have Q := aM' (tRoot.calls a _ w21 (HOS.out.readT HKS.out (by rw [setL_len]; decide)))
 unfold rootV at Q
 obtain ⟨rt2, hrt2⟩ : ∃ x, x = topI (treeT 3 (setL 3 l15 1 (acc15 ⟨#[98]⟩ 5))) := ⟨_, rfl⟩
 have e5 : rt2.f1.f1 = 13 := by rw [hrt2]; exact l15_set.2
 rw [← hrt2, e5] at Q
 obtain ⟨hh, hhh⟩ : ∃ h : Int, h = ((treeT 3 (setL 3 l15 1 (acc15 ⟨#[98]⟩ 5))).rows.length : Int) - 1 := ⟨_, rfl⟩
 rw [← hhh] at Q
 clear hhh
 clear hO hT hrt2 y0 y1 r0 r2 r3 e0 e1 e2 e5
 go_wp2_with fail
 refine Q.out.mono ?_
 rintro e wz ⟨rfl, hb⟩
 have HBZ := aM' (HBS.out.trans (hb.mono HBS.out.size))
 clear hb Q
 have hfd := rootTotal rt2.f0 rt2.f1.f0 13 hh wz
 have hfe := u128Lo rt2.f1.f0 13 wz
 go_wp2
 go_ret
 exact ⟨rfl, HBZ.out⟩
end Go.Proofs.YtfcodmdckcihmaaDoor.P
namespace Go.Proofs.YtfcodmdckcihmaaDoor.P
open Go.RowKit Go.Proofs.YtfcodmdckcihmaaDoorW.PrintWords Go.Proofs.YtfcodmdckcihmaaDoorW.PrintLast Go.Proofs.YtfcodmdckcihmaaDoorW.PrintMore
set_option linter.unusedVariables false
set_option linter.unusedSimpArgs false
set_option linter.unnecessarySimpa false
theorem rows_len (wd : Int) (k : List SLeaf) : (treeT wd k).rows.length = k.length.log2 + 1 := by
 have h : (treeT wd k).rows = levelsV wd k.length.log2 (k.map (leafNodeI wd)) := rfl
 rw [h, levelsV_len]
section
variable {b a gl cl : Nat} {VV : Value} {gs : List RowG} {wd : Int} {k : List SLeaf} {V : World}
theorem TreeOwn.rootC {m : Nat} {rt : SNode} (h : TreeOwn b V a (treeT wd k) gl cl VV gs) (hn : NewOk wd k) (hl : k.length ≤ 1024) (hm : m = k.length.log2) (hr : rt = topI (treeT wd k)) :
  Calls Tryd.prog 21 #[ptrT a] V fun e w' => e = .returned (.agg #[.string rt.f0, .int .u64 rt.f1.f0, .int .u64 rt.f1.f1, .int .i64 (m : Int)]) ∧ Below V.heap.size V w' := by
 have q := tRoot.calls a _ V (h.readT hn hl)
 unfold rootV at q
 rw [rows_len, ← hm, ← hr, show ((m + 1 : Nat) : Int) - 1 = (m : Int) by omega] at q
 exact q
theorem TreeOwn.heightC {m : Nat} (h : TreeOwn b V a (treeT wd k) gl cl VV gs) (hn : NewOk wd k) (hl : k.length ≤ 1024) (hm : m = k.length.log2) :
  Calls Tryd.prog 19 #[ptrT a] V fun e w' => e = .returned (.int .i64 (m : Int)) ∧ V = w' := by
 have q := tHeight.calls a _ V (h.readT hn hl)
 rw [rows_len, ← hm, show ((m + 1 : Nat) : Int) - 1 = (m : Int) by omega] at q
 exact q
theorem TreeOwn.nodeC {n q : Nat} {x : SNode} {t : Bool} (h : TreeOwn b V a (treeT wd k) gl cl VV gs) (hn : NewOk wd k) (hl : k.length ≤ 1024) (hx : nodeAtI (treeT wd k) (n : Int) (q : Int) = (x, t)) :
  Calls Tryd.prog 24 #[ptrT a, .int .i64 (n : Int), .int .u64 (q : Int)] V fun e w' => e = .returned (.tuple #[nodeV x, .bool t]) ∧ Below V.heap.size V w' := by
 have z := tNode.calls a _ (n : Int) (q : Int) V (h.readT hn hl) (by omega)
 rw [hx] at z
 exact z
end
end Go.Proofs.YtfcodmdckcihmaaDoor.P
namespace Go.Proofs.YtfcodmdckcihmaaDoor.P
open Go.RowKit Go.Proofs.YtfcodmdckcihmaaDoorW.PrintWords Go.Proofs.YtfcodmdckcihmaaDoorW.PrintLast Go.Proofs.YtfcodmdckcihmaaDoorW.PrintMore
set_option linter.unusedVariables false
set_option linter.unusedSimpArgs false
set_option linter.unnecessarySimpa false
attribute [local go_sem] sel_true
theorem oneCellN : ∀ l, ∀ u ∈ cellsN l, u.oneCell' = true
 | [], u, h => by cases h
 | x :: l, u, h => by
  simp only [cellsN, List.mem_cons] at h
  rcases h with rfl | rfl | rfl | h
  ·
   rfl
  ·
   rfl
  ·
   rfl
  ·
   exact oneCellN l u h
theorem nodes_newsC {W : World} {ad : Addr} {l : List SNode} (h : Kd.C kNode W (some ad) l.length l) : ∀ j u, (cellsN l)[j]? = some u → W.cell? (ad.add j) = some u := by
 intro j u hu
 have hj : j < l.length * 3 := by
  have := (List.getElem?_eq_some_iff.1 hu).1
  rwa [cellsN_len] at this
 obtain ⟨k, i, rfl, hi⟩ : ∃ k i, j = k * 3 + i ∧ i < 3 := ⟨j / 3, j % 3, by omega, Nat.mod_lt _ (by decide)⟩
 have hk : k < l.length := by omega
 rw [cellsN_get l k i l[k] (List.getElem?_eq_getElem hk) hi] at hu
 obtain ⟨a1, e1, p0, p1, p2⟩ := at_TNode h (k : Int) (by omega) (by omega)
 cases e1
 have e3 : rd_TNode l (k : Int) = l[k] := by rw [rd_TNode, Int.toNat_natCast]; simp [List.getD_eq_getElem?_getD, hk]
 rw [e3, Int.toNat_natCast] at p0 p1 p2
 match i, hi with
 | 0, _ => simp at hu; rw [← hu]; exact p0
 | 1, _ => simp at hu; rw [← hu, add_field _ _ 1 (by omega)]; exact p1
 | 2, _ => simp at hu; rw [← hu, add_field _ _ 2 (by omega)]; exact p2
set_option maxRecDepth 100000 in
theorem cloneN.calls (ad : Addr) (c : Nat) (l : List SNode) (w : World) (hr : Kd.C kNode w (some ad) l.length l) (hl : 1 ≤ l.length) (hm : l.length ≤ 1024) :
  Calls Tryd.prog 68 #[.slice (some ad) l.length c] w fun e w' => ∃ g cap, e = .returned (.slice (some ⟨g, 0, none⟩) l.length cap) ∧ w'.ownsRow w.heap.size 46 3 (.slice (some ⟨g, 0, none⟩) l.length cap) l.length (cellsN l) ∧ Below w.heap.size w w' := by
 obtain ⟨i0, hi, hz0, hz1, hz2⟩ := info_parts nodeInfo
 have HR := aM' hr
 have HM := aM' hm
 have HL := aM' hl
 clear hr hm hl
 have hu := Tryd.underlying43
 have qT : ∀ wx : World, (binOp .eql 43 (.slice (some ad) l.length c) (.slice none 0 0)).run Tryd.prog wx = .ok (.bool false) wx := fun wx => Lib.run_eql_slice_nil wx _ _ _ _ _ _ _ hu
 go_enter Tryd.func68, Tryd.ntmps68
 go_wp2_with (at_builtin; refine wpList_append_own _ rfl _ _ 43 rfl w.heap.size 46 i0 (.agg #[.string ⟨#[]⟩, .int .u64 0, .int .u64 0]) 3 32 Tryd.underlying43 hi hz0 hz1 hz2 rfl (by decide) _ 0 [] rfl (World.ownsRow_made w #[] 0 (Nat.le_refl _) (by decide) rfl) ad l.length c (cellsN l) rfl (cellsN_len l) ?c2 ?c3 ?c4 ?c5 ?c6 ?_)
 case c2 => exact nodes_newsC (Kd.C_below HR.out (below_alloc (Below.refl _ _) _))
 case c3 => exact oneCellN l
 case c4 => have := HM.out; unfold maxLen; omega
 case c5 => have := HM.out; omega
 case c6 => simp
 intro v' w' hown hgr hnil
 obtain ⟨g, cap, rfl, -, hg⟩ := hown.form HL.out
 have HO := aM' hown
 have HG := aM' hgr
 clear hown hgr hnil hg
 go_wp2
 go_ret
 refine ⟨g, cap, rfl, HO.out, ?_⟩
 have hb := HG.out
 refine ⟨hb.os, hb.tape, hb.output, Nat.le_trans (by simp) hb.size, fun i hi => ?_⟩
 have h1 := hb.block i (by simp; omega) (by intro e; have := Option.some.inj e; dsimp only at this; omega)
 rw [h1]
 exact (below_alloc (Below.refl w.heap.size w) (.cells #[] 46)).block i hi
theorem TreeOwn.snoc {b bt gl cl g κ : Nat} {VV : Value} {gs : List RowG} {wd : Int} {lf : List SLeaf} {done : List (List SNode)} {W0 W : World} {p : RowG} {cur : List SNode} (h : TreeOwn b W0 bt ⟨wd, lf, done⟩ gl cl VV gs)
  (hk : ∀ k, k < W0.heap.size → VV.ownBlock ≠ some k → W.heap[k]? = W0.heap[k]?) (hc : W.ownsRow b 46 3 (rowV p cur) cur.length (cellsN cur)) (hp : W0.heap.size ≤ p.1)
  (hown : W.ownsRow b 109 2 (.slice (some ⟨g, 0, none⟩) (done.length + 1) κ) (done.length + 1) (cellsV 0 gs done ++ [rowV p cur, .int .i64 (done.length : Int)])) (hgg : VV.ownBlock = some g ∨ W0.heap.size ≤ g) :
  TreeOwn b (W.setCell ⟨bt, 2, none⟩ (.slice (some ⟨g, 0, none⟩) (done.length + 1) κ)) bt ⟨wd, lf, done ++ [cur]⟩ gl cl (.slice (some ⟨g, 0, none⟩) (done.length + 1) κ) (gs ++ [p]) := by
 have hs : ∀ k ∈ bt :: gl :: gs.map Prod.fst, k < W0.heap.size := by
  intro k hk
  rcases List.mem_cons.1 hk with rfl | hk
  ·
   exact blk_lt h.ht
  ·
   exact (h.lt k hk).2
 have hnot : ∀ k ∈ bt :: gl :: gs.map Prod.fst, VV.ownBlock ≠ some k := fun k hm e => h.av k e hm
 have hin : ∀ k ∈ bt :: gl :: gs.map Prod.fst, W.heap[k]? = W0.heap[k]? := fun k hm => hk k (hs k hm) (hnot k hm)
 have hset : ∀ k, k ≠ bt → (W.setCell ⟨bt, 2, none⟩ (.slice (some ⟨g, 0, none⟩) (done.length + 1) κ)).heap[k]? = W.heap[k]? := fun k hk => Below.heap_setCell _ _ _ _ hk
 have hpn : p.1 ∉ bt :: gl :: gs.map Prod.fst := fun hm => by have := hs _ hm; omega
 have hgp : g ≠ p.1 := fun e => by
  obtain ⟨c1, h1⟩ := own_cells hown (show (Value.slice (some ⟨g, 0, none⟩) (done.length + 1) κ).ownBlock = some g from rfl)
  obtain ⟨c2, h2⟩ := own_cells hc (show (rowV p cur).ownBlock = some p.1 from rfl)
  rw [e, h2] at h1
  simp only [Option.some.injEq, Obj.cells.injEq] at h1
  exact absurd h1.2.1 (by decide)
 have hgo : g ∉ bt :: gl :: gs.map Prod.fst := fun hm => by
  rcases hgg with h2 | h2
  ·
   exact hnot g hm h2
  ·
   have := hs g hm; omega
 have hgbt : g ≠ bt := fun e => hgo (by rw [e]; simp)
 have hpbt : p.1 ≠ bt := fun e => hpn (by rw [e]; simp)
 have hglbt : gl ≠ bt := fun e => by have := h.ap; rw [e] at this; simp at this
 have hgsbt : ∀ k ∈ gs.map Prod.fst, k ≠ bt := fun k hm e => by
  have := (List.nodup_cons.1 h.ap).1
  exact this (by rw [← e]; exact List.mem_cons_of_mem _ hm)
 have hlen := h.hg.len
 refine ⟨?_, ?_, ?_, ?_, ?_, ?_, h.lo⟩
 ·
  exact blk_put ((hin bt (by simp)).trans h.ht) 2 _ rfl
 ·
  exact own_keep (own_keep h.hl (hin gl (by simp))) (hset gl hglbt)
 ·
  show World.ownsRow _ b _ 2 _ (done ++ [cur]).length (cellsV 0 (gs ++ [p]) (done ++ [cur]))
  rw [List.length_append, List.length_singleton, cellsV_snoc p cur 0 gs done hlen, Nat.zero_add]
  exact own_keep hown (hset g hgbt)
 ·
  refine OwnRows.snoc (own_keep hc (hset _ hpbt)) ((h.hg.keep (fun k hm => hin k (by simp at hm ⊢; exact .inr (.inr hm)))).keep (fun k hm => hset k (hgsbt k hm)))
 ·
  simp only [List.map_append, List.map_cons, List.map_nil]
  rw [← List.cons_append, ← List.cons_append]
  exact List.nodup_append.2 ⟨h.ap, by simp, fun a ha b hb e => by
   obtain rfl := List.mem_singleton.1 hb
   exact hpn (e ▸ ha)⟩
 ·
  intro k hk2 hm
  obtain rfl : g = k := Option.some.inj hk2
  simp only [List.map_append, List.map_cons, List.map_nil, List.mem_cons, List.mem_append, List.not_mem_nil, or_false] at hm
  simp only [List.mem_cons, not_or] at hgo
  rcases hm with h1 | h1 | h1 | h1
  ·
   exact hgo.1 h1
  ·
   exact hgo.2.1 h1
  ·
   exact hgo.2.2 h1
  ·
   exact hgp h1
theorem below_grownB {b : Nat} {w X Y : World} {row : Option Nat} (h : Below b w X) (hb : b ≤ X.heap.size) (hg : X.grownBy Y row) (hr : ∀ r, row = some r → b ≤ r) : Below b w Y :=
 ⟨hg.os.trans h.os, hg.tape.trans h.tape, hg.output.trans h.output, Nat.le_trans h.size hg.size, fun i hi => (hg.block i (by omega) (fun e => by have := hr i e.symm; omega)).trans (h.block i hi)⟩
structure CpR (b : Nat) (W0 W : World) (wd : Int) (lf : List SLeaf) (bt gl cl : Nat) (VV : Value) (gs : List RowG) (done : List (List SNode)) (cur : List SNode) (l : Nat → Bool) (γc κc γ γ2 κ : Nat) : Prop where
 hA : l 14 = false → Below W0.heap.size W0 W
 hC : l 8 = true → W0.heap.size ≤ γc ∧ W.ownsRow b 46 3 (rowV (γc, κc) cur) cur.length (cellsN cur)
 hT : l 13 = true → l 14 = false → W.heap[γ]? = some (.cells #[rowV (γc, κc) cur, .int .i64 (done.length : Int)] 109 (0, 0))
 hP : l 14 = true → l 17 = false → (∀ k, k < W0.heap.size → VV.ownBlock ≠ some k → W.heap[k]? = W0.heap[k]?) ∧ W.ownsRow b 109 2 (.slice (some ⟨γ2, 0, none⟩) (done.length + 1) κ) (done.length + 1) (cellsV 0 gs done ++ [rowV (γc, κc) cur, .int .i64 (done.length : Int)]) ∧ (VV.ownBlock = some γ2 ∨ W0.heap.size ≤ γ2) ∧ Below b W0 W
 hQ : l 17 = true → TreeOwn b W bt ⟨wd, lf, done ++ [cur]⟩ gl cl (.slice (some ⟨γ2, 0, none⟩) (done.length + 1) κ) (gs ++ [(γc, κc)]) ∧ Below b W0 W
 o8 : l 8 = true → l 7 = true
 o9 : l 9 = true → l 8 = true
 o12 : l 12 = true → l 9 = true ∧ l 11 = true
 o13 : l 13 = true → l 12 = true
 o14 : l 14 = true → l 13 = true ∧ l 4 = true
 o17 : l 17 = true → l 14 = true
section
variable {b : Nat} {W0 W : World} {wd : Int} {lf : List SLeaf} {bt gl cl : Nat} {VV : Value} {gs : List RowG} {done : List (List SNode)} {cur : List SNode} {l : Nat → Bool} {γc κc γ γ2 κ : Nat}
theorem CpR.pure (h : CpR b W0 W wd lf bt gl cl VV gs done cur l γc κc γ γ2 κ) (i : Nat) (hi : i ≠ 8 ∧ i ≠ 13 ∧ i ≠ 14 ∧ i ≠ 17) (h9 : i = 9 → l 8 = true) (h12 : i = 12 → l 9 = true ∧ l 11 = true) : CpR b W0 W wd lf bt gl cl VV gs done cur (upd l i) γc κc γ γ2 κ := by
 have e8 : upd l i 8 = l 8 := upd_no (by omega)
 have e13 : upd l i 13 = l 13 := upd_no (by omega)
 have e14 : upd l i 14 = l 14 := upd_no (by omega)
 have e17 : upd l i 17 = l 17 := upd_no (by omega)
 refine ⟨by rw [e14]; exact h.hA, by rw [e8]; exact h.hC, by rw [e13, e14]; exact h.hT, by rw [e14, e17]; exact h.hP, by rw [e17]; exact h.hQ, ?_, ?_, ?_, ?_, ?_, ?_⟩
 ·
  rw [e8]; exact fun hx => upd_or.2 (.inr (h.o8 hx))
 ·
  intro hx
  rw [e8]
  rcases upd_or.1 hx with hx | hx
  ·
   exact h9 hx.symm
  ·
   exact h.o9 hx
 ·
  intro hx
  rcases upd_or.1 hx with hx | hx
  ·
   exact ⟨upd_or.2 (.inr (h12 hx.symm).1), upd_or.2 (.inr (h12 hx.symm).2)⟩
  ·
   exact ⟨upd_or.2 (.inr (h.o12 hx).1), upd_or.2 (.inr (h.o12 hx).2)⟩
 ·
  rw [e13]; exact fun hx => upd_or.2 (.inr (h.o13 hx))
 ·
  rw [e14, e13]; exact fun hx => ⟨(h.o14 hx).1, upd_or.2 (.inr (h.o14 hx).2)⟩
 ·
  rw [e17, e14]; exact h.o17
theorem CpR.no4 (h : CpR b W0 W wd lf bt gl cl VV gs done cur l γc κc γ γ2 κ) (hl : l 4 = false) : l 14 = false := by
 cases hx : l 14 with
 | false => rfl
 | true => rw [(h.o14 hx).2] at hl; cases hl
theorem CpR.no13 (h : CpR b W0 W wd lf bt gl cl VV gs done cur l γc κc γ γ2 κ) (hl : l 13 = false) : l 14 = false := by
 cases hx : l 14 with
 | false => rfl
 | true => rw [(h.o14 hx).1] at hl; cases hl
theorem CpR.no11 (h : CpR b W0 W wd lf bt gl cl VV gs done cur l γc κc γ γ2 κ) (hl : l 11 = false) : l 14 = false := by
 refine h.no13 ?_
 cases hx : l 13 with
 | false => rfl
 | true => rw [(h.o12 (h.o13 hx)).2] at hl; cases hl
theorem CpR.no8 (h : CpR b W0 W wd lf bt gl cl VV gs done cur l γc κc γ γ2 κ) (hl : l 8 = false) : l 13 = false := by
 cases hx : l 13 with
 | false => rfl
 | true => rw [h.o9 (h.o12 (h.o13 hx)).1] at hl; cases hl
theorem CpR.no7 (h : CpR b W0 W wd lf bt gl cl VV gs done cur l γc κc γ γ2 κ) (hl : l 7 = false) : l 14 = false := by
 refine h.no13 (h.no8 ?_)
 cases hx : l 8 with
 | false => rfl
 | true => rw [h.o8 hx] at hl; cases hl
theorem CpR.no17 (h : CpR b W0 W wd lf bt gl cl VV gs done cur l γc κc γ γ2 κ) (hl : l 14 = false) : l 17 = false := by
 cases hx : l 17 with
 | false => rfl
 | true => rw [h.o17 hx] at hl; cases hl
theorem CpR.cloned {W' : World} {g c : Nat} (h : CpR b W0 W wd lf bt gl cl VV gs done cur l γc κc γ γ2 κ) (hb0 : b ≤ W0.heap.size) (hl : l 8 = false) (h7 : l 7 = true) (ho : W'.ownsRow W.heap.size 46 3 (.slice (some ⟨g, 0, none⟩) cur.length c) cur.length (cellsN cur)) (hb : Below W.heap.size W W') :
  CpR b W0 W' wd lf bt gl cl VV gs done cur (upd l 8) g c γ γ2 κ := by
 have h13 := h.no8 hl
 have h14 := h.no13 h13
 have h17 := h.no17 h14
 have h9 : l 9 = false := by
  cases hx : l 9 with
  | false => rfl
  | true => rw [h.o9 hx] at hl; cases hl
 have e7 : upd l 8 7 = l 7 := rfl
 have e9 : upd l 8 9 = l 9 := rfl
 have e13 : upd l 8 13 = l 13 := rfl
 have e14 : upd l 8 14 = l 14 := rfl
 have e17 : upd l 8 17 = l 17 := rfl
 have hA := h.hA h14
 refine ⟨fun _ => hA.trans (hb.mono hA.size), fun _ => ⟨Nat.le_trans hA.size (ho.lt g rfl).1, own_base ho (Nat.le_trans hb0 hA.size)⟩, (fun hx => by rw [e13, h13] at hx; cases hx), (fun hx => by rw [e14, h14] at hx; cases hx), (fun hx => by rw [e17, h17] at hx; cases hx), fun _ => h7, (fun hx => by rw [e9, h9] at hx; cases hx), fun hx => ?_, h.o13, h.o14, h.o17⟩
 exact h.o12 hx
theorem CpR.made (h : CpR b W0 W wd lf bt gl cl VV gs done cur l γc κc γ γ2 κ) (hl : l 13 = false) (h12 : l 12 = true) : CpR b W0 (W.alloc (.cells #[rowV (γc, κc) cur, .int .i64 (done.length : Int)] 109 (0, 0))) wd lf bt gl cl VV gs done cur (upd l 13) γc κc W.heap.size γ2 κ := by
 have h14 := h.no13 hl
 have h17 := h.no17 h14
 have e14 : upd l 13 14 = l 14 := rfl
 have e17 : upd l 13 17 = l 17 := rfl
 exact ⟨fun _ => below_alloc (h.hA h14) _, fun hx => ⟨(h.hC hx).1, ownB (h.hC hx).2 (below_alloc (Below.refl _ _) _)⟩, fun _ _ => blk_new W _, (fun hx => by rw [e14, h14] at hx; cases hx), (fun hx => by rw [e17, h17] at hx; cases hx), h.o8, h.o9, h.o12, fun _ => h12, (fun hx => by rw [e14, h14] at hx; cases hx), h.o17⟩
theorem CpR.appended {W' : World} {g κ' : Nat} (h : CpR b W0 W wd lf bt gl cl VV gs done cur l γc κc γ γ2 κ) (h0 : TreeOwn b W0 bt ⟨wd, lf, done⟩ gl cl VV gs) (hb0 : b ≤ W0.heap.size) (hl : l 14 = false) (h13 : l 13 = true) (h4 : l 4 = true) (hgr : W.grownBy W' VV.ownBlock)
  (hown : W'.ownsRow b 109 2 (.slice (some ⟨g, 0, none⟩) (done.length + 1) κ') (done.length + 1) (cellsV 0 gs done ++ [rowV (γc, κc) cur, .int .i64 (done.length : Int)])) (hgg : VV.ownBlock = some g ∨ g = W.heap.size) :
  CpR b W0 W' wd lf bt gl cl VV gs done cur (upd l 14) γc κc γ g κ' := by
 have h17 := h.no17 hl
 have hb := h.hA hl
 have h8 := h.o9 (h.o12 (h.o13 h13)).1
 obtain ⟨hc1, hc2⟩ := h.hC h8
 have e17 : upd l 14 17 = l 17 := rfl
 have e14 : upd l 14 14 = true := rfl
 have hsz := hb.size
 refine ⟨(fun hx => by rw [e14] at hx; cases hx), fun _ => ⟨hc1, ownAny_keep hc2 (fun k hk => ?_)⟩, (fun _ hx => by rw [e14] at hx; cases hx), fun _ _ => ⟨fun k hk hn => (hgr.block k (by omega) (fun e => hn e.symm)).trans (hb.block k hk), hown, ?_, ?_⟩, (fun hx => by rw [e17, h17] at hx; cases hx), h.o8, h.o9, h.o12, h.o13, fun _ => ⟨h13, h4⟩, fun _ => rfl⟩
 ·
  obtain rfl : γc = k := Option.some.inj hk
  obtain ⟨c1, h1⟩ := own_cells hc2 (show (rowV (γc, κc) cur).ownBlock = some γc from rfl)
  exact hgr.block _ (blk_lt h1) (fun e => by have := (h0.hv.lt γc e.symm).2; omega)
 ·
  rcases hgg with hx | hx
  ·
   exact .inl hx
  ·
   exact .inr (by omega)
 ·
  exact below_grownB (hb.mono hb0) (by omega) hgr (fun r e => (h0.hv.lt r e).1)
theorem CpR.stored (h : CpR b W0 W wd lf bt gl cl VV gs done cur l γc κc γ γ2 κ) (h0 : TreeOwn b W0 bt ⟨wd, lf, done⟩ gl cl VV gs) (hl : l 17 = false) (h14 : l 14 = true) :
  CpR b W0 (W.setCell ⟨bt, 2, none⟩ (.slice (some ⟨γ2, 0, none⟩) (done.length + 1) κ)) wd lf bt gl cl VV gs done cur (upd l 17) γc κc γ γ2 κ := by
 obtain ⟨p1, p2, p3, p4⟩ := h.hP h14 hl
 have h8 := h.o9 (h.o12 (h.o13 (h.o14 h14).1)).1
 obtain ⟨hc1, hc2⟩ := h.hC h8
 have e14 : upd l 17 14 = l 14 := rfl
 have e17 : upd l 17 17 = true := rfl
 have hbt := blk_lt h0.ht
 refine ⟨(fun hx => by rw [e14, h14] at hx; cases hx), fun _ => ⟨hc1, ownAny_keep hc2 (fun k hk => Below.heap_setCell _ _ _ _ ?_)⟩, (fun _ hx => by rw [e14, h14] at hx; cases hx), (fun _ hx => by rw [e17] at hx; cases hx), fun _ => ⟨h0.snoc p1 hc2 hc1 p2 p3, p4.setCell (by show b ≤ bt; exact h0.lo) _⟩, h.o8, h.o9, h.o12, h.o13, h.o14, fun _ => h14⟩
 obtain rfl : γc = k := Option.some.inj hk
 show γc ≠ bt
 omega
end
set_option maxRecDepth 100000 in
set_option maxHeartbeats 4000000 in
theorem tCopy.calls (base ta gl cl : Nat) (VV : Value) (gs : List RowG) (wd : Int) (ls : List SLeaf) (w : World) (hT : TreeOwn base w ta (treeT wd ls) gl cl VV gs) (hk : NewOk wd ls) (hn : ls.length ≤ 1024) :
  Calls Tryd.prog 30 #[ptrT ta] w fun e w' => ∃ a' gl' cl' VV' gs', e = .returned (ptrT a') ∧ TreeOwn w.heap.size w' a' (treeT wd ls) gl' cl' VV' gs' ∧ Below w.heap.size w w' := by
 obtain ⟨j0, hj, hj0, hj1, hj2⟩ := info_parts levelInfo
 obtain ⟨K, hK⟩ : ∃ K, K = ls.length.log2 := ⟨_, rfl⟩
 have hrl : (treeT wd ls).rows.length = K + 1 := by rw [rows_len, hK]
 obtain ⟨gv, cv, hvv, hvc, hvl, hvn⟩ := hT.levels (by rw [hrl]; omega)
 subst hvv
 rw [hrl] at hT hvc
 have hK10 : K ≤ 10 := by
  have := hk.p
  rw [← hK] at this
  rcases Nat.lt_or_ge 10 K with h | h
  ·
   have h2 := Nat.pow_le_pow_right (n := 2) (by decide) (show 11 ≤ K by omega); omega
  ·
   exact h
 have hlf := ownLeaves_C hT.hl
 have hpos : 1 ≤ ls.length := by rw [hk.p]; exact Nat.one_le_two_pow
 have HT := aM' hT
 have HKK := aM' hk
 have HN := aM' hn
 have HRL := aM' hrl
 have HK10 := aM' hK10
 have HLF := aM' hlf
 have HPOS := aM' hpos
 have HCV := aM' hvc
 have HKE := aM' hK
 clear hT hk hn hrl hK10 hvc hvl hvn hlf hpos hK
 have hu := Tryd.underlying105
 go_enter Tryd.func30, Tryd.ntmps30
 have HN0 := aM' (show w.heap[ta]? = some (.cells #[.int .i64 wd, .slice (some ⟨gl, 0, none⟩) ls.length cl, .slice (some ⟨gv, 0, none⟩) (K + 1) cv] 105 (0, 0)) from HT.out.ht)
 go_upto_region 3 with (fail)
 refine region_inv (fun l a W => ∃ γ : Nat, ∃ κ : Nat, ∃ δ : Nat, a = ({ tmps := #[ptrT ta, undef, .pointer none, sel (l 11) (.pointer (some ⟨δ, 0, none⟩)) (undef), undef, undef, ptrT ta, .bool false, sel (l 0) (ptrT ta) (undef), sel (l 1) (ptrT ta) (undef), sel (l 2) (.pointer (some ⟨ta, 0, none⟩)) (undef), sel (l 3) (.int .i64 wd) (undef), sel (l 4) (ptrT ta) (undef), sel (l 5) (ptrT ta) (undef), sel (l 6) (.pointer (some ⟨ta, 1, none⟩)) (undef), sel (l 7) (.slice (some ⟨gl, 0, none⟩) ls.length cl) (undef), sel (l 8) (.slice (some ⟨γ, 0, none⟩) ls.length κ) (undef), sel (l 9) (.agg #[.int .i64 wd, .slice (some ⟨γ, 0, none⟩) ls.length κ, .slice none 0 0]) (undef), sel (l 10) (.pointer (some ⟨δ, 0, none⟩)) (undef), undef, undef, undef, undef, undef, undef, undef, undef, undef, undef, undef, undef, undef, undef, undef, undef, undef, undef, undef, undef, undef, undef, undef, undef, undef, undef, undef, undef], defers := [] } : Act) ∧ (Below w.heap.size w W ∧ (l 8 = true → w.heap.size ≤ γ ∧ W.ownsRow w.heap.size 36 5 (.slice (some ⟨γ, 0, none⟩) ls.length κ) ls.length (cellsL ls)) ∧ (l 10 = true → W.heap[δ]? = some (.cells #[.int .i64 wd, .slice (some ⟨γ, 0, none⟩) ls.length κ, .slice none 0 0] 105 (0, 0)) ∧ w.heap.size ≤ δ ∧ δ ≠ γ) ∧ (l 9 = true → l 8 = true) ∧ (l 10 = true → l 9 = true) ∧ (l 11 = true → l 10 = true))) 12 rfl rfl (by kernel_rfl) ?h0 ?hend ?hstep
 case h0 => exact ⟨0, 0, 0, rfl, below_drew (Below.refl _ _), (fun h => by cases h), (fun h => by cases h), (fun h => by cases h), (fun h => by cases h), (fun h => by cases h)⟩
 case hstep =>
  refine rg_cons (rg_cons (rg_cons (rg_cons (rg_cons (rg_cons (rg_cons (rg_cons (rg_cons (rg_cons (rg_cons (rg_cons (rg_nil) ?s0) ?s1) ?s2) ?s3) ?s4) ?s5) ?s6) ?s7) ?s8) ?s9) ?s10) ?s11
  case s0 =>
   refine rg_step rfl ?_
   rintro l a W ⟨γ, κ, δ, rfl, hI⟩ hl hd
   clear hd
   refine rg_val (v := ptrT ta) (w' := W) rfl (by go_simp) ?_
   refine ⟨γ, κ, δ, ?_, ?_⟩
   ·
    simp only [Act.put, List.setIfInBounds_toArray, List.set_cons_zero, List.set_cons_succ]; rfl
   ·
    exact ⟨hI.1, hI.2.1, hI.2.2.1, hI.2.2.2.1, hI.2.2.2.2.1, hI.2.2.2.2.2⟩
  case s1 =>
   refine rg_step rfl ?_
   rintro l a W ⟨γ, κ, δ, rfl, hI⟩ hl hd
   have d0 := hd 0 (by decide)
   clear hd
   refine rg_val (v := ptrT ta) (w' := W) rfl (by go_simp) ?_
   refine ⟨γ, κ, δ, ?_, ?_⟩
   ·
    simp only [Act.put, List.setIfInBounds_toArray, List.set_cons_zero, List.set_cons_succ]; rfl
   ·
    exact ⟨hI.1, hI.2.1, hI.2.2.1, hI.2.2.2.1, hI.2.2.2.2.1, hI.2.2.2.2.2⟩
  case s2 =>
   refine rg_step rfl ?_
   rintro l a W ⟨γ, κ, δ, rfl, hI⟩ hl hd
   have d1 := hd 1 (by decide)
   clear hd
   refine rg_val (v := .pointer (some ⟨ta, 0, none⟩)) (w' := W) rfl (by go_simp) ?_
   refine ⟨γ, κ, δ, ?_, ?_⟩
   ·
    simp only [Act.put, List.setIfInBounds_toArray, List.set_cons_zero, List.set_cons_succ]; rfl
   ·
    exact ⟨hI.1, hI.2.1, hI.2.2.1, hI.2.2.2.1, hI.2.2.2.2.1, hI.2.2.2.2.2⟩
  case s3 =>
   refine rg_step rfl ?_
   rintro l a W ⟨γ, κ, δ, rfl, hI⟩ hl hd
   have d2 := hd 2 (by decide)
   clear hd
   have x0 := blk_cell (blk_below HN0.out hI.1) 0
   have x1 := blk_cell (blk_below HN0.out hI.1) 1
   simp at x0 x1
   refine rg_val (v := .int .i64 wd) (w' := W) rfl (by go_simp) ?_
   refine ⟨γ, κ, δ, ?_, ?_⟩
   ·
    simp only [Act.put, List.setIfInBounds_toArray, List.set_cons_zero, List.set_cons_succ]; rfl
   ·
    exact ⟨hI.1, hI.2.1, hI.2.2.1, hI.2.2.2.1, hI.2.2.2.2.1, hI.2.2.2.2.2⟩
  case s4 =>
   refine rg_step rfl ?_
   rintro l a W ⟨γ, κ, δ, rfl, hI⟩ hl hd
   clear hd
   refine rg_val (v := ptrT ta) (w' := W) rfl (by go_simp) ?_
   refine ⟨γ, κ, δ, ?_, ?_⟩
   ·
    simp only [Act.put, List.setIfInBounds_toArray, List.set_cons_zero, List.set_cons_succ]; rfl
   ·
    exact ⟨hI.1, hI.2.1, hI.2.2.1, hI.2.2.2.1, hI.2.2.2.2.1, hI.2.2.2.2.2⟩
  case s5 =>
   refine rg_step rfl ?_
   rintro l a W ⟨γ, κ, δ, rfl, hI⟩ hl hd
   have d4 := hd 4 (by decide)
   clear hd
   refine rg_val (v := ptrT ta) (w' := W) rfl (by go_simp) ?_
   refine ⟨γ, κ, δ, ?_, ?_⟩
   ·
    simp only [Act.put, List.setIfInBounds_toArray, List.set_cons_zero, List.set_cons_succ]; rfl
   ·
    exact ⟨hI.1, hI.2.1, hI.2.2.1, hI.2.2.2.1, hI.2.2.2.2.1, hI.2.2.2.2.2⟩
  case s6 =>
   refine rg_step rfl ?_
   rintro l a W ⟨γ, κ, δ, rfl, hI⟩ hl hd
   have d5 := hd 5 (by decide)
   clear hd
   refine rg_val (v := .pointer (some ⟨ta, 1, none⟩)) (w' := W) rfl (by go_simp) ?_
   refine ⟨γ, κ, δ, ?_, ?_⟩
   ·
    simp only [Act.put, List.setIfInBounds_toArray, List.set_cons_zero, List.set_cons_succ]; rfl
   ·
    exact ⟨hI.1, hI.2.1, hI.2.2.1, hI.2.2.2.1, hI.2.2.2.2.1, hI.2.2.2.2.2⟩
  case s7 =>
   refine rg_step rfl ?_
   rintro l a W ⟨γ, κ, δ, rfl, hI⟩ hl hd
   have d6 := hd 6 (by decide)
   clear hd
   have x0 := blk_cell (blk_below HN0.out hI.1) 0
   have x1 := blk_cell (blk_below HN0.out hI.1) 1
   simp at x0 x1
   refine rg_val (v := .slice (some ⟨gl, 0, none⟩) ls.length cl) (w' := W) rfl (by go_simp) ?_
   refine ⟨γ, κ, δ, ?_, ?_⟩
   ·
    simp only [Act.put, List.setIfInBounds_toArray, List.set_cons_zero, List.set_cons_succ]; rfl
   ·
    exact ⟨hI.1, hI.2.1, hI.2.2.1, hI.2.2.2.1, hI.2.2.2.2.1, hI.2.2.2.2.2⟩
  case s8 =>
   refine rg_step rfl ?_
   rintro l a W ⟨γ, κ, δ, rfl, hI⟩ hl hd
   have d7 := hd 7 (by decide)
   clear hd
   have h9 : l 9 = false := by
    cases hx : l 9 with
    | false => rfl
    | true => have := hI.2.2.2.1 hx; rw [hl] at this; cases this
   have h10 : l 10 = false := by
    cases hx : l 10 with
    | false => rfl
    | true => have := hI.2.2.2.2.1 hx; rw [h9] at this; cases this
   have h9' : upd l 8 9 = false := h9
   refine rg_call rfl (by go_simp; exact ⟨rfl, rfl⟩) ?_
   refine (cloneL.calls ⟨gl, 0, none⟩ cl ls W (Kd.C_below HLF.out.2.2 hI.1) HPOS.out HN.out).mono ?_
   rintro ee W' ⟨g, cap, rfl, ho, hb, -⟩
   refine ⟨_, rfl, g, cap, δ, ?_, ?_⟩
   ·
    simp only [Act.put, List.setIfInBounds_toArray, List.set_cons_zero, List.set_cons_succ, h9, h9']; rfl
   ·
    exact ⟨hI.1.trans (hb.mono hI.1.size), fun _ => ⟨Nat.le_trans hI.1.size (ho.lt g rfl).1, own_base ho hI.1.size⟩, (fun hx => by rw [show upd l 8 10 = l 10 from rfl, h10] at hx; cases hx), (fun _ => rfl), hI.2.2.2.2.1, hI.2.2.2.2.2⟩
  case s9 =>
   refine rg_step rfl ?_
   rintro l a W ⟨γ, κ, δ, rfl, hI⟩ hl hd
   have d3 := hd 3 (by decide)
   have d8 := hd 8 (by decide)
   clear hd
   refine rg_val (v := .agg #[.int .i64 wd, .slice (some ⟨γ, 0, none⟩) ls.length κ, .slice none 0 0]) (w' := W) rfl (by go_simp) ?_
   refine ⟨γ, κ, δ, ?_, ?_⟩
   ·
    simp only [Act.put, List.setIfInBounds_toArray, List.set_cons_zero, List.set_cons_succ]; rfl
   ·
    exact ⟨hI.1, hI.2.1, hI.2.2.1, fun _ => d8, fun _ => rfl, hI.2.2.2.2.2⟩
  case s10 =>
   refine rg_step rfl ?_
   rintro l a W ⟨γ, κ, δ, rfl, hI⟩ hl hd
   have d9 := hd 9 (by decide)
   clear hd
   have h11 : l 11 = false := by
    cases hx : l 11 with
    | false => rfl
    | true => have := hI.2.2.2.2.2 hx; rw [hl] at this; cases this
   have h11' : upd l 10 11 = false := h11
   have hw8 := hI.2.1 (hI.2.2.2.1 d9)
   have hgl := (hw8.2.lt γ rfl).2
   refine rg_val (v := .pointer (some ⟨W.heap.size, 0, none⟩)) (w' := W.alloc (.cells #[.int .i64 wd, .slice (some ⟨γ, 0, none⟩) ls.length κ, .slice none 0 0] 105)) rfl (by go_simp) ?_
   refine ⟨γ, κ, W.heap.size, ?_, ?_⟩
   ·
    simp only [Act.put, List.setIfInBounds_toArray, List.set_cons_zero, List.set_cons_succ, h11, h11']; rfl
   ·
    exact ⟨below_alloc hI.1 _, fun hx => ⟨(hI.2.1 hx).1, ownB (hI.2.1 hx).2 (below_alloc (Below.refl _ _) _)⟩, fun _ => ⟨blk_new W _, hI.1.size, by omega⟩, hI.2.2.2.1, fun _ => d9, fun _ => rfl⟩
  case s11 =>
   refine rg_step rfl ?_
   rintro l a W ⟨γ, κ, δ, rfl, hI⟩ hl hd
   have d10 := hd 10 (by decide)
   clear hd
   refine rg_val (v := .pointer (some ⟨δ, 0, none⟩)) (w' := W) rfl (by go_simp) ?_
   refine ⟨γ, κ, δ, ?_, ?_⟩
   ·
    simp only [Act.put, List.setIfInBounds_toArray, List.set_cons_zero, List.set_cons_succ]; rfl
   ·
    exact ⟨hI.1, hI.2.1, hI.2.2.1, hI.2.2.2.1, hI.2.2.2.2.1, fun _ => d10⟩
 case hend =>
  rintro l a W ⟨γ, κ, δ, rfl, hI⟩ hall
  have e0 := hall 0 (by decide)
  have e1 := hall 1 (by decide)
  have e2 := hall 2 (by decide)
  have e3 := hall 3 (by decide)
  have e4 := hall 4 (by decide)
  have e5 := hall 5 (by decide)
  have e6 := hall 6 (by decide)
  have e7 := hall 7 (by decide)
  have e8 := hall 8 (by decide)
  have e9 := hall 9 (by decide)
  have e10 := hall 10 (by decide)
  have e11 := hall 11 (by decide)
  clear hall
  have hL3 := hI.2.1 e8
  have hT3 := hI.2.2.1 e10
  simp only [e0, e1, e2, e3, e4, e5, e6, e7, e8, e9, e10, e11, sel_true]
  clear e0 e1 e2 e3 e4 e5 e6 e7 e8 e9 e10 e11
  have HB3 := aM' hI.1
  have HL3 := aM' hL3
  have HT3 := aM' hT3
  clear hI hL3 hT3
  obtain ⟨V3, hV3⟩ : ∃ V, V = W := ⟨_, rfl⟩
  rw [← hV3] at HB3 HL3 HT3
  have HO3 := aM' (HT.out.keep HB3.out)
  have HN3 := aM' (show TreeOwn w.heap.size V3 δ ⟨wd, ls, (treeT wd ls).rows.take 0⟩ γ κ (.slice none 0 0) [] from ⟨HT3.out.1, HL3.out.2, World.ownsRow_nil _ _ _ _, trivial, by simpa using HT3.out.2.2, (fun k hk => by cases hk), HT3.out.2.1⟩)
  have q2 := blk_cell HO3.out.ht 2
  simp at q2
  go_upto_region 4 with (fail)
  rw [← hV3]
  clear hV3
  go_wp2
  go_loopw [24] (fun v24 wr => ∃ i : Nat, v24 = .int .i64 (i : Int) ∧ Aside0 (i ≤ K + 1) ∧ Aside0 (Below V3.heap.size V3 wr ∨ True) ∧ Aside0 (Below w.heap.size w wr) ∧ Aside0 (∃ A9 c9 gs', TreeOwn w.heap.size wr δ ⟨wd, ls, (treeT wd ls).rows.take i⟩ γ κ (.slice A9 i c9) gs')) (fun v24 _ => K + 1 - (intOf v24).toNat)
  case atStart => exact ⟨0, rfl, ⟨Nat.zero_le _⟩, ⟨.inr trivial⟩, HB3, ⟨none, 0, [], HN3.out⟩⟩
  case round =>
   obtain ⟨i, rfl, HI, -, HBR, HNR⟩ := hrel
   have hi11 : i ≤ 11 := by have := HI.out; have := HK10.out; omega
   by_cases hlt : i < K + 1
   ·
    have b1 : decide ((i : Int) < (K : Int) + 1) = true := decide_eq_true (by omega)
    have b3 : decide ((i : Int) < ((K + 1 : Nat) : Int)) = true := decide_eq_true (by omega)
    have b2 : decide (i < K + 1) = true := decide_eq_true hlt
    obtain ⟨A9, c9, gs', hnr⟩ := HNR.out
    have HOR := aM' (HT.out.keep HBR.out)
    obtain ⟨r, hr⟩ : ∃ r, (treeT wd ls).rows[i]? = some r := ⟨_, List.getElem?_eq_getElem (by rw [HRL.out]; exact hlt)⟩
    have hor := HOR.out
    rw [← HRL.out] at hor
    obtain ⟨p, hp, l0, l1, hrc, hrk, -, -⟩ := hor.level hr
    have HRK := aM' hrk
    have hr1 : 1 ≤ r.length ∧ r.length ≤ 1024 := by
     have h1 : (treeT wd ls).rows = levelsV wd K (ls.map (leafNodeI wd)) := by rw [HKE.out]; rfl
     rw [h1, levelsV_get wd K i _ (by omega)] at hr
     have hl : (ls.map (leafNodeI wd)).length = 2 ^ K := by rw [List.length_map, HKE.out]; exact HKK.out.p
     obtain rfl := Option.some.inj hr
     rw [upV_len2 hl i (by omega)]
     have h2 : 2 ^ (K - i) ≤ 2 ^ K := Nat.pow_le_pow_right (by decide) (by omega)
     rw [List.length_map] at hl
     have := HN.out
     exact ⟨Nat.one_le_two_pow, by omega⟩
    have HR1 := aM' hr1
    have hdl : ((treeT wd ls).rows.take i).length = i := by rw [List.length_take, HRL.out]; omega
    have HDL := aM' hdl
    obtain ⟨done, hdone⟩ : ∃ d, d = (treeT wd ls).rows.take i := ⟨_, rfl⟩
    rw [← hdone] at hnr hdl
    have HDN := aM' hdone
    have HTK := aM' (show (treeT wd ls).rows.take (i + 1) = done ++ [r] by
     rw [hdone, List.take_add_one, hr]; rfl)
    have HNW := aM' hnr
    have HLT := aM' hlt
    have hic : (i : Int) < (K : Int) + 1 := by omega
    have hic2 : (i : Int) < ((K + 1 : Nat) : Int) := by omega
    clear hnr hor hp hrc hrk hr1 hdone hr
    subst hdl
    go_upto_region 7 with (fail)
    obtain ⟨g5, hg5⟩ : ∃ g, g = wr.heap.size := ⟨_, rfl⟩
    obtain ⟨V, hV⟩ : ∃ V, V = wr.alloc (.cells #[rowV p r, .int .i64 (done.length : Int)] 109) := ⟨_, rfl⟩
    have hbv : Below wr.heap.size wr V := by rw [hV]; exact below_alloc (Below.refl _ _) _
    have HBV := aM' (HBR.out.trans (hbv.mono HBR.out.size))
    have H5 := aM' (show V.heap[g5]? = some (.cells #[rowV p r, .int .i64 (done.length : Int)] 109 (0, 0)) by rw [hV, hg5]; exact blk_new _ _)
    have HNV := aM' (HNW.out.keep hbv)
    have HRV := aM' (Kd.C_below HRK.out hbv)
    simp only [← hg5, ← hV]
    clear hg5 hV hbv l0 l1
    have HHV := aM' (show w.heap.size ≤ V.heap.size from HBV.out.size)
    refine region_inv (fun l a W => ∃ γc : Nat, ∃ κc : Nat, ∃ γ1 : Nat, ∃ γ2 : Nat, ∃ κ2 : Nat, a = ({ tmps := #[ptrT ta, undef, .pointer none, .pointer (some ⟨δ, 0, none⟩), undef, .pointer (some ⟨g5, 0, none⟩), ptrT ta, .bool false, ptrT ta, ptrT ta, .pointer (some ⟨ta, 0, none⟩), .int .i64 wd, ptrT ta, ptrT ta, .pointer (some ⟨ta, 1, none⟩), .slice (some ⟨gl, 0, none⟩) ls.length cl, .slice (some ⟨γ, 0, none⟩) ls.length κ, .agg #[.int .i64 wd, .slice (some ⟨γ, 0, none⟩) ls.length κ, .slice none 0 0], .pointer (some ⟨δ, 0, none⟩), ptrT ta, .pointer (some ⟨ta, 0, none⟩), .pointer (some ⟨ta, 2, none⟩), .slice (some ⟨gv, 0, none⟩) (K + 1) cv, .int .i64 ((K : Int) + 1), .int .i64 (done.length : Int), .bool true, .pointer (some ⟨gv, done.length * 2, none⟩), .agg #[rowV p r, .int .i64 (done.length : Int)], sel (l 0) (.pointer (some ⟨δ, 0, none⟩)) (u28), sel (l 1) (.pointer (some ⟨δ, 0, none⟩)) (u29), sel (l 2) (.pointer (some ⟨δ, 0, none⟩)) (u30), sel (l 3) (.pointer (some ⟨δ, 2, none⟩)) (u31), sel (l 4) (.slice A9 done.length c9) (u32), sel (l 5) (.pointer (some ⟨g5, 0, none⟩)) (u33), sel (l 6) (.pointer (some ⟨g5, 0, none⟩)) (u34), sel (l 7) (.slice (some ⟨p.1, 0, none⟩) r.length p.2) (u35), sel (l 8) (.slice (some ⟨γc, 0, none⟩) r.length κc) (u36), sel (l 9) (.agg #[.slice (some ⟨γc, 0, none⟩) r.length κc]) (u37), sel (l 10) (.pointer (some ⟨g5, 1, none⟩)) (u38), sel (l 11) (.int .i64 (done.length : Int)) (u39), sel (l 12) (.agg #[.slice (some ⟨γc, 0, none⟩) r.length κc, .int .i64 (done.length : Int)]) (u40), sel (l 13) (.slice (some ⟨γ1, 0, none⟩) 1 1) (u41), sel (l 14) (.slice (some ⟨γ2, 0, none⟩) (done.length + 1) κ2) (u42), sel (l 15) (.pointer (some ⟨δ, 0, none⟩)) (u43), sel (l 16) (.pointer (some ⟨δ, 2, none⟩)) (u44), u45, undef], defers := [] } : Act) ∧ CpR w.heap.size V W wd ls δ γ κ (.slice A9 done.length c9) gs' done r l γc κc γ1 γ2 κ2) 18 rfl rfl (by kernel_rfl) ?h0 ?hend ?hstep
    case h0 => exact ⟨0, 0, 0, 0, 0, rfl, ⟨fun _ => below_drew (Below.refl _ _), (fun h => by cases h), (fun h => by cases h), (fun h => by cases h), (fun h => by cases h), (fun h => by cases h), (fun h => by cases h), (fun h => by cases h), (fun h => by cases h), (fun h => by cases h), (fun h => by cases h)⟩⟩
    case hstep =>
     refine rg_cons (rg_cons (rg_cons (rg_cons (rg_cons (rg_cons (rg_cons (rg_cons (rg_cons (rg_cons (rg_cons (rg_cons (rg_cons (rg_cons (rg_cons (rg_cons (rg_cons (rg_cons (rg_nil) ?s0) ?s1) ?s2) ?s3) ?s4) ?s5) ?s6) ?s7) ?s8) ?s9) ?s10) ?s11) ?s12) ?s13) ?s14) ?s15) ?s16) ?s17
     case s0 =>
      refine rg_step rfl ?_
      rintro l a W ⟨γc, κc, γ1, γ2, κ2, rfl, hI⟩ hl hd
      clear hd
      refine rg_val (v := .pointer (some ⟨δ, 0, none⟩)) (w' := W) rfl (by go_simp) ?_
      refine ⟨γc, κc, γ1, γ2, κ2, ?_, ?_⟩
      ·
       simp only [Act.put, List.setIfInBounds_toArray, List.set_cons_zero, List.set_cons_succ]; rfl
      ·
       exact hI.pure 0 (by decide) (fun h => absurd h (by decide)) (fun h => absurd h (by decide))
     case s1 =>
      refine rg_step rfl ?_
      rintro l a W ⟨γc, κc, γ1, γ2, κ2, rfl, hI⟩ hl hd
      clear hd
      refine rg_val (v := .pointer (some ⟨δ, 0, none⟩)) (w' := W) rfl (by go_simp) ?_
      refine ⟨γc, κc, γ1, γ2, κ2, ?_, ?_⟩
      ·
       simp only [Act.put, List.setIfInBounds_toArray, List.set_cons_zero, List.set_cons_succ]; rfl
      ·
       exact hI.pure 1 (by decide) (fun h => absurd h (by decide)) (fun h => absurd h (by decide))
     case s2 =>
      refine rg_step rfl ?_
      rintro l a W ⟨γc, κc, γ1, γ2, κ2, rfl, hI⟩ hl hd
      have d1 := hd 1 (by decide)
      clear hd
      refine rg_val (v := .pointer (some ⟨δ, 0, none⟩)) (w' := W) rfl (by go_simp) ?_
      refine ⟨γc, κc, γ1, γ2, κ2, ?_, ?_⟩
      ·
       simp only [Act.put, List.setIfInBounds_toArray, List.set_cons_zero, List.set_cons_succ]; rfl
      ·
       exact hI.pure 2 (by decide) (fun h => absurd h (by decide)) (fun h => absurd h (by decide))
     case s3 =>
      refine rg_step rfl ?_
      rintro l a W ⟨γc, κc, γ1, γ2, κ2, rfl, hI⟩ hl hd
      have d2 := hd 2 (by decide)
      clear hd
      refine rg_val (v := .pointer (some ⟨δ, 2, none⟩)) (w' := W) rfl (by go_simp) ?_
      refine ⟨γc, κc, γ1, γ2, κ2, ?_, ?_⟩
      ·
       simp only [Act.put, List.setIfInBounds_toArray, List.set_cons_zero, List.set_cons_succ]; rfl
      ·
       exact hI.pure 3 (by decide) (fun h => absurd h (by decide)) (fun h => absurd h (by decide))
     case s4 =>
      refine rg_step rfl ?_
      rintro l a W ⟨γc, κc, γ1, γ2, κ2, rfl, hI⟩ hl hd
      have d3 := hd 3 (by decide)
      clear hd
      have hb := hI.hA (hI.no4 hl)
      have x0 := blk_cell (blk_below HNV.out.ht hb) 2
      simp at x0
      refine rg_val (v := .slice A9 done.length c9) (w' := W) rfl (by go_simp) ?_
      refine ⟨γc, κc, γ1, γ2, κ2, ?_, ?_⟩
      ·
       simp only [Act.put, List.setIfInBounds_toArray, List.set_cons_zero, List.set_cons_succ]; rfl
      ·
       exact hI.pure 4 (by decide) (fun h => absurd h (by decide)) (fun h => absurd h (by decide))
     case s5 =>
      refine rg_step rfl ?_
      rintro l a W ⟨γc, κc, γ1, γ2, κ2, rfl, hI⟩ hl hd
      clear hd
      refine rg_val (v := .pointer (some ⟨g5, 0, none⟩)) (w' := W) rfl (by go_simp) ?_
      refine ⟨γc, κc, γ1, γ2, κ2, ?_, ?_⟩
      ·
       simp only [Act.put, List.setIfInBounds_toArray, List.set_cons_zero, List.set_cons_succ]; rfl
      ·
       exact hI.pure 5 (by decide) (fun h => absurd h (by decide)) (fun h => absurd h (by decide))
     case s6 =>
      refine rg_step rfl ?_
      rintro l a W ⟨γc, κc, γ1, γ2, κ2, rfl, hI⟩ hl hd
      have d5 := hd 5 (by decide)
      clear hd
      refine rg_val (v := .pointer (some ⟨g5, 0, none⟩)) (w' := W) rfl (by go_simp) ?_
      refine ⟨γc, κc, γ1, γ2, κ2, ?_, ?_⟩
      ·
       simp only [Act.put, List.setIfInBounds_toArray, List.set_cons_zero, List.set_cons_succ]; rfl
      ·
       exact hI.pure 6 (by decide) (fun h => absurd h (by decide)) (fun h => absurd h (by decide))
     case s7 =>
      refine rg_step rfl ?_
      rintro l a W ⟨γc, κc, γ1, γ2, κ2, rfl, hI⟩ hl hd
      have d6 := hd 6 (by decide)
      clear hd
      have hb := hI.hA (hI.no7 hl)
      have x0 := blk_cell (blk_below H5.out hb) 0
      simp at x0
      refine rg_val (v := .slice (some ⟨p.1, 0, none⟩) r.length p.2) (w' := W) rfl (by go_simp) ?_
      refine ⟨γc, κc, γ1, γ2, κ2, ?_, ?_⟩
      ·
       simp only [Act.put, List.setIfInBounds_toArray, List.set_cons_zero, List.set_cons_succ]; rfl
      ·
       exact hI.pure 7 (by decide) (fun h => absurd h (by decide)) (fun h => absurd h (by decide))
     case s8 =>
      refine rg_step rfl ?_
      rintro l a W ⟨γc, κc, γ1, γ2, κ2, rfl, hI⟩ hl hd
      have d7 := hd 7 (by decide)
      clear hd
      have h13 := hI.no8 hl
      have h14 := hI.no13 h13
      have hb := hI.hA h14
      have h9 : l 9 = false := by
       cases hx : l 9 with
       | false => rfl
       | true => rw [hI.o9 hx] at hl; cases hl
      have h12 : l 12 = false := by
       cases hx : l 12 with
       | false => rfl
       | true => rw [(hI.o12 hx).1] at h9; cases h9
      have h9' : upd l 8 9 = false := h9
      have h12' : upd l 8 12 = false := h12
      refine rg_call rfl (by go_simp; exact ⟨rfl, rfl⟩) ?_
      refine (cloneN.calls ⟨p.1, 0, none⟩ p.2 r W (Kd.C_below HRV.out hb) HR1.out.1 HR1.out.2).mono ?_
      rintro ee W' ⟨g, cap, rfl, ho, hb2⟩
      refine ⟨_, rfl, g, cap, γ1, γ2, κ2, ?_, ?_⟩
      ·
       simp only [Act.put, List.setIfInBounds_toArray, List.set_cons_zero, List.set_cons_succ, h9, h9', h12, h12']; rfl
      ·
       exact hI.cloned HHV.out hl d7 ho hb2
     case s9 =>
      refine rg_step rfl ?_
      rintro l a W ⟨γc, κc, γ1, γ2, κ2, rfl, hI⟩ hl hd
      have d8 := hd 8 (by decide)
      clear hd
      refine rg_val (v := .agg #[.slice (some ⟨γc, 0, none⟩) r.length κc]) (w' := W) rfl (by go_simp) ?_
      refine ⟨γc, κc, γ1, γ2, κ2, ?_, ?_⟩
      ·
       simp only [Act.put, List.setIfInBounds_toArray, List.set_cons_zero, List.set_cons_succ]; rfl
      ·
       exact hI.pure 9 (by decide) (fun _ => d8) (fun h => absurd h (by decide))
     case s10 =>
      refine rg_step rfl ?_
      rintro l a W ⟨γc, κc, γ1, γ2, κ2, rfl, hI⟩ hl hd
      clear hd
      refine rg_val (v := .pointer (some ⟨g5, 1, none⟩)) (w' := W) rfl (by go_simp) ?_
      refine ⟨γc, κc, γ1, γ2, κ2, ?_, ?_⟩
      ·
       simp only [Act.put, List.setIfInBounds_toArray, List.set_cons_zero, List.set_cons_succ]; rfl
      ·
       exact hI.pure 10 (by decide) (fun h => absurd h (by decide)) (fun h => absurd h (by decide))
     case s11 =>
      refine rg_step rfl ?_
      rintro l a W ⟨γc, κc, γ1, γ2, κ2, rfl, hI⟩ hl hd
      have d10 := hd 10 (by decide)
      clear hd
      have hb := hI.hA (hI.no11 hl)
      have x0 := blk_cell (blk_below H5.out hb) 1
      simp at x0
      refine rg_val (v := .int .i64 (done.length : Int)) (w' := W) rfl (by go_simp) ?_
      refine ⟨γc, κc, γ1, γ2, κ2, ?_, ?_⟩
      ·
       simp only [Act.put, List.setIfInBounds_toArray, List.set_cons_zero, List.set_cons_succ]; rfl
      ·
       exact hI.pure 11 (by decide) (fun h => absurd h (by decide)) (fun h => absurd h (by decide))
     case s12 =>
      refine rg_step rfl ?_
      rintro l a W ⟨γc, κc, γ1, γ2, κ2, rfl, hI⟩ hl hd
      have d9 := hd 9 (by decide)
      have d11 := hd 11 (by decide)
      clear hd
      refine rg_val (v := .agg #[.slice (some ⟨γc, 0, none⟩) r.length κc, .int .i64 (done.length : Int)]) (w' := W) rfl (by go_simp) ?_
      refine ⟨γc, κc, γ1, γ2, κ2, ?_, ?_⟩
      ·
       simp only [Act.put, List.setIfInBounds_toArray, List.set_cons_zero, List.set_cons_succ]; rfl
      ·
       exact hI.pure 12 (by decide) (fun h => absurd h (by decide)) (fun _ => ⟨d9, d11⟩)
     case s13 =>
      refine rg_step rfl ?_
      rintro l a W ⟨γc, κc, γ1, γ2, κ2, rfl, hI⟩ hl hd
      have d12 := hd 12 (by decide)
      clear hd
      refine rg_val (v := .slice (some ⟨W.heap.size, 0, none⟩) 1 1) (w' := W.alloc (.cells #[.slice (some ⟨γc, 0, none⟩) r.length κc, .int .i64 (done.length : Int)] 109 (0, 0))) rfl (by go_simp) ?_
      refine ⟨γc, κc, W.heap.size, γ2, κ2, ?_, ?_⟩
      ·
       simp only [Act.put, List.setIfInBounds_toArray, List.set_cons_zero, List.set_cons_succ]; rfl
      ·
       exact hI.made hl d12
     case s14 =>
      refine rg_step rfl ?_
      rintro l a W ⟨γc, κc, γ1, γ2, κ2, rfl, hI⟩ hl hd
      have d4 := hd 4 (by decide)
      have d13 := hd 13 (by decide)
      clear hd
      have h14 : l 14 = false := hl
      have hb := hI.hA h14
      have hgt := hI.hT d13 h14
      obtain ⟨g, κ', W', hrun, hown, hgr, hgg, -⟩ := run_append_lies (P := Tryd.prog) W 103 103 w.heap.size 109 j0 (.agg #[.slice none 0 0, .int .i64 0]) 2 32 Tryd.underlying103 hj hj0 hj1 hj2 rfl (by decide) (.slice A9 done.length c9) done.length _ (ownB HNV.out.hv hb) ⟨γ1, 0, none⟩ 1 1 [.slice (some ⟨γc, 0, none⟩) r.length κc, .int .i64 (done.length : Int)] rfl (World.news_of_block hgt) (by
       intro u hu
       simp only [List.mem_cons, List.not_mem_nil, or_false] at hu
       rcases hu with rfl | rfl <;> rfl) (by decide) (by unfold maxLen; omega) (by omega) (by have := HHV.out; have := hb.size; omega) W.heap.size rfl
      refine rg_val (v := .slice (some ⟨g, 0, none⟩) (done.length + 1) κ') (w' := W') rfl (exec_append (.tmp 32) (.tmp 41) 103 rfl (.slice A9 done.length c9) (.slice (some ⟨γ1, 0, none⟩) 1 1) (by show sel (l 4) _ _ = _; rw [d4]; rfl) (by show sel (l 13) _ _ = _; rw [d13]; rfl) hrun) ?_
      refine ⟨γc, κc, γ1, g, κ', ?_, ?_⟩
      ·
       simp only [Act.put, List.setIfInBounds_toArray, List.set_cons_zero, List.set_cons_succ]; rfl
      ·
       exact hI.appended HNV.out HHV.out hl d13 d4 hgr hown hgg
     case s15 =>
      refine rg_step rfl ?_
      rintro l a W ⟨γc, κc, γ1, γ2, κ2, rfl, hI⟩ hl hd
      have d0 := hd 0 (by decide)
      clear hd
      refine rg_val (v := .pointer (some ⟨δ, 0, none⟩)) (w' := W) rfl (by go_simp) ?_
      refine ⟨γc, κc, γ1, γ2, κ2, ?_, ?_⟩
      ·
       simp only [Act.put, List.setIfInBounds_toArray, List.set_cons_zero, List.set_cons_succ]; rfl
      ·
       exact hI.pure 15 (by decide) (fun h => absurd h (by decide)) (fun h => absurd h (by decide))
     case s16 =>
      refine rg_step rfl ?_
      rintro l a W ⟨γc, κc, γ1, γ2, κ2, rfl, hI⟩ hl hd
      have d15 := hd 15 (by decide)
      clear hd
      refine rg_val (v := .pointer (some ⟨δ, 2, none⟩)) (w' := W) rfl (by go_simp) ?_
      refine ⟨γc, κc, γ1, γ2, κ2, ?_, ?_⟩
      ·
       simp only [Act.put, List.setIfInBounds_toArray, List.set_cons_zero, List.set_cons_succ]; rfl
      ·
       exact hI.pure 16 (by decide) (fun h => absurd h (by decide)) (fun h => absurd h (by decide))
     case s17 =>
      refine rg_step rfl ?_
      rintro l a W ⟨γc, κc, γ1, γ2, κ2, rfl, hI⟩ hl hd
      have d14 := hd 14 (by decide)
      have d16 := hd 16 (by decide)
      clear hd
      obtain ⟨q1, q2, q3, q4⟩ := hI.hP d14 hl
      have hx := (q1 δ (blk_lt HNV.out.ht) (fun e => HNV.out.av δ e (List.mem_cons_self ..))).trans HNV.out.ht
      have y2 := blk_cell hx 2
      have yf := fun i => blk_frozen hx i
      simp at y2
      refine rg_skip rfl (by go_simp; rfl) ?_
      refine ⟨γc, κc, γ1, γ2, κ2, ?_, ?_⟩
      ·
       simp only [Act.put, List.setIfInBounds_toArray, List.set_cons_zero, List.set_cons_succ]; rfl
      ·
       exact hI.stored HNV.out hl d14
    case hend =>
     rintro l a W ⟨γc, κc, γ1, γ2, κ2, rfl, hI⟩ hall
     have e0 := hall 0 (by decide)
     have e1 := hall 1 (by decide)
     have e2 := hall 2 (by decide)
     have e3 := hall 3 (by decide)
     have e4 := hall 4 (by decide)
     have e5 := hall 5 (by decide)
     have e6 := hall 6 (by decide)
     have e7 := hall 7 (by decide)
     have e8 := hall 8 (by decide)
     have e9 := hall 9 (by decide)
     have e10 := hall 10 (by decide)
     have e11 := hall 11 (by decide)
     have e12 := hall 12 (by decide)
     have e13 := hall 13 (by decide)
     have e14 := hall 14 (by decide)
     have e15 := hall 15 (by decide)
     have e16 := hall 16 (by decide)
     have e17 := hall 17 (by decide)
     clear hall
     have hQ := hI.hQ e17
     simp only [e0, e1, e2, e3, e4, e5, e6, e7, e8, e9, e10, e11, e12, e13, e14, e15, e16, e17, sel_true]
     clear e0 e1 e2 e3 e4 e5 e6 e7 e8 e9 e10 e11 e12 e13 e14 e15 e16 e17
     have HQ1 := aM' hQ.1
     have HQ2 := aM' (HBV.out.trans hQ.2)
     clear hI hQ
     go_wp2
     go_roundw
     case rel => exact ⟨done.length + 1, by go_num, ⟨by have := HLT.out; omega⟩, ⟨.inr trivial⟩, ⟨HQ2.out⟩, ⟨some ⟨γ2, 0, none⟩, κ2, gs' ++ [(γc, κc)], by rw [HTK.out]; exact HQ1.out⟩⟩
     case measure => simp [intOf]; have := HLT.out; omega
   ·
    obtain rfl : i = K + 1 := by have := HI.out; omega
    have b1 : decide ((K : Int) + 1 < (K : Int) + 1) = false := decide_eq_false (by omega)
    have b3 : decide (((K + 1 : Nat) : Int) < ((K + 1 : Nat) : Int)) = false := decide_eq_false (by omega)
    have b2 : decide (K + 1 < K + 1) = false := decide_eq_false hlt
    obtain ⟨A9, c9, gs', hnr⟩ := HNR.out
    rw [← HRL.out, List.take_length] at hnr
    have HNW := aM' hnr
    clear hnr
    go_wp2
    go_ret
    exact ⟨_, _, _, _, _, rfl, HNW.out, HBR.out⟩
end Go.Proofs.YtfcodmdckcihmaaDoor.P
namespace Go.Proofs.YtfcodmdckcihmaaDoor.P
open Go.RowKit Go.Proofs.YtfcodmdckcihmaaDoorW.PrintWords Go.Proofs.YtfcodmdckcihmaaDoorW.PrintLast Go.Proofs.YtfcodmdckcihmaaDoorW.PrintMore
set_option linter.unusedVariables false
set_option linter.unusedSimpArgs false
set_option linter.unnecessarySimpa false
theorem heqRoot (d : Nat) (w : World) (x0 y0 : ByteArray) (x1 y1 : Int) (x2 y2 : Int) (x3 y3 : Int) :
  (Op.equalIn (d + 3) 41 (.agg #[.string x0, .int .u64 x1, .int .u64 x2, .int .i64 x3]) (.agg #[.string y0, .int .u64 y1, .int .u64 y2, .int .i64 y3])).run Tryd.prog w = .ok (x0.toList == y0.toList && ((x1 == y1 && (x2 == y2)) && (x3 == y3))) w := by
 refine eqA_of Tryd.underlying41 (by kernel_rfl) ?_
 refine eqf_cons (by rfl) (by go_simp; rfl) (by go_simp; rfl) (by go_simp) ?_
 refine eqf_cons (by rfl) (by go_simp) (by go_simp) (eqAU128 (d + 0) w _ _ _ _) ?_
 exact eqf_last (by rfl) (by go_simp; rfl) (by go_simp; rfl) (by go_simp)
end Go.Proofs.YtfcodmdckcihmaaDoor.P
namespace Go.Proofs.YtfcodmdckcihmaaDoor.P
open Go.RowKit Go.Proofs.YtfcodmdckcihmaaDoorW.PrintWords Go.Proofs.YtfcodmdckcihmaaDoorW.PrintLast Go.Proofs.YtfcodmdckcihmaaDoorW.PrintMore
set_option linter.unusedVariables false
set_option linter.unusedSimpArgs false
set_option linter.unnecessarySimpa false
theorem rdLeaf_nat (l : List SLeaf) (i : Nat) (h : i < l.length) : rd_TLeaf l (i : Int) = l[i] := by simp [rd_TLeaf, h]
theorem great15_loop (l : List SLeaf) (hl : l.length ≤ 9223372036854775807) : ∀ d i : Nat, i + d = l.length → Ev (fun k => paymasterlaw15_Great.l0 k l (i : Int)) ((l.drop i).any fun n => decide (200 < n.f1.size) || decide (200 < n.f2.size)) := by
 intro d
 induction d with
 | zero =>
  intro i hi
  refine Ev.step (f := fun _ => some false) (fun k => ?_) (ev_eq (Ev.now false) ?_)
  ·
   simp only [paymasterlaw15_Great.l0]; rw [if_neg (by omega)]
  ·
   rw [List.drop_of_length_le (by omega)]; rfl
 | succ d ih =>
  intro i hi
  have hlt : i < l.length := by omega
  rw [any_drop_succ _ l i hlt]
  by_cases hb : 200 < l[i].f1.size
  ·
   refine Ev.step (f := fun _ => some true) (fun k => ?_) (ev_eq (Ev.now true) (by simp [hb]))
   simp only [paymasterlaw15_Great.l0]; rw [if_pos (by omega), if_pos (by omega), rdLeaf_nat l i hlt, if_pos (by omega)]
  ·
   by_cases hc : 200 < l[i].f2.size
   ·
    refine Ev.step (f := fun _ => some true) (fun k => ?_) (ev_eq (Ev.now true) (by simp [hc]))
    simp only [paymasterlaw15_Great.l0]; rw [if_pos (by omega), if_pos (by omega), rdLeaf_nat l i hlt, if_neg (by omega), if_pos (by omega)]
   ·
    refine Ev.step (f := fun k => paymasterlaw15_Great.l0 k l ((i + 1 : Nat) : Int)) (fun k => ?_) (ev_eq (ih (i + 1) (by omega)) (by simp [hb, hc]))
    simp only [paymasterlaw15_Great.l0]; rw [if_pos (by omega), if_pos (by omega), rdLeaf_nat l i hlt, if_neg (by omega), if_neg (by omega), wrap64_id (by omega) (by omega)]; rfl
def greatL (l : List SLeaf) : Bool := decide (70 < l.length) || l.any fun n => decide (200 < n.f1.size) || decide (200 < n.f2.size)
theorem great15_ev (l : List SLeaf) (hl : l.length ≤ 9223372036854775807) : Ev (fun k => paymasterlaw15_Great.f k l) (greatL l) := by
 unfold paymasterlaw15_Great.f greatL
 by_cases h : 70 < l.length
 ·
  exact Ev.some_ (fun k => by rw [if_pos (by omega)]; simp [h])
 ·
  refine Ev.congr (fun k => by rw [if_neg (by omega)]; rfl) (ev_eq (great15_loop l hl l.length 0 (by omega)) (by simp [h]))
end Go.Proofs.YtfcodmdckcihmaaDoor.P
namespace Go.Proofs.YtfcodmdckcihmaaDoor.P
open Go.RowKit Go.Proofs.YtfcodmdckcihmaaDoorW.PrintWords Go.Proofs.YtfcodmdckcihmaaDoorW.PrintLast Go.Proofs.YtfcodmdckcihmaaDoorW.PrintMore
set_option linter.unusedVariables false
set_option linter.unusedSimpArgs false
set_option linter.unnecessarySimpa false
attribute [local go_sem high] eqANode heqRoot eqALeaf
theorem greatL_ok {l : List SLeaf} (h : greatL l = false) : l.length ≤ 70 ∧ ∀ x ∈ l, x.f1.size ≤ 200 ∧ x.f2.size ≤ 200 := by
 unfold greatL at h
 simp only [Bool.or_eq_false_iff, decide_eq_false_iff_not, List.any_eq_false] at h
 refine ⟨by omega, fun x hx => ?_⟩
 have := h.2 x hx
 simp at this
 omega
structure TB (w : World) (a ar : Nat) (wd : Int) (l : List SLeaf) (V : World) : Prop where
 t : TreeR a (treeT wd l) V
 r : RefT ar wd l V
 b : Below w.heap.size w V
theorem TB.below {w : World} {a ar : Nat} {wd : Int} {l : List SLeaf} {V V' : World} (h : TB w a ar wd l V) (hb : Below V.heap.size V V') : TB w a ar wd l V' := ⟨h.t.below hb, h.r.below hb, h.b.trans (hb.mono h.b.size)⟩
structure KB (w V0 : World) (g n : Nat) (V : World) : Prop where
 k : ∀ k, k ≠ g → V.heap[k]? = V0.heap[k]?
 c : ∃ cs, V.heap[g]? = some (.cells cs 36 (0, 0)) ∧ n * 5 ≤ cs.size
 b : Below w.heap.size w V
 s : V.heap.size = V0.heap.size
theorem KB.cell {w V0 V : World} {g n i : Nat} (h : KB w V0 g n V) (hi : i < n) : (∃ v, V.cell? ⟨g, i * 5 + 1, none⟩ = some v) ∧ V.frozen? ⟨g, i * 5 + 1, none⟩ = false := by
 obtain ⟨cs, h1, h2⟩ := h.c
 exact ⟨⟨cs[i * 5 + 1]'(by omega), by rw [blk_cell h1]; simp [show i * 5 + 1 < cs.size by omega]⟩, blk_frozen h1 _⟩
theorem KB.put {w V0 V : World} {g n i : Nat} (h : KB w V0 g n V) (hg : w.heap.size ≤ g) (v : Value) : KB w V0 g n (V.setCell ⟨g, i, none⟩ v) := by
 obtain ⟨cs, h1, h2⟩ := h.c
 exact ⟨fun k hk => (Below.heap_setCell _ _ _ _ hk).trans (h.k k hk), ⟨cs.setIfInBounds i v, blk_put h1 i v rfl, by simpa using h2⟩, below_set h.b hg, by simpa using h.s⟩
theorem KB.start {w V0 : World} {base g n cap : Nat} {xs : List SLeaf} (h : V0.ownsRow base 36 5 (.slice (some ⟨g, 0, none⟩) n cap) n (cellsL xs)) (hB : Below w.heap.size w V0) : KB w V0 g n V0 := by
 rcases h.2 with ⟨e, _⟩ | ⟨g', cap', cur, e, _, h2, h3, _, h5, _⟩
 ·
  cases e
 ·
  cases e
  exact ⟨fun _ _ => rfl, ⟨cur, h2, by rw [h5]; exact Nat.mul_le_mul_right 5 h3⟩, hB, rfl⟩
end Go.Proofs.YtfcodmdckcihmaaDoor.P
namespace Go.Proofs.YtfcodmdckcihmaaDoor.P
open Go.RowKit Go.Proofs.YtfcodmdckcihmaaDoorW.PrintWords Go.Proofs.YtfcodmdckcihmaaDoorW.PrintLast Go.Proofs.YtfcodmdckcihmaaDoorW.PrintMore
set_option linter.unusedVariables false
set_option linter.unusedSimpArgs false
set_option linter.unnecessarySimpa false
attribute [local go_sem high] eqANode heqRoot eqALeaf
structure LeafC (V : World) (ap : Addr) (y : SLeaf) : Prop where
 p0 : V.cell? ap = some (.bool y.f0)
 p1 : V.cell? ⟨ap.block, ap.off + 1, none⟩ = some (.string y.f1)
 p2 : V.cell? ⟨ap.block, ap.off + 2, none⟩ = some (.string y.f2)
 p3 : V.cell? ⟨ap.block, ap.off + 3, none⟩ = some (.int .u64 y.f3.f0)
 p4 : V.cell? ⟨ap.block, ap.off + 4, none⟩ = some (.int .u64 y.f3.f1)
theorem leafC_at {V : World} {A : Option Addr} {l : List SLeaf} {p : Nat} (h : Kd.C kLeaf V A l.length l) (hp : p < l.length) (hn : l.length ≤ 1024) : ∃ ad, A = some ad ∧ LeafC V (ad.add (p * 5)) l[p] := by
 obtain ⟨ad, e1, p0, p1, p2, p3, p4⟩ := at_TLeaf h (p : Int) (by omega) (by omega)
 have e3 : rd_TLeaf l (p : Int) = l[p] := by rw [rd_TLeaf, Int.toNat_natCast]; simp [List.getD_eq_getElem?_getD, hp]
 rw [e3, Int.toNat_natCast] at p0 p1 p2 p3 p4
 exact ⟨ad, e1, ⟨p0, p1, p2, p3, p4⟩⟩
theorem LeafC.below {V V' : World} {ap : Addr} {y : SLeaf} (h : LeafC V ap y) (hb : Below V.heap.size V V') : LeafC V' ap y := ⟨pw_cell_below hb h.p0, pw_cell_below hb h.p1, pw_cell_below hb h.p2, pw_cell_below hb h.p3, pw_cell_below hb h.p4⟩
structure At18 (w w' : World) (g12 g17 : Nat) (rt : SNode) (m : Int) (ap : Addr) (y : SLeaf) : Prop where
 b : Below w.heap.size w w'
 r : w'.heap[g12]? = some (.cells #[.string rt.f0, .int .u64 rt.f1.f0, .int .u64 rt.f1.f1, .int .i64 m] 41 (0, 0))
 k : w'.heap[g17]? = some (.cells #[.bool y.f0, .string y.f1, .string y.f2, .int .u64 y.f3.f0, .int .u64 y.f3.f1] 36 (0, 0))
 l : LeafC w' ap y
theorem At18.of {w W : World} {g12 g17 : Nat} {rt : SNode} {m : Int} {ap : Addr} {y : SLeaf} {C : Prop} (h : C ∧ At18 w W g12 g17 rt m ap y) : At18 w W g12 g17 rt m ap y := h.2
theorem At18.keep {w W w' : World} {g12 g17 : Nat} {rt : SNode} {m : Int} {ap : Addr} {y : SLeaf} (k : Below W.heap.size W w') (h : At18 w W g12 g17 rt m ap y) : At18 w w' g12 g17 rt m ap y := ⟨h.b.trans (k.mono h.b.size), blk_below h.r k, blk_below h.k k, h.l.below k⟩
theorem At18.cells {w w' : World} {g12 g17 : Nat} {rt : SNode} {m : Int} {ap : Addr} {y : SLeaf} (h : At18 w w' g12 g17 rt m ap y) : ((w'.cell? ⟨g12, 0, none⟩ = some (.string rt.f0) ∧ w'.cell? ⟨g12, 1, none⟩ = some (.int .u64 rt.f1.f0) ∧ w'.cell? ⟨g12, 2, none⟩ = some (.int .u64 rt.f1.f1) ∧ w'.cell? ⟨g12, 3, none⟩ = some (.int .i64 m)) ∧ (w'.cell? ⟨g17, 0, none⟩ = some (.bool y.f0) ∧ w'.cell? ⟨g17, 1, none⟩ = some (.string y.f1) ∧ w'.cell? ⟨g17, 2, none⟩ = some (.string y.f2) ∧ w'.cell? ⟨g17, 3, none⟩ = some (.int .u64 y.f3.f0) ∧ w'.cell? ⟨g17, 4, none⟩ = some (.int .u64 y.f3.f1)) ∧ (w'.cell? ap = some (.bool y.f0) ∧ w'.cell? ⟨ap.block, ap.off + 1, none⟩ = some (.string y.f1) ∧ w'.cell? ⟨ap.block, ap.off + 2, none⟩ = some (.string y.f2) ∧ w'.cell? ⟨ap.block, ap.off + 3, none⟩ = some (.int .u64 y.f3.f0) ∧ w'.cell? ⟨ap.block, ap.off + 4, none⟩ = some (.int .u64 y.f3.f1))) ∧ At18 w w' g12 g17 rt m ap y :=
 ⟨⟨⟨(blk_cell h.r 0).trans rfl, (blk_cell h.r 1).trans rfl, (blk_cell h.r 2).trans rfl, (blk_cell h.r 3).trans rfl⟩, ⟨(blk_cell h.k 0).trans rfl, (blk_cell h.k 1).trans rfl, (blk_cell h.k 2).trans rfl, (blk_cell h.k 3).trans rfl, (blk_cell h.k 4).trans rfl⟩, ⟨h.l.p0, h.l.p1, h.l.p2, h.l.p3, h.l.p4⟩⟩, h⟩
structure At28 (w w' : World) (g12 : Nat) (rt : SNode) (m : Int) (ap : Addr) (y : SLeaf) : Prop where
 b : Below w.heap.size w w'
 r : w'.heap[g12]? = some (.cells #[.string rt.f0, .int .u64 rt.f1.f0, .int .u64 rt.f1.f1, .int .i64 m] 41 (0, 0))
 l : LeafC w' ap y
theorem At28.of {w W : World} {g12 : Nat} {rt : SNode} {m : Int} {ap : Addr} {y : SLeaf} {C : Prop} (h : C ∧ At28 w W g12 rt m ap y) : At28 w W g12 rt m ap y := h.2
theorem At28.keep {w W w' : World} {g12 : Nat} {rt : SNode} {m : Int} {ap : Addr} {y : SLeaf} (k : Below W.heap.size W w') (h : At28 w W g12 rt m ap y) : At28 w w' g12 rt m ap y := ⟨h.b.trans (k.mono h.b.size), blk_below h.r k, h.l.below k⟩
theorem At28.cells {w w' : World} {g12 : Nat} {rt : SNode} {m : Int} {ap : Addr} {y : SLeaf} (h : At28 w w' g12 rt m ap y) : ((w'.cell? ⟨g12, 0, none⟩ = some (.string rt.f0) ∧ w'.cell? ⟨g12, 1, none⟩ = some (.int .u64 rt.f1.f0) ∧ w'.cell? ⟨g12, 2, none⟩ = some (.int .u64 rt.f1.f1) ∧ w'.cell? ⟨g12, 3, none⟩ = some (.int .i64 m)) ∧ (w'.cell? ap = some (.bool y.f0) ∧ w'.cell? ⟨ap.block, ap.off + 1, none⟩ = some (.string y.f1) ∧ w'.cell? ⟨ap.block, ap.off + 2, none⟩ = some (.string y.f2) ∧ w'.cell? ⟨ap.block, ap.off + 3, none⟩ = some (.int .u64 y.f3.f0) ∧ w'.cell? ⟨ap.block, ap.off + 4, none⟩ = some (.int .u64 y.f3.f1))) ∧ At28 w w' g12 rt m ap y :=
 ⟨⟨⟨(blk_cell h.r 0).trans rfl, (blk_cell h.r 1).trans rfl, (blk_cell h.r 2).trans rfl, (blk_cell h.r 3).trans rfl⟩, ⟨h.l.p0, h.l.p1, h.l.p2, h.l.p3, h.l.p4⟩⟩, h⟩
end Go.Proofs.YtfcodmdckcihmaaDoor.P
namespace Go.Proofs.YtfcodmdckcihmaaDoor.P
open Go.RowKit Go.Proofs.YtfcodmdckcihmaaDoorW.PrintWords Go.Proofs.YtfcodmdckcihmaaDoorW.PrintLast Go.Proofs.YtfcodmdckcihmaaDoorW.PrintMore
set_option linter.unusedVariables false
set_option linter.unusedSimpArgs false
set_option linter.unnecessarySimpa false
theorem ba_inj {a b c d : ByteArray} (h : a ++ b = c ++ d) (hs : a.size = c.size) : a = c ∧ b = d := by
 have h1 := ByteArray.append_inj_left h hs
 subst h1
 exact ⟨rfl, (ByteArray.append_right_inj a).1 h⟩
theorem ba_inj2 {a b c d : ByteArray} (h : a ++ b = c ++ d) (hs : b.size = d.size) : a = c ∧ b = d := by
 refine ba_inj h ?_
 have := congrArg ByteArray.size h
 rw [ByteArray.size_append, ByteArray.size_append] at this
 omega
theorem strOfNums_inj : ∀ {a b : List Int}, (∀ x ∈ a, 0 ≤ x ∧ x < 256) → (∀ x ∈ b, 0 ≤ x ∧ x < 256) → strOfNums a = strOfNums b → a = b := by
 intro a b ha hb h
 have h2 : (a.map fun n => UInt8.ofNat n.toNat) = b.map fun n => UInt8.ofNat n.toNat := by
  have := congrArg (fun z => z.data.toList) h
  simpa [strOfNums] using this
 clear h
 induction a generalizing b with
 | nil => cases b with
  | nil => rfl
  | cons y b => cases h2
 | cons x a ih =>
  cases b with
  | nil => cases h2
  | cons y b =>
   rw [List.map_cons, List.map_cons] at h2
   obtain ⟨h3, h4⟩ := List.cons.inj h2
   have hx := ha x (by simp)
   have hy := hb y (by simp)
   have h5 := congrArg UInt8.toNat h3
   rw [UInt8.toNat_ofNat', UInt8.toNat_ofNat'] at h5
   have e : x = y := by omega
   rw [e, ih (fun z hz => ha z (by simp [hz])) (fun z hz => hb z (by simp [hz])) h4]
theorem one_size (x y : Int) : (strOfNums [x]).size = (strOfNums [y]).size := by rw [strOfNums_size, strOfNums_size]; rfl
theorem half_inj (a b : Int) (ha : 0 ≤ a ∧ a < 18446744073709551616) (hb : 0 ≤ b ∧ b < 18446744073709551616) (h : (List.range 8).map (halfB a) = (List.range 8).map (halfB b)) : a = b := by
 simp only [List.range, List.range.loop, List.map_cons, List.map_nil, halfB, Nat.reduceMul, Nat.reduceSub, Int.reducePow, List.cons.injEq, and_true] at h
 omega
theorem u128B_inj {a b a' b' : Int} (h : u128B a b = u128B a' b') (ha : OkU ⟨a, b⟩) (hb : OkU ⟨a', b'⟩) : a = a' ∧ b = b' := by
 unfold u128B at h
 have hd : ∀ x : Int, ∀ y ∈ (List.range 8).map (halfB x), 0 ≤ y ∧ y < 256 := by
  intro x y hy
  obtain ⟨i, -, rfl⟩ := List.mem_map.1 hy
  unfold halfB; omega
 have h2 := strOfNums_inj (fun x hx => (List.mem_append.1 hx).elim (hd _ x) (hd _ x)) (fun x hx => (List.mem_append.1 hx).elim (hd _ x) (hd _ x)) h
 obtain ⟨h3, h4⟩ := List.append_inj h2 (by simp)
 exact ⟨half_inj a a' ha.h0 hb.h0 h3, half_inj b b' ha.h1 hb.h1 h4⟩
theorem nodeText_inj {l r l' r' : SNode} (h : nodeText l r = nodeText l' r') (hl : l.f0.size = l'.f0.size) (ul : OkU l.f1) (ur : OkU r.f1) (ul' : OkU l'.f1) (ur' : OkU r'.f1) : l = l' ∧ r = r' := by
 unfold nodeText at h
 obtain ⟨h, h1⟩ := ba_inj2 h (by rw [u128B_size, u128B_size])
 have hr : r.f0.size = r'.f0.size := by
  have := congrArg ByteArray.size h
  simp only [ByteArray.size_append, u128B_size] at this
  omega
 obtain ⟨h, h2⟩ := ba_inj2 h hr
 obtain ⟨h, h3⟩ := ba_inj2 h (by rw [u128B_size, u128B_size])
 obtain ⟨-, h4⟩ := ba_inj2 h hl
 obtain ⟨a, b⟩ := u128B_inj h1 ur ur'
 obtain ⟨c, d⟩ := u128B_inj h3 ul ul'
 rcases l with ⟨l0, l1, l2⟩; rcases l' with ⟨l0', l1', l2'⟩; rcases r with ⟨r0, r1, r2⟩; rcases r' with ⟨r0', r1', r2'⟩
 dsimp only at *
 subst a b c d h2 h4
 exact ⟨rfl, rfl⟩
theorem idFrom_size (s : ByteArray) : ∀ b n i : Nat, s.size ≤ i + b → idFrom s b n i = true → s.size + 4 * n ≤ i + 96
 | 0, n, i, hi, h => by
  unfold idFrom at h
  simp at h
  omega
 | b + 1, n, i, hi, h => by
  unfold idFrom at h
  split at h
  ·
   split at h
   ·
    cases h
   ·
    rename_i h1 h2
    split at h
    ·
     have h4 := decode_4 s i
     have hp : 1 ≤ (Utf8.decode s i).2 := by
      rcases Nat.eq_zero_or_pos (Utf8.decode s i).2 with h0 | h0
      ·
       rcases runeI_2 s i h1 with h3 | h3
       ·
        exact absurd h3 h2
       ·
        rw [h0] at h3; exact absurd h3 h2
      ·
       exact h0
     have := idFrom_size s b (n + 1) _ (by omega) h
     omega
    ·
     cases h
  ·
   simp at h
   omega
theorem mayId_size {s : ByteArray} (h : mayIdI s = true) : s.size ≤ 96 := by
 have := idFrom_size s s.size 0 0 (by omega) h
 omega
theorem szI_inj {a b c d : ByteArray} (h : szI a ++ b = szI c ++ d) (ha : a.size < 256) (hc : c.size < 256) : a = c ∧ b = d := by
 unfold szI at h
 rw [ByteArray.append_assoc, ByteArray.append_assoc] at h
 obtain ⟨h1, h2⟩ := ba_inj h (one_size _ _)
 have h3 := strOfNums_inj (by intro x hx; simp at hx; omega) (by intro x hx; simp at hx; omega) h1
 simp only [List.cons.injEq, and_true] at h3
 exact ba_inj h2 (by omega)
theorem mayLeaf_salt {l : SLeaf} (h : mayLeafI l = true) : l.f2.size ≤ 32 := by
 unfold mayLeafI at h
 split at h
 ·
  cases h
 ·
  omega
theorem mayLeaf_pad {l : SLeaf} (h : mayLeafI l = true) (hp : l.f0 = true) : l.f1 = ⟨#[]⟩ ∧ l.f3 = ⟨0, 0⟩ := by
 unfold mayLeafI at h
 split at h
 ·
  cases h
 ·
  try rw [if_pos hp] at h
  split at h
  ·
   rename_i h1
   simp at h
   refine ⟨?_, ?_⟩
   ·
    refine ByteArray.ext ?_
    have : l.f1.data.toList = [] := by simpa [ByteArray.toList_eq] using h1
    simpa using this
   ·
    rcases e : l.f3 with ⟨a, b⟩
    rw [e] at h
    dsimp only at h
    rw [h.1, h.2]
  ·
   cases h
theorem mayLeaf_id {l : SLeaf} (h : mayLeafI l = true) (hp : l.f0 = false) : mayIdI l.f1 = true := by
 unfold mayLeafI at h
 split at h
 ·
  cases h
 ·
  rw [if_neg (by rw [hp]; decide)] at h
  exact h
theorem leafText_inj {a b : SLeaf} (ha : mayLeafI a = true) (hb : mayLeafI b = true) (ua : OkU a.f3) (ub : OkU b.f3) (h : leafTextI a = leafTextI b) : a = b := by
 unfold leafTextI at h
 rw [if_pos ha, if_pos hb] at h
 have sa := mayLeaf_salt ha
 have sb := mayLeaf_salt hb
 cases pa : a.f0 with
 | true =>
  cases pb : b.f0 with
  | true =>
   rw [if_pos pa, if_pos pb] at h
   obtain ⟨-, h1⟩ := ba_inj h (one_size _ _)
   have h2 := (szI_inj (a := a.f2) (c := b.f2) (b := ⟨#[]⟩) (d := ⟨#[]⟩) (by rw [h1]) (by omega) (by omega)).1
   obtain ⟨i1, i2⟩ := mayLeaf_pad ha pa
   obtain ⟨j1, j2⟩ := mayLeaf_pad hb pb
   rcases a with ⟨a0, a1, a2, a3⟩; rcases b with ⟨b0, b1, b2, b3⟩
   dsimp only at *
   subst pa pb h2 i1 i2 j1 j2
   rfl
  | false =>
   rw [if_pos pa, if_neg (by rw [pb]; decide), ByteArray.append_assoc, ByteArray.append_assoc] at h
   obtain ⟨h1, -⟩ := ba_inj h (one_size _ _)
   have h3 := strOfNums_inj (by intro x hx; simp at hx; omega) (by intro x hx; simp at hx; omega) h1
   simp at h3
 | false =>
  cases pb : b.f0 with
  | true =>
   rw [if_neg (by rw [pa]; decide), if_pos pb, ByteArray.append_assoc, ByteArray.append_assoc] at h
   obtain ⟨h1, -⟩ := ba_inj h (one_size _ _)
   have h3 := strOfNums_inj (by intro x hx; simp at hx; omega) (by intro x hx; simp at hx; omega) h1
   simp at h3
  | false =>
   rw [if_neg (by rw [pa]; decide), if_neg (by rw [pb]; decide), ByteArray.append_assoc, ByteArray.append_assoc, ByteArray.append_assoc, ByteArray.append_assoc] at h
   have za := mayId_size (mayLeaf_id ha pa)
   have zb := mayId_size (mayLeaf_id hb pb)
   obtain ⟨-, h1⟩ := ba_inj h (one_size _ _)
   obtain ⟨h2, h3⟩ := szI_inj h1 (by omega) (by omega)
   obtain ⟨h4, h5⟩ := szI_inj h3 (by omega) (by omega)
   obtain ⟨h6, h7⟩ := u128B_inj h5 ua ub
   rcases a with ⟨a0, a1, a2, a3, a4⟩; rcases b with ⟨b0, b1, b2, b3, b4⟩
   dsimp only at *
   subst pa pb h2 h4 h6 h7
   rfl
theorem leaf_may {w : Int} {x : SLeaf} (h : NodeK w (leafNodeI w x)) : mayLeafI x = true := by
 obtain ⟨h1, h2, h3⟩ := nodeOf_w h.of
 unfold leafNodeI at h3
 split at h3
 ·
  rename_i h4; exact h4.2
 ·
  have : ((ByteArray.size (⟨#[]⟩ : ByteArray) : Nat) : Int) = w := h3
  have e : ByteArray.size (⟨#[]⟩ : ByteArray) = 0 := rfl
  rw [e] at this
  omega
theorem leafNodeI_f0 {w : Int} {x : SLeaf} (hw : 1 ≤ w ∧ w ≤ 32) (h : mayLeafI x = true) : (leafNodeI w x).f0 = dgI w (leafTextI x) := by
 unfold leafNodeI; rw [if_pos ⟨hw, h⟩]
end Go.Proofs.YtfcodmdckcihmaaDoor.P
namespace Go.Proofs.YtfcodmdckcihmaaDoor.P
open Go.RowKit Go.Proofs.YtfcodmdckcihmaaDoorW.PrintWords Go.Proofs.YtfcodmdckcihmaaDoorW.PrintLast Go.Proofs.YtfcodmdckcihmaaDoorW.PrintMore
set_option linter.unusedVariables false
set_option linter.unusedSimpArgs false
set_option linter.unnecessarySimpa false
attribute [local go_sem] Oper.semAt_some sel_true
theorem KeepS.below {S : Nat → Prop} {W w w' : World} (h : KeepS S W w) (hlt : ∀ k, S k → k < W.heap.size) (hb : Below w.heap.size w w') : KeepS S W w' := fun k hk => by
 have h1 := h k hk
 have h2 : k < w.heap.size := by
  rw [Array.getElem?_eq_getElem (hlt k hk)] at h1
  exact (Array.getElem?_eq_some_iff.1 h1).1
 exact (hb.block k h2).trans h1
end Go.Proofs.YtfcodmdckcihmaaDoor.P
namespace Go.Proofs.YtfcodmdckcihmaaDoor.P
open Go.RowKit Go.Proofs.YtfcodmdckcihmaaDoorW.PrintWords Go.Proofs.YtfcodmdckcihmaaDoorW.PrintLast Go.Proofs.YtfcodmdckcihmaaDoorW.PrintMore
set_option linter.unusedVariables false
set_option linter.unusedSimpArgs false
set_option linter.unnecessarySimpa false
attribute [local go_sem] Oper.semAt_some sel_true
abbrev entA (x : SLeaf) (p : Int) (s : Value) : Array Value := #[.bool x.f0, .string x.f1, .string x.f2, .int .u64 x.f3.f0, .int .u64 x.f3.f1, .int .u64 p, s]
abbrev entZ : Array Value := #[.bool false, .string ⟨#[]⟩, .string ⟨#[]⟩, .int .u64 0, .int .u64 0, .int .u64 0, .slice none 0 0]
structure OfS (w : World) (x : SLeaf) (p g8 H : Nat) (pre : List SNode) (W : World) : Prop where
 hB : Below w.heap.size w W
 h4 : W.heap[w.heap.size]? = some (.cells entZ 70 (0, 0))
 lo : w.heap.size < g8
 hi : g8 < H
 b : ∃ A c, W.heap[g8]? = some (.cells (entA x (p : Int) (.slice A pre.length c)) 70 (0, 0)) ∧ W.ownsRow H 46 3 (.slice A pre.length c) pre.length (cellsN pre)
section
variable {w : World} {x : SLeaf} {p g8 H : Nat} {pre : List SNode} {W W' : World}
theorem OfS.below (h : OfS w x p g8 H pre W) (hb : Below W.heap.size W W') : OfS w x p g8 H pre W' := by
 obtain ⟨A, c, h1, h2⟩ := h.b
 exact ⟨h.hB.trans (hb.mono h.hB.size), blk_below h.h4 hb, h.lo, h.hi, A, c, blk_below h1 hb, ownB h2 hb⟩
theorem OfS.grown {row : Option Nat} (h : OfS w x p g8 H pre W) (hg : W.grownBy W' row) (hr : ∀ r, row = some r → w.heap.size < r ∧ ∃ o, W.heap[r]? = some o ∧ o.isCells = false) : OfS w x p g8 H pre W' := by
 obtain ⟨A, c, h1, h2⟩ := h.b
 have hno : ∀ k cs t f, W.heap[k]? = some (Obj.cells cs t f) → some k ≠ row := fun k cs t f hk e => by
  obtain ⟨-, o, ho, hc⟩ := hr k e.symm
  rw [hk] at ho; cases ho; cases hc
 refine ⟨below_grown h.hB hg (fun r e => by have := (hr r e).1; omega), (hg.block _ (blk_lt h.h4) (hno _ _ _ _ h.h4)).trans h.h4, h.lo, h.hi, A, c, (hg.block _ (blk_lt h1) (hno _ _ _ _ h1)).trans h1, ownAny_keep h2 (fun g hg2 => ?_)⟩
 obtain ⟨cs, h3⟩ := own_cells h2 hg2
 exact hg.block g (blk_lt h3) (hno _ _ _ _ h3)
theorem OfS.more {y : SNode} {A : Option Addr} {c : Nat} {A' : Option Addr} {c' : Nat} (h : OfS w x p g8 H pre W) (hH : w.heap.size < H) (h1 : W.heap[g8]? = some (.cells (entA x (p : Int) (.slice A pre.length c)) 70 (0, 0))) (h2 : W.ownsRow H 46 3 (.slice A pre.length c) pre.length (cellsN pre))
  (hgr : W.grownBy W' (Value.slice A pre.length c).ownBlock) (hown : W'.ownsRow H 46 3 (.slice A' (pre.length + 1) c') (pre.length + 1) (cellsN pre ++ [.string y.f0, .int .u64 y.f1.f0, .int .u64 y.f1.f1])) :
  OfS w x p g8 H (pre ++ [y]) (W'.setCell ⟨g8, 6, none⟩ (.slice A' (pre.length + 1) c')) := by
 have hlo := h.lo
 have hhi := h.hi
 have hk : ∀ k, k < H → k < W.heap.size → W'.heap[k]? = W.heap[k]? := fun k hk hlt => hgr.block k hlt (fun e => by have := (h2.lt k e.symm).1; omega)
 have hl : (pre ++ [y]).length = pre.length + 1 := by simp
 refine ⟨(below_grown h.hB hgr (fun r e => by have := (h2.lt r e).1; omega)).setCell (by show w.heap.size ≤ g8; omega) _, (Below.heap_setCell _ _ _ _ (by show w.heap.size ≠ g8; omega)).trans ((hk _ (by omega) (blk_lt h.h4)).trans h.h4), hlo, hhi, A', c', ?_, ?_⟩
 ·
  rw [hl]
  exact blk_put ((hk g8 hhi (blk_lt h1)).trans h1) 6 _ rfl
 ·
  rw [hl, cellsN_append]
  exact ownAny_keep hown (fun g hg => Below.heap_setCell _ _ _ _ (by have := (hown.lt g hg).1; show g ≠ g8; omega))
end
end Go.Proofs.YtfcodmdckcihmaaDoor.P
namespace Go.Proofs.YtfcodmdckcihmaaDoor.P
open Go.RowKit Go.Proofs.YtfcodmdckcihmaaDoorW.PrintWords Go.Proofs.YtfcodmdckcihmaaDoorW.PrintLast Go.Proofs.YtfcodmdckcihmaaDoorW.PrintMore
set_option linter.unusedVariables false
set_option linter.unusedSimpArgs false
set_option linter.unnecessarySimpa false
theorem pairsV_drop (w : Int) : ∀ (j : Nat) (l : List SNode), 2 * j ≤ l.length → pairsV w (l.drop (2 * j)) = (pairsV w l).drop j
 | 0, l, _ => rfl
 | j + 1, a :: b :: l, h => by
  rw [show 2 * (j + 1) = 2 * j + 1 + 1 by omega, List.drop_succ_cons, List.drop_succ_cons, pairsV, List.drop_succ_cons, pairsV_drop w j l (by simp at h; omega)]
theorem pairsV_take (w : Int) : ∀ (j : Nat) (l : List SNode), 2 * j ≤ l.length → pairsV w (l.take (2 * j)) = (pairsV w l).take j
 | 0, l, _ => rfl
 | j + 1, a :: b :: l, h => by
  rw [show 2 * (j + 1) = 2 * j + 1 + 1 by omega, List.take_succ_cons, List.take_succ_cons, pairsV, pairsV, List.take_succ_cons, pairsV_take w j l (by simp at h; omega)]
theorem upV_chunk (w : Int) : ∀ (n K q : Nat) (l : List SNode), l.length = 2 ^ K → n ≤ K → q < 2 ^ (K - n) → (upV w n l).getD q zeroN = treeV w n ((l.drop (q * 2 ^ n)).take (2 ^ n))
 | 0, K, q, l, hl, _, hq => by
  rw [upV, Nat.pow_zero, Nat.mul_one, treeV, List.getD_eq_getElem?_getD, List.headD_eq_head?_getD, List.head?_take, if_neg (by decide), List.head?_drop]
 | n + 1, 0, q, l, hl, h, _ => by omega
 | n + 1, K + 1, q, l, hl, h, hq => by
  have h2 : (2 : Nat) ^ (K + 1) = 2 * 2 ^ K := by rw [Nat.pow_succ, Nat.mul_comm]
  have h3 : (2 : Nat) ^ (n + 1) = 2 * 2 ^ n := by rw [Nat.pow_succ, Nat.mul_comm]
  rw [show K + 1 - (n + 1) = K - n by omega] at hq
  have h4 : (q + 1) * 2 ^ n ≤ 2 ^ K := by
   have := Nat.mul_le_mul_right (2 ^ n) (show q + 1 ≤ 2 ^ (K - n) from hq)
   rw [← Nat.pow_add, show K - n + n = K by omega] at this
   exact this
  have h5 : (q + 1) * 2 ^ n = q * 2 ^ n + 2 ^ n := by rw [Nat.add_mul, Nat.one_mul]
  have e : q * 2 ^ (n + 1) = 2 * (q * 2 ^ n) := by rw [h3, ← Nat.mul_assoc, Nat.mul_comm q 2, Nat.mul_assoc]
  rw [upV, upV_chunk w n K q _ (pairsV_len w (2 ^ K) l (hl.trans h2)) (by omega) hq, treeV_pairs w n _ ?_, e, h3, pairsV_take w _ _ ?_, pairsV_drop w _ _ ?_]
  ·
   omega
  ·
   rw [List.length_drop]; omega
  ·
   rw [List.length_take, List.length_drop]; omega
theorem upV_top (w : Int) (K : Nat) (l : List SNode) (hl : l.length = 2 ^ K) : (upV w K l).getD 0 zeroN = treeV w K l := by
 rw [upV_chunk w K K 0 l hl (Nat.le_refl _) (by rw [Nat.sub_self]; decide), Nat.zero_mul, List.drop_zero, List.take_of_length_le (by omega)]
end Go.Proofs.YtfcodmdckcihmaaDoor.P
namespace Go.Proofs.YtfcodmdckcihmaaDoor.P
open Go.RowKit Go.Proofs.YtfcodmdckcihmaaDoorW.PrintWords Go.Proofs.YtfcodmdckcihmaaDoorW.PrintLast Go.Proofs.YtfcodmdckcihmaaDoorW.PrintMore
set_option linter.unusedVariables false
set_option linter.unusedSimpArgs false
set_option linter.unnecessarySimpa false
theorem top_tree {wd : Int} {k : List SLeaf} (hn : NewOk wd k) : topI (treeT wd k) = treeV wd k.length.log2 (k.map (leafNodeI wd)) := by
 have hl : (k.map (leafNodeI wd)).length = 2 ^ k.length.log2 := by rw [List.length_map]; exact hn.p
 rw [levels_top, ← upV_top wd _ _ hl]
 have h1 := upV_len2 (w := wd) hl k.length.log2 (Nat.le_refl _)
 rw [Nat.sub_self] at h1
 match e : upV wd k.length.log2 (k.map (leafNodeI wd)), h1 with
 | [y], _ => rfl
end Go.Proofs.YtfcodmdckcihmaaDoor.P
namespace Go.Proofs.YtfcodmdckcihmaaDoor.P
open Go.RowKit Go.Proofs.YtfcodmdckcihmaaDoorW.PrintWords Go.Proofs.YtfcodmdckcihmaaDoorW.PrintLast Go.Proofs.YtfcodmdckcihmaaDoorW.PrintMore
set_option linter.unusedVariables false
set_option linter.unusedSimpArgs false
set_option linter.unnecessarySimpa false
theorem pairsV_get (w : Int) : ∀ (m : Nat) (l : List SNode) (q : Nat), l.length = 2 * m → q < m → (pairsV w l).getD q zeroN = joinV w (l.getD (2 * q) zeroN) (l.getD (2 * q + 1) zeroN)
 | m + 1, a :: b :: l, 0, h, _ => rfl
 | m + 1, a :: b :: l, q + 1, h, hq => by
  rw [pairsV, List.getD_cons_succ, pairsV_get w m l q (by simp at h; omega) (by omega), show 2 * (q + 1) = 2 * q + 1 + 1 by omega]
  simp only [List.getD_cons_succ]
def upT (w : Int) (l : List SNode) (n q : Nat) : ByteArray := nodeText ((upV w n l).getD (2 * q) zeroN) ((upV w n l).getD (2 * q + 1) zeroN)
theorem upT_hash {w : Int} {K n q : Nat} {l : List SNode} (hl : l.length = 2 ^ K) (hn : n < K) (hq : q < 2 ^ (K - (n + 1))) : ((upV w (n + 1) l).getD q zeroN).f0 = dgI w (upT w l n q) := by
 have h1 := upV_len2 (w := w) hl n (by omega)
 rw [upV_succ, pairsV_get w (2 ^ (K - (n + 1))) _ _ (by rw [h1, show K - n = (K - (n + 1)) + 1 by omega, Nat.pow_succ, Nat.mul_comm]) hq]
 rfl
theorem upV_getK {w : Int} {K n q : Nat} {l : List SNode} (hl : l.length = 2 ^ K) (hk : ∀ x ∈ l, NodeK w x) (ht : totL l < 340282366920938463463374607431768211456) (hn : n ≤ K) (hq : q < 2 ^ (K - n)) : NodeK w ((upV w n l).getD q zeroN) := by
 obtain ⟨h1, h2, -⟩ := up_ok hl hk ht n hn
 rw [List.getD_eq_getElem?_getD, List.getElem?_eq_getElem (by omega)]
 exact h2 _ (List.getElem_mem (by omega))
theorem nodeK_size {w : Int} {x y : SNode} (hx : NodeK w x) (hy : NodeK w y) : x.f0.size = y.f0.size := by
 have h1 := (nodeOf_w hx.of).2.2
 have h2 := (nodeOf_w hy.of).2.2
 omega
theorem other_way {w : Int} {K p : Nat} {l l' : List SNode} (hl : l.length = 2 ^ K) (hl' : l'.length = 2 ^ K) (hp : p < 2 ^ K) (hk : ∀ x ∈ l, NodeK w x) (hk' : ∀ x ∈ l', NodeK w x) (ht : totL l < 340282366920938463463374607431768211456) (ht' : totL l' < 340282366920938463463374607431768211456)
  (hno : ∀ n, n < K → ¬ (upT w l n (p / 2 ^ (n + 1)) ≠ upT w l' n (p / 2 ^ (n + 1)) ∧ dgI w (upT w l n (p / 2 ^ (n + 1))) = dgI w (upT w l' n (p / 2 ^ (n + 1)))))
  (hr : ((upV w K l).getD 0 zeroN).f0 = ((upV w K l').getD 0 zeroN).f0) : ∀ d n, n + d = K → ((upV w n l).getD (p / 2 ^ n) zeroN).f0 = ((upV w n l').getD (p / 2 ^ n) zeroN).f0 := by
 intro d
 induction d with
 | zero =>
  intro n hn
  obtain rfl : n = K := by omega
  rw [Nat.div_eq_of_lt hp]
  exact hr
 | succ d ih =>
  intro n hn
  have h := ih (n + 1) (by omega)
  have hq := div_lt hp (show n + 1 ≤ K by omega)
  rw [upT_hash hl (by omega) hq, upT_hash hl' (by omega) hq] at h
  have e : upT w l n (p / 2 ^ (n + 1)) = upT w l' n (p / 2 ^ (n + 1)) := Classical.byContradiction fun hne => hno n (by omega) ⟨hne, h⟩
  have h2 : 2 ^ (K - n) = 2 * 2 ^ (K - (n + 1)) := by rw [show K - n = (K - (n + 1)) + 1 by omega, Nat.pow_succ, Nat.mul_comm]
  have e2 : p / 2 ^ (n + 1) = p / 2 ^ n / 2 := by rw [Nat.pow_succ, Nat.div_div_eq_div_mul]
  rw [e2] at e hq
  generalize p / 2 ^ n = a at e hq ⊢
  have k1 := upV_getK (q := 2 * (a / 2)) hl hk ht (show n ≤ K by omega) (by omega)
  have k2 := upV_getK (q := 2 * (a / 2) + 1) hl hk ht (show n ≤ K by omega) (by omega)
  have k1' := upV_getK (q := 2 * (a / 2)) hl' hk' ht' (show n ≤ K by omega) (by omega)
  have k2' := upV_getK (q := 2 * (a / 2) + 1) hl' hk' ht' (show n ≤ K by omega) (by omega)
  obtain ⟨i1, i2⟩ := nodeText_inj e (nodeK_size k1 k1') k1.u k2.u k1'.u k2'.u
  rcases Nat.mod_two_eq_zero_or_one a with h0 | h0
  ·
   rw [show 2 * (a / 2) = a by omega] at i1; rw [i1]
  ·
   rw [show 2 * (a / 2) + 1 = a by omega] at i2; rw [i2]
theorem other_leaf {wd : Int} {ls : List SLeaf} {m p : Nat} {x : SLeaf} (hn : NewOk wd ls) (hn' : NewOk wd (ls.set p x)) (hm : m = ls.length.log2) (hp : p < ls.length) (ux : OkU x.f3) (ul : OkU ls[p].f3)
  (hr : (topI (treeT wd ls)).f0 = (topI (treeT wd (ls.set p x))).f0)
  (h0 : ¬ (leafTextI ls[p] ≠ leafTextI x ∧ dgI wd (leafTextI ls[p]) = dgI wd (leafTextI x)))
  (hno : ∀ n, n < m → ¬ (upT wd (ls.map (leafNodeI wd)) n (p / 2 ^ (n + 1)) ≠ upT wd ((ls.set p x).map (leafNodeI wd)) n (p / 2 ^ (n + 1)) ∧ dgI wd (upT wd (ls.map (leafNodeI wd)) n (p / 2 ^ (n + 1))) = dgI wd (upT wd ((ls.set p x).map (leafNodeI wd)) n (p / 2 ^ (n + 1))))) : ls[p] = x := by
 have hl : (ls.map (leafNodeI wd)).length = 2 ^ m := by rw [List.length_map, hm]; exact hn.p
 have hl' : ((ls.set p x).map (leafNodeI wd)).length = 2 ^ m := by rw [List.length_map, List.length_set, hm]; exact hn.p
 have hp2 : p < 2 ^ m := by rw [List.length_map] at hl; omega
 rw [top_tree hn, top_tree hn', List.length_set, ← hm, ← upV_top wd m _ hl, ← upV_top wd m _ hl'] at hr
 have h := other_way hl hl' hp2 hn.k hn'.k hn.t hn'.t hno hr m 0 (by omega)
 have e1 : ((upV wd 0 (ls.map (leafNodeI wd))).getD (p / 2 ^ 0) zeroN) = leafNodeI wd ls[p] := by
  rw [Nat.pow_zero, Nat.div_one]
  show (ls.map (leafNodeI wd)).getD p zeroN = _
  simp [List.getD_eq_getElem?_getD, hp]
 have e2 : ((upV wd 0 ((ls.set p x).map (leafNodeI wd))).getD (p / 2 ^ 0) zeroN) = leafNodeI wd x := by
  rw [Nat.pow_zero, Nat.div_one]
  show ((ls.set p x).map (leafNodeI wd)).getD p zeroN = _
  simp [List.getD_eq_getElem?_getD, hp]
 rw [e1, e2] at h
 have m1 := leaf_may (hn.k _ (List.mem_map_of_mem (List.getElem_mem hp)))
 have m2 := leaf_may (hn'.k _ (List.mem_map_of_mem (List.mem_set (by omega) x)))
 rw [leafNodeI_f0 hn.w m1, leafNodeI_f0 hn.w m2] at h
 have e : leafTextI ls[p] = leafTextI x := Classical.byContradiction fun hne => h0 ⟨hne, h⟩
 exact leafText_inj m1 m2 ul ux e
end Go.Proofs.YtfcodmdckcihmaaDoor.P
namespace Go.Proofs.YtfcodmdckcihmaaDoor.P
open Go.RowKit Go.Proofs.YtfcodmdckcihmaaDoorW.PrintWords Go.Proofs.YtfcodmdckcihmaaDoorW.PrintLast Go.Proofs.YtfcodmdckcihmaaDoorW.PrintMore
set_option linter.unusedVariables false
set_option linter.unusedSimpArgs false
set_option linter.unnecessarySimpa false
attribute [local go_sem high] eqANode heqRoot eqALeaf eqAU128
attribute [local go_sem] sel_true
structure SumS (w5 : World) (wd : Int) (ls : List SLeaf) (i : Nat) (V : World) : Prop where
 b : Below w5.heap.size w5 V
 s : ∃ h lo : Int, V.heap[w5.heap.size]? = some (.cells #[.int .u64 h, .int .u64 lo] 34 (0, 0)) ∧ OkU ⟨h, lo⟩ ∧ valU ⟨h, lo⟩ = totL ((ls.map (leafNodeI wd)).take i)
theorem valU_inj {ta b : SU128} (ha : OkU ta) (hb : OkU b) (h : valU ta = valU b) : ta.f0 = b.f0 ∧ ta.f1 = b.f1 := by
 have := ha.h0; have := ha.h1; have := hb.h0; have := hb.h1
 unfold valU at h
 omega
theorem totL_take_succ (ls : List SNode) (i : Nat) (hi : i < ls.length) : totL (ls.take (i + 1)) = totL (ls.take i) + valU ls[i].f1 := by
 rw [List.take_succ_eq_append_getElem hi, totL_append, totL, totL]; omega
theorem leafNode_f3 {wd : Int} {x : SLeaf} (h : NodeK wd (leafNodeI wd x)) : (leafNodeI wd x).f1 = x.f3 := by
 have hm := leaf_may h
 obtain ⟨h1, h2, -⟩ := nodeOf_w h.of
 unfold leafNodeI; rw [if_pos ⟨⟨h1, h2⟩, hm⟩]
theorem bne_root (a a' : List UInt8) (b b' c c' : Int) : (!(a == a') || (!(b == b') || !(c == c'))) = !(a == a' && (b == b' && c == c')) := by
 cases (a == a') <;> cases (b == b') <;> cases (c == c') <;> rfl
theorem ba_of_toList {a b : ByteArray} (h : a.toList = b.toList) : a = b := by
 refine ByteArray.ext ?_
 simpa [ByteArray.toList_eq] using h
theorem andNot_all : ∀ q ∈ List.range 128, Go.bits .andNot .u64 (q : Int) 1 = ((2 * (q / 2) : Nat) : Int) := by decide +kernel
theorem or_all : ∀ q ∈ List.range 128, Go.bits .or .u64 (q : Int) 1 = ((2 * (q / 2) + 1 : Nat) : Int) := by decide +kernel
theorem andNot_small (q : Nat) (h : q < 70) : Go.bits .andNot .u64 (q : Int) 1 = ((2 * (q / 2) : Nat) : Int) := andNot_all q (List.mem_range.2 (by omega))
theorem or_small (q : Nat) (h : q < 70) : Go.bits .or .u64 (q : Int) 1 = ((2 * (q / 2) + 1 : Nat) : Int) := or_all q (List.mem_range.2 (by omega))
theorem node_at {wd : Int} {k : List SLeaf} {m n q : Nat} {x : SNode} (hn : NewOk wd k) (hm : m = k.length.log2) (hnm : n ≤ m) (hq : q < 2 ^ (m - n)) (hx : x = (upV wd n (k.map (leafNodeI wd))).getD q zeroN) : nodeAtI (treeT wd k) (n : Int) (q : Int) = (x, true) := by
 rw [nodeAt_tree wd _ n (by omega), Int.toNat_natCast]
 have hl : (k.map (leafNodeI wd)).length = 2 ^ m := by rw [List.length_map, hm]; exact hn.p
 have h1 := upV_len2 (w := wd) hl n hnm
 rw [h1, decide_eq_true hq, hx]
 rfl
theorem leafC_of {V : World} {ap : Addr} {y : SLeaf} (h : LeafC V ap y) : V.cell? ap = some (.bool y.f0) ∧ V.cell? ⟨ap.block, ap.off + 1, none⟩ = some (.string y.f1) ∧ V.cell? ⟨ap.block, ap.off + 2, none⟩ = some (.string y.f2) ∧ V.cell? ⟨ap.block, ap.off + 3, none⟩ = some (.int .u64 y.f3.f0) ∧ V.cell? ⟨ap.block, ap.off + 4, none⟩ = some (.int .u64 y.f3.f1) := ⟨h.p0, h.p1, h.p2, h.p3, h.p4⟩
theorem BSO {W V V' : World} {C : Prop} (hb : Below V.heap.size V V') (h : C ∧ Below W.heap.size W V) : Below W.heap.size W V' := h.2.trans (hb.mono h.2.size)
set_option maxRecDepth 100000 in
set_option maxHeartbeats 8000000 in
theorem lawTOther.calls (wd : Int) (A : Option Addr) (c : Nat) (ls : List SLeaf) (pos : Int) (x : SLeaf) (w : World) (hK : LaidT w) (hr : Kd.C kLeaf w A ls.length ls) (hc : ls.length ≤ c) (hub : ∀ x ∈ ls, OkU x.f3) (hxu : OkU x.f3) (hll : ls.length ≤ 9223372036854775807) (hpos : 0 ≤ pos ∧ pos < 65536) :
  Calls Tryd.prog 5 #[.int .i64 wd, .slice A ls.length c, .int .u16 pos, leafV x] w fun e w' => e = .returned (.bool true) ∧ Below w.heap.size w w' := by
 have HK := aM' hK
 have HR := aM' hr
 have HC := aM' hc
 have HPOS := aM' hpos
 have HUB := aM' (And.intro hub hxu)
 obtain ⟨kg, hkg⟩ := (great15_ev ls hll).rounds
 obtain ⟨kx, hkx⟩ := (great15_ev [x] (by simp)).rounds
 have HKX := aM' hkx
 obtain ⟨gr, hgr⟩ : ∃ g, g = greatL ls := ⟨_, rfl⟩
 obtain ⟨gx, hgx⟩ : ∃ g, g = greatL [x] := ⟨_, rfl⟩
 rw [← hgr] at hkg
 have HG := aM' hkg
 have HGR := aM' hgr
 have HGX := aM' hgx
 obtain ⟨W0, hW0⟩ : ∃ V, V = w.alloc (.cells (acL x) 36) := ⟨_, rfl⟩
 have HB0 := aM' (show Below w.heap.size w W0 by rw [hW0]; exact below_alloc (Below.refl _ _) _)
 have HX0 := aM' (show W0.heap[w.heap.size]? = some (.cells (acL x) 36 (0, 0)) by rw [hW0]; exact blk_new _ _)
 clear hK hr hc hub hxu hll hpos hkg hgr hgx hkx
 go_enter Tryd.func5, Tryd.ntmps5
 go_wp2_with fail
 rw [← hW0]
 clear hW0
 refine (awake15.calls W0 (HK.out.below HB0.out)).mono ?_
 rintro e w1 ⟨rfl, hb⟩
 have HB1 := aM' (HB0.out.trans (hb.mono HB0.out.size))
 have HX1 := aM' (blk_below HX0.out hb)
 clear hb
 go_wp2_with fail
 refine (paymasterlaw15_Great.calls kg A c ls gr _ (Kd.C_below HR.out HB1.out) HC.out HG.out).mono ?_
 rintro e w2 ⟨rfl, hd⟩
 obtain ⟨nd, rfl⟩ := hd
 obtain ⟨W2, hW2⟩ : ∃ V, V = w1.drewN nd := ⟨_, rfl⟩
 have HB2 := aM' (show Below w.heap.size w W2 by rw [hW2]; exact pw_below_drewN HB1.out nd)
 have HX2 := aM' (show W2.heap[w.heap.size]? = some (.cells (acL x) 36 (0, 0)) by rw [hW2]; exact blk_drewN HX1.out nd)
 rw [← hW2]
 clear hW2
 cases gr with
 | true =>
  go_wp2
  go_ret
  exact ⟨rfl, HB2.out⟩
 | false =>
  have x0 := blk_cell HX2.out 0
  have x1 := blk_cell HX2.out 1
  have x2 := blk_cell HX2.out 2
  have x3 := blk_cell HX2.out 3
  have x4 := blk_cell HX2.out 4
  simp at x0 x1 x2 x3 x4
  obtain ⟨W3, hW3⟩ : ∃ V, V = W2.alloc (.cells #[.bool x.f0, .string x.f1, .string x.f2, .int .u64 x.f3.f0, .int .u64 x.f3.f1] 36) := ⟨_, rfl⟩
  have HB3 := aM' (show Below w.heap.size w W3 by rw [hW3]; exact below_alloc HB2.out _)
  have HX3 := aM' (show W3.heap[w.heap.size]? = some (.cells (acL x) 36 (0, 0)) by rw [hW3]; exact blk_alloc HX2.out _)
  have hz := hW3 ▸ blk_new W2 (.cells #[.bool x.f0, .string x.f1, .string x.f2, .int .u64 x.f3.f0, .int .u64 x.f3.f1] 36)
  have HCX := aM' (litL_C (xs := [x]) hz rfl (by simp))
  clear hz
  go_wp2_with fail
  rw [← hW3]
  clear hW3 x0 x1 x2 x3 x4
  refine (paymasterlaw15_Great.calls kx (some ⟨W2.heap.size, 0, none⟩) 1 [x] gx W3 HCX.out (by simp) (by rw [HGX.out]; exact HKX.out)).mono ?_
  rintro e w4 ⟨rfl, hd⟩
  obtain ⟨nd, rfl⟩ := hd
  obtain ⟨W4, hW4⟩ : ∃ V, V = W3.drewN nd := ⟨_, rfl⟩
  have HB4 := aM' (show Below w.heap.size w W4 by rw [hW4]; exact pw_below_drewN HB3.out nd)
  have HX4 := aM' (show W4.heap[w.heap.size]? = some (.cells (acL x) 36 (0, 0)) by rw [hW4]; exact blk_drewN HX3.out nd)
  rw [← hW4]
  clear hW4
  cases gx with
  | true =>
   go_wp2
   go_ret
   exact ⟨rfl, HB4.out⟩
  | false =>
   obtain ⟨h70, hsz⟩ := greatL_ok HGR.out.symm
   obtain ⟨-, hsx⟩ := greatL_ok HGX.out.symm
   have HOK := aM' (show ∀ y ∈ ls, OkL y from fun y hy => ⟨by have := (hsz y hy).1; omega, by have := (hsz y hy).2; omega, HUB.out.1 y hy⟩)
   have HOX := aM' (show OkL x from ⟨by have := (hsx x (by simp)).1; omega, by have := (hsx x (by simp)).2; omega, HUB.out.2⟩)
   have H70 := aM' h70
   clear h70 hsz hsx
   go_wp2_with fail
   refine (treeNew.calls wd A c ls W4 (HK.out.below HB4.out) (Kd.C_below HR.out HB4.out) HC.out (by have := H70.out; omega) HOK.out).mono ?_
   rintro e w5 ⟨hb, h⟩
   have HB5 := aM' (HB4.out.trans (hb.mono HB4.out.size))
   have HX5 := aM' (blk_below HX4.out hb)
   rcases h with ⟨hz, ta, gl, cl, VV, gs, rfl, hO⟩ | ⟨hnz, rfl⟩
   case inr =>
    have b0 : (newI wd ls == 0) = false := by simp [hnz]
    have HNZ := aM' hnz
    clear hb hnz
    generalize newI wd ls = er at b0 HNZ
    go_wp2
    go_ret
    exact ⟨rfl, HB5.out⟩
   case inl =>
    have HZ := aM' hz
    have HO5 := aM' hO
    have HBASE := aM' HB4.out.size
    have HKK := aM' (newI_zero hz HOK.out)
    clear hb hz hO
    have hpos1 := (levels_ok HKK.out (by have := H70.out; omega)).2.2
    obtain ⟨p, hp⟩ : ∃ p : Nat, (p : Int) = pos % (ls.length : Int) := ⟨(pos % (ls.length : Int)).toNat, by rw [Int.toNat_of_nonneg (Int.emod_nonneg _ (by omega))]⟩
    have hpl : p < ls.length := by have := Int.emod_lt_of_pos pos (show (0 : Int) < (ls.length : Int) by omega); omega
    have HPL := aM' hpl
    have hw0 : IntKind.i64.wrap pos = pos := IntWalk.i64_in _ (by have := HPOS.out; omega)
    have hrem : Int.tmod pos (ls.length : Int) = (p : Int) := by rw [hp]; exact Int.tmod_eq_emod_of_nonneg HPOS.out.1
    have hwp : IntKind.u64.wrap (p : Int) = (p : Int) := wrapu64_id (by omega) (by have := H70.out; omega)
    have hne : ((ls.length : Nat) : Int) ≠ 0 := by omega
    obtain ⟨m, hm⟩ : ∃ m, m = ls.length.log2 := ⟨_, rfl⟩
    have HMM := aM' hm
    obtain ⟨rt, hrt⟩ : ∃ r, r = topI (treeT wd ls) := ⟨_, rfl⟩
    have HRT := aM' hrt
    have HL1024 := aM' (show ls.length ≤ 1024 by have := H70.out; omega)
    have hm6 : m ≤ 6 := by
     rcases Nat.lt_or_ge 6 m with h1 | h1
     ·
      have h2 := Nat.pow_le_pow_right (n := 2) (by decide) (show 7 ≤ m by omega)
      have h3 := HKK.out.p
      rw [← HMM.out] at h3
      have := H70.out
      omega
     ·
      exact h1
    have HM6 := aM' hm6
    have HREM := aM' (And.intro hrem (And.intro hwp hne))
    have HW0 := aM' hw0
    obtain ⟨ad, had, -⟩ := leafC_at HR.out HPL.out (by have := H70.out; omega)
    subst had
    clear hm hp hpl hpos1 hrt hm6 hrem hwp hne hw0
    obtain ⟨W6, hW6⟩ : ∃ V, V = w5.alloc (.cells #[.int .u64 0, .int .u64 0] 34) := ⟨_, rfl⟩
    have HSU := aM' (show SumS w5 wd ls 0 W6 from ⟨by rw [hW6]; exact below_alloc (Below.refl _ _) _, 0, 0, by rw [hW6]; exact blk_new _ _, ⟨by decide, by decide⟩, by rfl⟩)
    obtain ⟨g11, hg11⟩ : ∃ g, g = w5.heap.size := ⟨_, rfl⟩
    go_upto_region 9 with (fail)
    simp only [← hg11, ← hW6]
    have HG11 := aM' hg11
    clear hg11 hW6
    go_wp2
    go_loopw [12] (fun v12 wr => ∃ i : Nat, v12 = .int .i64 (i : Int) ∧ Aside0 (i ≤ ls.length) ∧ Aside0 (SumS w5 wd ls i wr)) (fun v12 _ => ls.length - (intOf v12).toNat)
    case atStart => exact ⟨0, rfl, ⟨Nat.zero_le _⟩, HSU⟩
    case round =>
     obtain ⟨i, rfl, HI, HSR⟩ := hrel
     by_cases hlt : i < ls.length
     ·
      have b1 : decide ((i : Int) < (ls.length : Int)) = true := decide_eq_true (by omega)
      have b2 : decide (i < ls.length) = true := decide_eq_true hlt
      have HLT := aM' hlt
      have HBR := aM' (HSR.out.b)
      obtain ⟨h, lo, hbx, hou, hvu⟩ := HSR.out.s
      rw [← HG11.out] at hbx
      obtain ⟨y, hy⟩ : ∃ y, y = ls[i]'hlt := ⟨_, rfl⟩
      have HBX := aM' hbx
      have HHL := aM' hou
      obtain ⟨ap, hap⟩ : ∃ ap, ap = ad.add (i * 5) := ⟨_, rfl⟩
      have HLC := aM' (show ∀ V : World, Below w5.heap.size w5 V → LeafC V ap y from fun V hV => by
       obtain ⟨ad', e, h⟩ := leafC_at (Kd.C_below HR.out (HB5.out.trans (hV.mono HB5.out.size))) hlt (by have := H70.out; omega)
       cases e
       rw [hap, hy]; exact h)
      have hyk := HKK.out.k _ (List.mem_map_of_mem (List.getElem_mem hlt))
      have hyu : OkU y.f3 := by rw [hy]; exact (HOK.out _ (List.getElem_mem hlt)).ub
      have hnx : totL ((ls.map (leafNodeI wd)).take (i + 1)) = valU ⟨h, lo⟩ + valU y.f3 := by
       rw [totL_take_succ _ _ (by rw [List.length_map]; exact hlt), List.getElem_map, leafNode_f3 hyk, hvu, ← hy]
      have hle := totL_take_le HKK.out.k 0 (i + 1)
      rw [List.drop_zero, hnx] at hle
      have htt := HKK.out.t
      obtain ⟨s0, hs0⟩ : ∃ s, s = h + y.f3.f0 + (lo + y.f3.f1) / 18446744073709551616 := ⟨_, rfl⟩
      obtain ⟨s1, hs1⟩ : ∃ s, s = (lo + y.f3.f1) % 18446744073709551616 := ⟨_, rfl⟩
      have hsv : valU ⟨s0, s1⟩ = valU ⟨h, lo⟩ + valU y.f3 := by rw [hs0, hs1]; unfold valU; dsimp only; omega
      have h00 := hou.h0
      have h01 := hou.h1
      have hy0 := hyu.h0
      have hy1 := hyu.h1
      dsimp only at h00 h01
      have hrm : s0 < 18446744073709551616 := by
       have : valU ⟨s0, s1⟩ < 340282366920938463463374607431768211456 := by omega
       unfold valU at this
       dsimp only at this
       have : 0 ≤ s1 := by rw [hs1]; exact Int.emod_nonneg _ (by decide)
       omega
      have HAD := aM' (show u128_Add.f h lo y.f3.f0 y.f3.f1 = some (s0, s1, 0) by
       unfold u128_Add.f
       rw [if_pos ⟨⟨h00, h01⟩, hy0, hy1⟩, ← hs0, ← hs1, if_pos hrm])
      have HSN := aM' (show OkU ⟨s0, s1⟩ ∧ valU ⟨s0, s1⟩ = totL ((ls.map (leafNodeI wd)).take (i + 1)) from ⟨⟨⟨by show 0 ≤ s0; rw [hs0]; omega, hrm⟩, by show 0 ≤ s1 ∧ s1 < 18446744073709551616; rw [hs1]; omega⟩, by rw [hsv, hnx]⟩)
      have hii : (i : Int) < (ls.length : Int) := by omega
      have hap2 := hap.symm
      clear hy hap hbx hou hvu hyk hyu hnx hle htt hs0 hs1 hsv h00 h01 hy0 hy1 hrm
      go_upto_region 12 with (fail)
      refine region_inv (fun l a W => ∃ ε : Nat, a = ({ tmps := #[.int .i64 wd, .slice (some ad) ls.length c, .int .u16 pos, leafV x, undef, undef, undef, .pointer (some ⟨w.heap.size, 0, none⟩), u8, ptrT ta, .int .i64 0, .pointer (some ⟨g11, 0, none⟩), .int .i64 (i : Int), sel (l 10) (.pointer (some ⟨ε, 0, none⟩)) (u13), sel (l 12) (.int .i64 0) (u14), undef, undef, undef, undef, undef, undef, undef, undef, undef, undef, undef, undef, undef, undef, undef, undef, .bool true, .bool false, .slice (some ad) ls.length c, .bool false, .bool false, .agg #[.bool x.f0, .string x.f1, .string x.f2, .int .u64 x.f3.f0, .int .u64 x.f3.f1], .slice (some ⟨W2.heap.size, 0, none⟩) 1 1, .bool false, .bool false, .tuple #[ptrT ta, .int .i64 0], .int .i64 wd, .slice (some ad) ls.length c, .tuple #[ptrT ta, .int .i64 0], ptrT ta, .int .i64 0, .int .i64 0, .bool false, .int .i64 (i : Int), .slice (some ad) ls.length c, .int .i64 (ls.length : Int), .bool true, u52, u53, sel (l 7) (.tuple #[.agg #[.int .u64 s0, .int .u64 s1], .int .i64 0]) (u54), sel (l 0) (.agg #[.int .u64 h, .int .u64 lo]) (u55), sel (l 1) (.slice (some ad) ls.length c) (u56), sel (l 2) (.int .i64 (i : Int)) (u57), sel (l 3) (.pointer (some ap)) (u58), sel (l 4) (.pointer (some ⟨ap.block, ap.off + 3, none⟩)) (u59), sel (l 5) (.agg #[.int .u64 y.f3.f0, .int .u64 y.f3.f1]) (u60), sel (l 6) (.tuple #[.agg #[.int .u64 s0, .int .u64 s1], .int .i64 0]) (u61), sel (l 8) (.agg #[.int .u64 s0, .int .u64 s1]) (u62), sel (l 9) (.int .i64 0) (u63), u64, u65, u66, undef, undef, undef, undef, undef, undef, undef, undef, undef, undef, undef, undef, undef, undef, undef, undef, undef, undef, undef, undef, undef, undef, undef, undef, undef, undef, undef, undef, undef, undef, undef, undef, undef, undef, undef, undef, undef, undef, undef, undef, undef, undef, undef, undef, undef, undef, undef, undef, undef, undef, undef, undef, undef, undef, undef, undef, undef, undef, undef, undef, undef, undef, undef, undef, undef, undef, undef, undef, undef, undef, undef, undef, undef, undef, undef, undef, undef, undef, undef, undef, undef, undef, undef, undef, undef, undef, undef, undef, undef, undef, undef, undef, undef, undef, undef, undef, undef, undef, undef, undef, undef, undef, undef, undef, undef, undef, undef, undef, undef, undef, undef, undef, undef, undef, undef, undef, undef, undef, undef], defers := [] } : Act) ∧ (Below wr.heap.size wr W ∧ (l 10 = true → wr.heap.size ≤ ε ∧ W.heap[ε]? = some (.cells (if l 11 = true then #[.int .u64 s0, .int .u64 s1] else #[.int .u64 0, .int .u64 0]) 34 (0, 0))) ∧ (l 11 = true → l 10 = true))) 13 rfl rfl (by kernel_rfl) ?h0 ?hend ?hstep
      case h0 => exact ⟨0, rfl, below_drew (Below.refl _ _), (fun h => by cases h), (fun h => by cases h)⟩
      case hstep =>
       refine rg_cons (rg_cons (rg_cons (rg_cons (rg_cons (rg_cons (rg_cons (rg_cons (rg_cons (rg_cons (rg_cons (rg_cons (rg_cons (rg_nil) ?s0) ?s1) ?s2) ?s3) ?s4) ?s5) ?s6) ?s7) ?s8) ?s9) ?s10) ?s11) ?s12
       case s0 =>
        refine rg_step rfl ?_
        rintro l a W ⟨ε, rfl, hI⟩ hl hd
        clear hd
        have x0 := blk_cell (blk_below HBX.out hI.1) 0
        have x1 := blk_cell (blk_below HBX.out hI.1) 1
        simp at x0 x1
        refine rg_val (v := .agg #[.int .u64 h, .int .u64 lo]) (w' := W) rfl (by go_simp) ?_
        refine ⟨ε, ?_, ?_⟩
        ·
         simp only [Act.put, List.setIfInBounds_toArray, List.set_cons_zero, List.set_cons_succ]; rfl
        ·
         exact hI
       case s1 =>
        refine rg_step rfl ?_
        rintro l a W ⟨ε, rfl, hI⟩ hl hd
        clear hd
        refine rg_val (v := .slice (some ad) ls.length c) (w' := W) rfl (by go_simp) ?_
        refine ⟨ε, ?_, ?_⟩
        ·
         simp only [Act.put, List.setIfInBounds_toArray, List.set_cons_zero, List.set_cons_succ]; rfl
        ·
         exact hI
       case s2 =>
        refine rg_step rfl ?_
        rintro l a W ⟨ε, rfl, hI⟩ hl hd
        clear hd
        refine rg_val (v := .int .i64 (i : Int)) (w' := W) rfl (by go_simp) ?_
        refine ⟨ε, ?_, ?_⟩
        ·
         simp only [Act.put, List.setIfInBounds_toArray, List.set_cons_zero, List.set_cons_succ]; rfl
        ·
         exact hI
       case s3 =>
        refine rg_step rfl ?_
        rintro l a W ⟨ε, rfl, hI⟩ hl hd
        have d1 := hd 1 (by decide)
        have d2 := hd 2 (by decide)
        clear hd
        refine rg_val (v := .pointer (some ap)) (w' := W) rfl (by go_simp; try rfl) ?_
        refine ⟨ε, ?_, ?_⟩
        ·
         simp only [Act.put, List.setIfInBounds_toArray, List.set_cons_zero, List.set_cons_succ]; rfl
        ·
         exact hI
       case s4 =>
        refine rg_step rfl ?_
        rintro l a W ⟨ε, rfl, hI⟩ hl hd
        have d3 := hd 3 (by decide)
        clear hd
        refine rg_val (v := .pointer (some ⟨ap.block, ap.off + 3, none⟩)) (w' := W) rfl (by go_simp) ?_
        refine ⟨ε, ?_, ?_⟩
        ·
         simp only [Act.put, List.setIfInBounds_toArray, List.set_cons_zero, List.set_cons_succ]; rfl
        ·
         exact hI
       case s5 =>
        refine rg_step rfl ?_
        rintro l a W ⟨ε, rfl, hI⟩ hl hd
        have d4 := hd 4 (by decide)
        clear hd
        obtain ⟨p0, p1, p2, p3, p4⟩ := HLC.out W (HBR.out.trans (hI.1.mono HBR.out.size))
        refine rg_val (v := .agg #[.int .u64 y.f3.f0, .int .u64 y.f3.f1]) (w' := W) rfl (by go_simp) ?_
        refine ⟨ε, ?_, ?_⟩
        ·
         simp only [Act.put, List.setIfInBounds_toArray, List.set_cons_zero, List.set_cons_succ]; rfl
        ·
         exact hI
       case s6 =>
        refine rg_step rfl ?_
        rintro l a W ⟨ε, rfl, hI⟩ hl hd
        have d0 := hd 0 (by decide)
        have d5 := hd 5 (by decide)
        clear hd
        refine rg_call rfl (by go_simp; exact ⟨rfl, rfl⟩) ?_
        refine (u128_Add.calls h lo y.f3.f0 y.f3.f1 s0 s1 0 W HAD.out).mono ?_
        rintro ee W' ⟨rfl, hb⟩
        refine ⟨_, rfl, ε, ?_, ?_⟩
        ·
         simp only [Act.put, List.setIfInBounds_toArray, List.set_cons_zero, List.set_cons_succ]; rfl
        ·
         exact ⟨hI.1.trans (hb.mono hI.1.size), fun h => ⟨(hI.2.1 h).1, blk_below (hI.2.1 h).2 hb⟩, hI.2.2⟩
       case s7 =>
        refine rg_step rfl ?_
        rintro l a W ⟨ε, rfl, hI⟩ hl hd
        have d6 := hd 6 (by decide)
        clear hd
        refine rg_val (v := .tuple #[.agg #[.int .u64 s0, .int .u64 s1], .int .i64 0]) (w' := W) rfl (by go_simp) ?_
        refine ⟨ε, ?_, ?_⟩
        ·
         simp only [Act.put, List.setIfInBounds_toArray, List.set_cons_zero, List.set_cons_succ]; rfl
        ·
         exact hI
       case s8 =>
        refine rg_step rfl ?_
        rintro l a W ⟨ε, rfl, hI⟩ hl hd
        have d7 := hd 7 (by decide)
        clear hd
        refine rg_val (v := .agg #[.int .u64 s0, .int .u64 s1]) (w' := W) rfl (by go_simp) ?_
        refine ⟨ε, ?_, ?_⟩
        ·
         simp only [Act.put, List.setIfInBounds_toArray, List.set_cons_zero, List.set_cons_succ]; rfl
        ·
         exact hI
       case s9 =>
        refine rg_step rfl ?_
        rintro l a W ⟨ε, rfl, hI⟩ hl hd
        have d7 := hd 7 (by decide)
        clear hd
        refine rg_val (v := .int .i64 0) (w' := W) rfl (by go_simp) ?_
        refine ⟨ε, ?_, ?_⟩
        ·
         simp only [Act.put, List.setIfInBounds_toArray, List.set_cons_zero, List.set_cons_succ]; rfl
        ·
         exact hI
       case s10 =>
        refine rg_step rfl ?_
        rintro l a W ⟨ε, rfl, hI⟩ hl hd
        clear hd
        have h11 : l 11 = false := by
         cases hx : l 11 with
         | false => rfl
         | true => have := hI.2.2 hx; rw [hl] at this; cases this
        refine rg_val (v := .pointer (some ⟨W.heap.size, 0, none⟩)) (w' := W.alloc (.cells #[.int .u64 0, .int .u64 0] 34)) rfl (by go_simp) ?_
        refine ⟨W.heap.size, ?_, ?_⟩
        ·
         simp only [Act.put, List.setIfInBounds_toArray, List.set_cons_zero, List.set_cons_succ]; rfl
        ·
         exact ⟨below_alloc hI.1 _, fun _ => ⟨hI.1.size, by rw [if_neg (show ¬ upd l 10 11 = true from by rw [show upd l 10 11 = l 11 from rfl, h11]; decide)]; exact blk_new W _⟩, fun _ => rfl⟩
       case s11 =>
        refine rg_step rfl ?_
        rintro l a W ⟨ε, rfl, hI⟩ hl hd
        have d8 := hd 8 (by decide)
        have d10 := hd 10 (by decide)
        clear hd
        have hz := hI.2.1 d10
        rw [if_neg (by rw [hl]; decide)] at hz
        have z0 := blk_cell hz.2 0
        have z1 := blk_cell hz.2 1
        have zf := fun i => blk_frozen hz.2 i
        simp at z0 z1
        refine rg_skip rfl (by go_simp; rfl) ?_
        refine ⟨ε, ?_, ?_⟩
        ·
         simp only [Act.put, List.setIfInBounds_toArray, List.set_cons_zero, List.set_cons_succ]; rfl
        ·
         exact ⟨below_set (below_set hI.1 hz.1) hz.1, fun _ => ⟨hz.1, by rw [if_pos (show upd l 11 11 = true from rfl)]; exact blk_put (blk_put hz.2 0 _ rfl) 1 _ rfl⟩, fun _ => d10⟩
       case s12 =>
        refine rg_step rfl ?_
        rintro l a W ⟨ε, rfl, hI⟩ hl hd
        have d9 := hd 9 (by decide)
        clear hd
        refine rg_val (v := .int .i64 0) (w' := W) rfl (by go_simp) ?_
        refine ⟨ε, ?_, ?_⟩
        ·
         simp only [Act.put, List.setIfInBounds_toArray, List.set_cons_zero, List.set_cons_succ]; rfl
        ·
         exact hI
      case hend =>
       rintro l a W ⟨ε, rfl, hI⟩ hall
       have e0 := hall 0 (by decide)
       have e1 := hall 1 (by decide)
       have e2 := hall 2 (by decide)
       have e3 := hall 3 (by decide)
       have e4 := hall 4 (by decide)
       have e5 := hall 5 (by decide)
       have e6 := hall 6 (by decide)
       have e7 := hall 7 (by decide)
       have e8 := hall 8 (by decide)
       have e9 := hall 9 (by decide)
       have e10 := hall 10 (by decide)
       have e11 := hall 11 (by decide)
       have e12 := hall 12 (by decide)
       clear hall
       have hn := hI.2.1 e10
       rw [if_pos e11] at hn
       have hB := hI.1
       simp only [e0, e1, e2, e3, e4, e5, e6, e7, e8, e9, e10, e11, e12, sel_true]
       clear e0 e1 e2 e3 e4 e5 e6 e7 e8 e9 e10 e11 e12
       obtain ⟨hγ, hγc⟩ := hn
       have HBQ := aM' (HBR.out.trans (hB.mono HBR.out.size))
       have HGG := aM' hγ
       have HGC := aM' hγc
       have hbx2 := blk_below HBX.out hB
       have HBX2 := aM' hbx2
       have z0 := blk_cell hγc 0
       have z1 := blk_cell hγc 1
       have y0 := blk_cell hbx2 0
       have y1 := blk_cell hbx2 1
       have yf := fun i => blk_frozen hbx2 i
       simp at z0 z1 y0 y1
       clear hI hB hγ hγc hbx2
       have hi70 : i < 70 := by have := HLT.out; have := H70.out; omega
       go_wp2
       go_roundw
       case rel => exact ⟨i + 1, by go_num, ⟨by have := HLT.out; omega⟩, ⟨⟨by rw [HG11.out]; exact below_set (below_set HBQ.out (Nat.le_refl _)) (Nat.le_refl _), s0, s1, by rw [← HG11.out]; exact blk_put (blk_put HBX2.out 0 _ rfl) 1 _ rfl, HSN.out.1, HSN.out.2⟩⟩⟩
       case measure => simp [intOf]; have := HLT.out; omega
     ·
      obtain rfl : i = ls.length := by have := HI.out; omega
      have b1 : decide ((ls.length : Int) < (ls.length : Int)) = false := decide_eq_false (by omega)
      have b2 : decide (ls.length < ls.length) = false := decide_eq_false hlt
      obtain ⟨h, lo, hbx, hou, hvu⟩ := HSR.out.s
      have HBR := aM' (HSR.out.b)
      have hrk : OkU rt.f1 ∧ valU rt.f1 = totL (ls.map (leafNodeI wd)) := by
       have hl : (ls.map (leafNodeI wd)).length = 2 ^ ls.length.log2 := by rw [List.length_map]; exact HKK.out.p
       rw [HRT.out, top_tree HKK.out]
       exact ⟨(treeV_k _ _ hl HKK.out.k HKK.out.t).u, treeV_val _ _ hl⟩
      rw [List.take_of_length_le (by rw [List.length_map]; exact Nat.le_refl _)] at hvu
      obtain ⟨e0, e1⟩ := valU_inj hou hrk.1 (hvu.trans hrk.2.symm)
      dsimp only at e0 e1
      subst e0 e1
      rw [← HG11.out] at hbx
      have HBX := aM' hbx
      have HBW := aM' (HB5.out.trans (HBR.out.mono HB5.out.size))
      have HOR := aM' (HO5.out.keep HBR.out)
      have HXR := aM' (blk_below HX5.out HBR.out)
      clear hbx hou hvu hrk
      have hfd : ∀ V : World, (Instr.field 41 (.agg #[.string rt.f0, .int .u64 rt.f1.f0, .int .u64 rt.f1.f1, .int .i64 (m : Int)]) 1).run Tryd.prog V = .ok (.agg #[.int .u64 rt.f1.f0, .int .u64 rt.f1.f1]) V := fun _ => by kernel_rfl
      go_upto_region 16 with (fail)
      have HSE := aM' (below_drew (Below.refl wr.heap.size wr))
      have HAE := aM' (show ∀ V : World, Below wr.heap.size wr V → (V.cell? ⟨g11, 0, none⟩ = some (.int .u64 rt.f1.f0) ∧ V.cell? ⟨g11, 1, none⟩ = some (.int .u64 rt.f1.f1)) ∧ Below wr.heap.size wr V from fun V h => ⟨⟨(blk_cell (blk_below HBX.out h) 0).trans rfl, (blk_cell (blk_below HBX.out h) 1).trans rfl⟩, h⟩)
      go_region_held3 (fun V => (V.cell? ⟨g11, 0, none⟩ = some (.int .u64 rt.f1.f0) ∧ V.cell? ⟨g11, 1, none⟩ = some (.int .u64 rt.f1.f1)) ∧ Below wr.heap.size wr V) (first | exact HAE.out _ HSE.out | exact HAE.out _ (BSO (by assumption) (by assumption))) (first | (go_at_call 21; (with_reducible refine ((HOR.out.keep (And.right (by assumption))).rootC HKK.out HL1024.out HMM.out HRT.out).mono ?_); rintro e w17 ⟨rfl, hb17⟩))
      clear hfd
      have HB17 := aM' (show Below wr.heap.size wr w17 from And.right (by assumption))
      have HBW17 := aM' (HBW.out.trans (HB17.out.mono HBW.out.size))
      have HO17 := aM' (HOR.out.keep HB17.out)
      have HX17 := aM' (blk_below HXR.out HB17.out)
      obtain ⟨hrem, hwp, hne⟩ := HREM.out
      have hw0 := HW0.out
      go_upto_region 19 with (fail)
      clear hrem hne hw0
      go_wp2_with fail
      refine (tCopy.calls _ ta gl cl VV gs wd ls w17 HO17.out HKK.out HL1024.out).mono ?_
      rintro e w19 ⟨tb, gl2, cl2, VV2, gs2, rfl, hP, hb⟩
      have HP19 := aM' hP
      have HB19 := aM' hb
      have HX19 := aM' (blk_below HX17.out hb)
      have HPG := aM' (show ∀ k ∈ parts gl2 gs2, w17.heap.size ≤ k ∧ k < w19.heap.size from fun k hk => hP.lt k hk)
      clear hP hb
      obtain ⟨V20, hV20⟩ : ∃ V, V = w19.drew := ⟨_, rfl⟩
      have hb20 : Below w19.heap.size w19 V20 := by rw [hV20]; exact below_drew (Below.refl _ _)
      have HP20 := aM' (HP19.out.keep hb20)
      have HB20 := aM' (HB19.out.trans (hb20.mono HB19.out.size))
      have HX20 := aM' (blk_below HX19.out hb20)
      have q := tSet.calls _ tb gl2 cl2 VV2 gs2 wd ls p x V20 (HK.out.below (HBW17.out.trans (HB20.out.mono HBW17.out.size))) HP20.out HKK.out HL1024.out HOX.out (by have := HPL.out; have := H70.out; omega)
      unfold SetPost at q
      obtain ⟨f, hf⟩ : ∃ f, f = setI wd ls p x := ⟨_, rfl⟩
      rw [← hf] at q
      have HF := aM' hf
      have HNI := aM' (newI_set (x := x) HZ.out HPL.out)
      have HCS := aM' q
      have HX20L := aM' (show w.heap.size < w17.heap.size from blk_lt HX17.out)
      obtain ⟨y, hy⟩ : ∃ y, y = ls[p]'HPL.out := ⟨_, rfl⟩
      obtain ⟨ap, hap⟩ : ∃ ap, ap = ad.add (p * 5) := ⟨_, rfl⟩
      have HLC := aM' (show ∀ V : World, Below w.heap.size w V → LeafC V ap y from fun V hV => by
       obtain ⟨ad', e, h⟩ := leafC_at (Kd.C_below HR.out hV) HPL.out HL1024.out
       cases e
       rw [hap, hy]; exact h)
      have HPAR := aM' (show ∀ k ∈ parts gl2 gs2, w.heap.size ≤ k from fun k hk => Nat.le_trans HBW17.out.size (HPG.out k hk).1)
      have HY := aM' hy
      have hap2 := hap.symm
      have hpl2 : (p : Int) < (ls.length : Int) := by have := HPL.out; omega
      have hpl3 : p < ls.length := HPL.out
      clear q hf hb20 hap hy
      go_upto_region 20 with (fail)
      have HV20 := aM' hV20
      have HBB := aM' (HBW17.out.trans (HB20.out.mono HBW17.out.size))
      have HXI := aM' (show ∀ V : World, Tch (parts gl2 gs2) V20 V → V.heap[w.heap.size]? = some (.cells (acL x) 36 (0, 0)) from fun V h => (h.block _ (blk_lt HX20.out) (fun hm => by have := (HPG.out _ hm).1; have := HX20L.out; omega)).trans HX20.out)
      have HBI := aM' (show ∀ V : World, Tch (parts gl2 gs2) V20 V → Below w.heap.size w V from fun V h => HBB.out.trans (h.toBelow HPAR.out HBB.out.size))
      clear hV20
      by_cases h0 : f = 0
      case neg =>
       have HF0 := aM' h0
       have kf : (f == 0) = false := by simp [h0]
       clear h0
       refine region_inv (fun l a W => a = ({ tmps := #[.int .i64 wd, .slice (some ad) ls.length c, .int .u16 pos, leafV x, undef, undef, undef, .pointer (some ⟨w.heap.size, 0, none⟩), u8, ptrT ta, .int .i64 0, .pointer (some ⟨g11, 0, none⟩), .int .i64 (ls.length : Int), u13, u14, .int .i64 (p : Int), ptrT tb, undef, undef, undef, undef, undef, undef, undef, undef, undef, undef, undef, undef, undef, undef, .bool true, .bool false, .slice (some ad) ls.length c, .bool false, .bool false, .agg #[.bool x.f0, .string x.f1, .string x.f2, .int .u64 x.f3.f0, .int .u64 x.f3.f1], .slice (some ⟨W2.heap.size, 0, none⟩) 1 1, .bool false, .bool false, .tuple #[ptrT ta, .int .i64 0], .int .i64 wd, .slice (some ad) ls.length c, .tuple #[ptrT ta, .int .i64 0], ptrT ta, .int .i64 0, .int .i64 0, .bool false, .int .i64 (ls.length : Int), .slice (some ad) ls.length c, .int .i64 (ls.length : Int), .bool false, u52, u53, u54, u55, u56, u57, u58, u59, u60, u61, u62, u63, u64, u65, u66, ptrT ta, .agg #[.string rt.f0, .int .u64 rt.f1.f0, .int .u64 rt.f1.f1, .int .i64 (m : Int)], .agg #[.int .u64 rt.f1.f0, .int .u64 rt.f1.f1], .agg #[.int .u64 rt.f1.f0, .int .u64 rt.f1.f1], .bool false, .int .u16 pos, .int .i64 pos, .slice (some ad) ls.length c, .int .i64 (ls.length : Int), .int .i64 (p : Int), ptrT ta, ptrT tb, sel (l 0) (ptrT tb) (undef), sel (l 1) (.bool false) (undef), sel (l 2) (.bool false) (undef), sel (l 3) (ptrT tb) (undef), sel (l 4) (.int .i64 (p : Int)) (undef), sel (l 5) (.int .u64 (p : Int)) (undef), sel (l 6) (.agg #[.bool x.f0, .string x.f1, .string x.f2, .int .u64 x.f3.f0, .int .u64 x.f3.f1]) (undef), sel (l 7) (.int .i64 f) (undef), sel (l 8) (.bool true) (undef), sel (l 9) (.bool true) (undef), sel (l 10) (.bool true) (undef), sel (l 11) (undef) (undef), sel (l 12) (undef) (undef), sel (l 13) (undef) (undef), sel (l 14) (undef) (undef), sel (l 15) (undef) (undef), sel (l 16) (undef) (undef), sel (l 17) (.bool true) (undef), undef, undef, undef, undef, undef, undef, undef, undef, undef, undef, undef, undef, undef, undef, undef, undef, undef, undef, undef, undef, undef, undef, undef, undef, undef, undef, undef, undef, undef, undef, undef, undef, undef, undef, undef, undef, undef, undef, undef, undef, undef, undef, undef, undef, undef, undef, undef, undef, undef, undef, undef, undef, undef, undef, undef, undef, undef, undef, undef, undef, undef, undef, undef, undef, undef, undef, undef, undef, undef, undef, undef, undef, undef, undef, undef, undef, undef, undef, undef, undef, undef, undef, undef, undef, undef, undef, undef, undef, undef], defers := [] } : Act) ∧ (Tch (parts gl2 gs2) V20 W ∧ (l 7 = false → W = V20) ∧ (l 7 = true → TreeOwn w17.heap.size W tb (treeT wd (setL wd ls p x)) gl2 cl2 VV2 gs2))) 18 rfl rfl (by kernel_rfl) ?h0 ?hend ?hstep
       case h0 => exact ⟨rfl, by rw [← HV20.out]; exact ⟨Tch.refl _ _, fun _ => rfl, fun h => by cases h⟩⟩
       case hstep =>
        refine rg_cons (rg_cons (rg_cons (rg_cons (rg_cons (rg_cons (rg_cons (rg_cons (rg_cons (rg_cons (rg_cons (rg_cons (rg_cons (rg_cons (rg_cons (rg_cons (rg_cons (rg_cons (rg_nil) ?s0) ?s1) ?s2) ?s3) ?s4) ?s5) ?s6) ?s7) ?s8) ?s9) ?s10) ?s11) ?s12) ?s13) ?s14) ?s15) ?s16) ?s17
        case s0 =>
         refine rg_step rfl ?_
         rintro l a W ⟨rfl, hI⟩ hl hd
         clear hd
         refine rg_val (v := ptrT tb) (w' := W) rfl (by go_simp) ?_
         refine ⟨?_, ?_⟩
         ·
          simp only [Act.put, List.setIfInBounds_toArray, List.set_cons_zero, List.set_cons_succ]; rfl
         ·
          exact hI
        case s1 =>
         refine rg_step rfl ?_
         rintro l a W ⟨rfl, hI⟩ hl hd
         have d0 := hd 0 (by decide)
         clear hd
         refine rg_val (v := .bool false) (w' := W) rfl (by go_simp) ?_
         refine ⟨?_, ?_⟩
         ·
          simp only [Act.put, List.setIfInBounds_toArray, List.set_cons_zero, List.set_cons_succ]; rfl
         ·
          exact hI
        case s2 =>
         refine rg_step rfl ?_
         rintro l a W ⟨rfl, hI⟩ hl hd
         have d1 := hd 1 (by decide)
         clear hd
         refine rg_val (v := .bool false) (w' := W) rfl (by go_simp) ?_
         refine ⟨?_, ?_⟩
         ·
          simp only [Act.put, List.setIfInBounds_toArray, List.set_cons_zero, List.set_cons_succ]; rfl
         ·
          exact hI
        case s3 =>
         refine rg_step rfl ?_
         rintro l a W ⟨rfl, hI⟩ hl hd
         have d2 := hd 2 (by decide)
         clear hd
         refine rg_val (v := ptrT tb) (w' := W) (by simp only [d2, sel_true]; rfl) (by go_simp) ?_
         refine ⟨?_, ?_⟩
         ·
          simp only [Act.put, List.setIfInBounds_toArray, List.set_cons_zero, List.set_cons_succ]; rfl
         ·
          exact hI
        case s4 =>
         refine rg_step rfl ?_
         rintro l a W ⟨rfl, hI⟩ hl hd
         have d2 := hd 2 (by decide)
         clear hd
         refine rg_val (v := .int .i64 (p : Int)) (w' := W) (by simp only [d2, sel_true]; rfl) (by go_simp) ?_
         refine ⟨?_, ?_⟩
         ·
          simp only [Act.put, List.setIfInBounds_toArray, List.set_cons_zero, List.set_cons_succ]; rfl
         ·
          exact hI
        case s5 =>
         refine rg_step rfl ?_
         rintro l a W ⟨rfl, hI⟩ hl hd
         have d2 := hd 2 (by decide)
         have d4 := hd 4 (by decide)
         clear hd
         have hwp2 := HREM.out.2.1
         refine rg_val (v := .int .u64 (p : Int)) (w' := W) (by simp only [d2, sel_true]; rfl) (by go_simp; try rw [hwp2]) ?_
         refine ⟨?_, ?_⟩
         ·
          simp only [Act.put, List.setIfInBounds_toArray, List.set_cons_zero, List.set_cons_succ]; rfl
         ·
          exact hI
        case s6 =>
         refine rg_step rfl ?_
         rintro l a W ⟨rfl, hI⟩ hl hd
         have d2 := hd 2 (by decide)
         clear hd
         have x0 := blk_cell (HXI.out W hI.1) 0
         have x1 := blk_cell (HXI.out W hI.1) 1
         have x2 := blk_cell (HXI.out W hI.1) 2
         have x3 := blk_cell (HXI.out W hI.1) 3
         have x4 := blk_cell (HXI.out W hI.1) 4
         simp at x0 x1 x2 x3 x4
         refine rg_val (v := .agg #[.bool x.f0, .string x.f1, .string x.f2, .int .u64 x.f3.f0, .int .u64 x.f3.f1]) (w' := W) (by simp only [d2, sel_true]; rfl) (by go_simp) ?_
         refine ⟨?_, ?_⟩
         ·
          simp only [Act.put, List.setIfInBounds_toArray, List.set_cons_zero, List.set_cons_succ]; rfl
         ·
          exact hI
        case s7 =>
         refine rg_step rfl ?_
         rintro l a W ⟨rfl, hI⟩ hl hd
         have d2 := hd 2 (by decide)
         have d3 := hd 3 (by decide)
         have d5 := hd 5 (by decide)
         have d6 := hd 6 (by decide)
         clear hd
         have hW := hI.2.1 hl
         subst hW
         refine rg_call (by simp only [d2, sel_true]; rfl) (by go_simp; exact ⟨rfl, rfl⟩) ?_
         refine (HCS.out).mono ?_
         rintro ee W' ⟨rfl, hO, hT⟩
         refine ⟨_, rfl, ?_, ?_⟩
         ·
          simp only [Act.put, List.setIfInBounds_toArray, List.set_cons_zero, List.set_cons_succ]; rfl
         ·
          exact ⟨hT, (fun hx => by rw [show upd l 7 7 = true from rfl] at hx; cases hx), fun _ => hO⟩
        case s8 =>
         refine rg_step rfl ?_
         rintro l a W ⟨rfl, hI⟩ hl hd
         have d2 := hd 2 (by decide)
         have d7 := hd 7 (by decide)
         clear hd
         refine rg_val (v := .bool true) (w' := W) (by simp only [d2, sel_true]; rfl) (by go_simp; try exact HF0.out) ?_
         refine ⟨?_, ?_⟩
         ·
          simp only [Act.put, List.setIfInBounds_toArray, List.set_cons_zero, List.set_cons_succ]; rfl
         ·
          exact hI
        case s9 =>
         refine rg_step rfl ?_
         rintro l a W ⟨rfl, hI⟩ hl hd
         have d2 := hd 2 (by decide)
         have d8 := hd 8 (by decide)
         clear hd
         refine rg_val (v := .bool true) (w' := W) rfl (by go_simp) ?_
         refine ⟨?_, ?_⟩
         ·
          simp only [Act.put, List.setIfInBounds_toArray, List.set_cons_zero, List.set_cons_succ]; rfl
         ·
          exact hI
        case s10 =>
         refine rg_step rfl ?_
         rintro l a W ⟨rfl, hI⟩ hl hd
         have d9 := hd 9 (by decide)
         clear hd
         refine rg_val (v := .bool true) (w' := W) rfl (by go_simp) ?_
         refine ⟨?_, ?_⟩
         ·
          simp only [Act.put, List.setIfInBounds_toArray, List.set_cons_zero, List.set_cons_succ]; rfl
         ·
          exact hI
        case s11 =>
         refine rg_step rfl ?_
         rintro l a W ⟨rfl, hI⟩ hl hd
         have d10 := hd 10 (by decide)
         clear hd
         refine rg_not (by simp only [d10, sel_true]; rfl) ?_
         refine ⟨?_, ?_⟩
         ·
          simp only [Act.put, List.setIfInBounds_toArray, List.set_cons_zero, List.set_cons_succ]; rfl
         ·
          exact hI
        case s12 =>
         refine rg_step rfl ?_
         rintro l a W ⟨rfl, hI⟩ hl hd
         have d10 := hd 10 (by decide)
         clear hd
         refine rg_not (by simp only [d10, sel_true]; rfl) ?_
         refine ⟨?_, ?_⟩
         ·
          simp only [Act.put, List.setIfInBounds_toArray, List.set_cons_zero, List.set_cons_succ]; rfl
         ·
          exact hI
        case s13 =>
         refine rg_step rfl ?_
         rintro l a W ⟨rfl, hI⟩ hl hd
         have d10 := hd 10 (by decide)
         clear hd
         refine rg_not (by simp only [d10, sel_true]; rfl) ?_
         refine ⟨?_, ?_⟩
         ·
          simp only [Act.put, List.setIfInBounds_toArray, List.set_cons_zero, List.set_cons_succ]; rfl
         ·
          exact hI
        case s14 =>
         refine rg_step rfl ?_
         rintro l a W ⟨rfl, hI⟩ hl hd
         have d10 := hd 10 (by decide)
         clear hd
         refine rg_not (by simp only [d10, sel_true]; rfl) ?_
         refine ⟨?_, ?_⟩
         ·
          simp only [Act.put, List.setIfInBounds_toArray, List.set_cons_zero, List.set_cons_succ]; rfl
         ·
          exact hI
        case s15 =>
         refine rg_step rfl ?_
         rintro l a W ⟨rfl, hI⟩ hl hd
         have d10 := hd 10 (by decide)
         clear hd
         refine rg_not (by simp only [d10, sel_true]; rfl) ?_
         refine ⟨?_, ?_⟩
         ·
          simp only [Act.put, List.setIfInBounds_toArray, List.set_cons_zero, List.set_cons_succ]; rfl
         ·
          exact hI
        case s16 =>
         refine rg_step rfl ?_
         rintro l a W ⟨rfl, hI⟩ hl hd
         have d10 := hd 10 (by decide)
         clear hd
         refine rg_not (by simp only [d10, sel_true]; rfl) ?_
         refine ⟨?_, ?_⟩
         ·
          simp only [Act.put, List.setIfInBounds_toArray, List.set_cons_zero, List.set_cons_succ]; rfl
         ·
          exact hI
        case s17 =>
         refine rg_step rfl ?_
         rintro l a W ⟨rfl, hI⟩ hl hd
         have d10 := hd 10 (by decide)
         have d16 := hd 16 (by decide)
         clear hd
         refine rg_val (v := .bool true) (w' := W) rfl (by go_simp) ?_
         refine ⟨?_, ?_⟩
         ·
          simp only [Act.put, List.setIfInBounds_toArray, List.set_cons_zero, List.set_cons_succ]; rfl
         ·
          exact hI
       case hend =>
        rintro l a W ⟨rfl, hI⟩ hall
        have e0 := hall 0 (by decide)
        have e1 := hall 1 (by decide)
        have e2 := hall 2 (by decide)
        have e3 := hall 3 (by decide)
        have e4 := hall 4 (by decide)
        have e5 := hall 5 (by decide)
        have e6 := hall 6 (by decide)
        have e7 := hall 7 (by decide)
        have e8 := hall 8 (by decide)
        have e9 := hall 9 (by decide)
        have e10 := hall 10 (by decide)
        have e11 := hall 11 (by decide)
        have e12 := hall 12 (by decide)
        have e13 := hall 13 (by decide)
        have e14 := hall 14 (by decide)
        have e15 := hall 15 (by decide)
        have e16 := hall 16 (by decide)
        have e17 := hall 17 (by decide)
        clear hall
        have hO7 := hI.2.2 e7
        simp only [e0, e1, e2, e3, e4, e5, e6, e7, e8, e9, e10, e11, e12, e13, e14, e15, e16, e17, sel_true]
        clear e0 e1 e2 e3 e4 e5 e6 e7 e8 e9 e10 e11 e12 e13 e14 e15 e16 e17
        have HBZ := aM' (HBI.out _ hI.1)
        clear hI
        go_wp2
        go_ret
        exact ⟨rfl, HBZ.out⟩
      subst h0
      obtain ⟨bx, hbx⟩ : ∃ b, b = (x.f0 == y.f0 && (x.f1.toList == y.f1.toList && (x.f2.toList == y.f2.toList && (x.f3.f0 == y.f3.f0 && x.f3.f1 == y.f3.f1)))) := ⟨_, rfl⟩
      have HBX2 := aM' hbx
      clear hbx
      refine region_inv (fun l a W => a = ({ tmps := #[.int .i64 wd, .slice (some ad) ls.length c, .int .u16 pos, leafV x, undef, undef, undef, .pointer (some ⟨w.heap.size, 0, none⟩), u8, ptrT ta, .int .i64 0, .pointer (some ⟨g11, 0, none⟩), .int .i64 (ls.length : Int), u13, u14, .int .i64 (p : Int), ptrT tb, undef, undef, undef, undef, undef, undef, undef, undef, undef, undef, undef, undef, undef, undef, .bool true, .bool false, .slice (some ad) ls.length c, .bool false, .bool false, .agg #[.bool x.f0, .string x.f1, .string x.f2, .int .u64 x.f3.f0, .int .u64 x.f3.f1], .slice (some ⟨W2.heap.size, 0, none⟩) 1 1, .bool false, .bool false, .tuple #[ptrT ta, .int .i64 0], .int .i64 wd, .slice (some ad) ls.length c, .tuple #[ptrT ta, .int .i64 0], ptrT ta, .int .i64 0, .int .i64 0, .bool false, .int .i64 (ls.length : Int), .slice (some ad) ls.length c, .int .i64 (ls.length : Int), .bool false, u52, u53, u54, u55, u56, u57, u58, u59, u60, u61, u62, u63, u64, u65, u66, ptrT ta, .agg #[.string rt.f0, .int .u64 rt.f1.f0, .int .u64 rt.f1.f1, .int .i64 (m : Int)], .agg #[.int .u64 rt.f1.f0, .int .u64 rt.f1.f1], .agg #[.int .u64 rt.f1.f0, .int .u64 rt.f1.f1], .bool false, .int .u16 pos, .int .i64 pos, .slice (some ad) ls.length c, .int .i64 (ls.length : Int), .int .i64 (p : Int), ptrT ta, ptrT tb, sel (l 0) (ptrT tb) (undef), sel (l 1) (.bool false) (undef), sel (l 2) (.bool false) (undef), sel (l 3) (ptrT tb) (undef), sel (l 4) (.int .i64 (p : Int)) (undef), sel (l 5) (.int .u64 (p : Int)) (undef), sel (l 6) (.agg #[.bool x.f0, .string x.f1, .string x.f2, .int .u64 x.f3.f0, .int .u64 x.f3.f1]) (undef), sel (l 7) (.int .i64 0) (undef), sel (l 8) (.bool false) (undef), sel (l 9) (.bool false) (undef), sel (l 10) (.bool false) (undef), sel (l 11) (.agg #[.bool x.f0, .string x.f1, .string x.f2, .int .u64 x.f3.f0, .int .u64 x.f3.f1]) (undef), sel (l 12) (.slice (some ad) ls.length c) (undef), sel (l 13) (.int .i64 (p : Int)) (undef), sel (l 14) (.pointer (some ap)) (undef), sel (l 15) (.agg #[.bool y.f0, .string y.f1, .string y.f2, .int .u64 y.f3.f0, .int .u64 y.f3.f1]) (undef), sel (l 16) (.bool bx) (undef), sel (l 17) (.bool bx) (undef), undef, undef, undef, undef, undef, undef, undef, undef, undef, undef, undef, undef, undef, undef, undef, undef, undef, undef, undef, undef, undef, undef, undef, undef, undef, undef, undef, undef, undef, undef, undef, undef, undef, undef, undef, undef, undef, undef, undef, undef, undef, undef, undef, undef, undef, undef, undef, undef, undef, undef, undef, undef, undef, undef, undef, undef, undef, undef, undef, undef, undef, undef, undef, undef, undef, undef, undef, undef, undef, undef, undef, undef, undef, undef, undef, undef, undef, undef, undef, undef, undef, undef, undef, undef, undef, undef, undef, undef, undef], defers := [] } : Act) ∧ (Tch (parts gl2 gs2) V20 W ∧ (l 7 = false → W = V20) ∧ (l 7 = true → TreeOwn w17.heap.size W tb (treeT wd (setL wd ls p x)) gl2 cl2 VV2 gs2))) 18 rfl rfl (by kernel_rfl) ?h0 ?hend ?hstep
      case h0 => exact ⟨rfl, by rw [← HV20.out]; exact ⟨Tch.refl _ _, fun _ => rfl, fun h => by cases h⟩⟩
      case hstep =>
       refine rg_cons (rg_cons (rg_cons (rg_cons (rg_cons (rg_cons (rg_cons (rg_cons (rg_cons (rg_cons (rg_cons (rg_cons (rg_cons (rg_cons (rg_cons (rg_cons (rg_cons (rg_cons (rg_nil) ?s0) ?s1) ?s2) ?s3) ?s4) ?s5) ?s6) ?s7) ?s8) ?s9) ?s10) ?s11) ?s12) ?s13) ?s14) ?s15) ?s16) ?s17
       case s0 =>
        refine rg_step rfl ?_
        rintro l a W ⟨rfl, hI⟩ hl hd
        clear hd
        refine rg_val (v := ptrT tb) (w' := W) rfl (by go_simp) ?_
        refine ⟨?_, ?_⟩
        ·
         simp only [Act.put, List.setIfInBounds_toArray, List.set_cons_zero, List.set_cons_succ]; rfl
        ·
         exact hI
       case s1 =>
        refine rg_step rfl ?_
        rintro l a W ⟨rfl, hI⟩ hl hd
        have d0 := hd 0 (by decide)
        clear hd
        refine rg_val (v := .bool false) (w' := W) rfl (by go_simp) ?_
        refine ⟨?_, ?_⟩
        ·
         simp only [Act.put, List.setIfInBounds_toArray, List.set_cons_zero, List.set_cons_succ]; rfl
        ·
         exact hI
       case s2 =>
        refine rg_step rfl ?_
        rintro l a W ⟨rfl, hI⟩ hl hd
        have d1 := hd 1 (by decide)
        clear hd
        refine rg_val (v := .bool false) (w' := W) rfl (by go_simp) ?_
        refine ⟨?_, ?_⟩
        ·
         simp only [Act.put, List.setIfInBounds_toArray, List.set_cons_zero, List.set_cons_succ]; rfl
        ·
         exact hI
       case s3 =>
        refine rg_step rfl ?_
        rintro l a W ⟨rfl, hI⟩ hl hd
        have d2 := hd 2 (by decide)
        clear hd
        refine rg_val (v := ptrT tb) (w' := W) (by simp only [d2, sel_true]; rfl) (by go_simp) ?_
        refine ⟨?_, ?_⟩
        ·
         simp only [Act.put, List.setIfInBounds_toArray, List.set_cons_zero, List.set_cons_succ]; rfl
        ·
         exact hI
       case s4 =>
        refine rg_step rfl ?_
        rintro l a W ⟨rfl, hI⟩ hl hd
        have d2 := hd 2 (by decide)
        clear hd
        refine rg_val (v := .int .i64 (p : Int)) (w' := W) (by simp only [d2, sel_true]; rfl) (by go_simp) ?_
        refine ⟨?_, ?_⟩
        ·
         simp only [Act.put, List.setIfInBounds_toArray, List.set_cons_zero, List.set_cons_succ]; rfl
        ·
         exact hI
       case s5 =>
        refine rg_step rfl ?_
        rintro l a W ⟨rfl, hI⟩ hl hd
        have d2 := hd 2 (by decide)
        have d4 := hd 4 (by decide)
        clear hd
        have hwp2 := HREM.out.2.1
        refine rg_val (v := .int .u64 (p : Int)) (w' := W) (by simp only [d2, sel_true]; rfl) (by go_simp; try rw [hwp2]) ?_
        refine ⟨?_, ?_⟩
        ·
         simp only [Act.put, List.setIfInBounds_toArray, List.set_cons_zero, List.set_cons_succ]; rfl
        ·
         exact hI
       case s6 =>
        refine rg_step rfl ?_
        rintro l a W ⟨rfl, hI⟩ hl hd
        have d2 := hd 2 (by decide)
        clear hd
        have x0 := blk_cell (HXI.out W hI.1) 0
        have x1 := blk_cell (HXI.out W hI.1) 1
        have x2 := blk_cell (HXI.out W hI.1) 2
        have x3 := blk_cell (HXI.out W hI.1) 3
        have x4 := blk_cell (HXI.out W hI.1) 4
        simp at x0 x1 x2 x3 x4
        refine rg_val (v := .agg #[.bool x.f0, .string x.f1, .string x.f2, .int .u64 x.f3.f0, .int .u64 x.f3.f1]) (w' := W) (by simp only [d2, sel_true]; rfl) (by go_simp) ?_
        refine ⟨?_, ?_⟩
        ·
         simp only [Act.put, List.setIfInBounds_toArray, List.set_cons_zero, List.set_cons_succ]; rfl
        ·
         exact hI
       case s7 =>
        refine rg_step rfl ?_
        rintro l a W ⟨rfl, hI⟩ hl hd
        have d2 := hd 2 (by decide)
        have d3 := hd 3 (by decide)
        have d5 := hd 5 (by decide)
        have d6 := hd 6 (by decide)
        clear hd
        have hW := hI.2.1 hl
        subst hW
        refine rg_call (by simp only [d2, sel_true]; rfl) (by go_simp; exact ⟨rfl, rfl⟩) ?_
        refine (HCS.out).mono ?_
        rintro ee W' ⟨rfl, hO, hT⟩
        refine ⟨_, rfl, ?_, ?_⟩
        ·
         simp only [Act.put, List.setIfInBounds_toArray, List.set_cons_zero, List.set_cons_succ]; rfl
        ·
         exact ⟨hT, (fun hx => by rw [show upd l 7 7 = true from rfl] at hx; cases hx), fun _ => hO⟩
       case s8 =>
        refine rg_step rfl ?_
        rintro l a W ⟨rfl, hI⟩ hl hd
        have d2 := hd 2 (by decide)
        have d7 := hd 7 (by decide)
        clear hd
        refine rg_val (v := .bool false) (w' := W) (by simp only [d2, sel_true]; rfl) (by go_simp; try exact HF0.out) ?_
        refine ⟨?_, ?_⟩
        ·
         simp only [Act.put, List.setIfInBounds_toArray, List.set_cons_zero, List.set_cons_succ]; rfl
        ·
         exact hI
       case s9 =>
        refine rg_step rfl ?_
        rintro l a W ⟨rfl, hI⟩ hl hd
        have d2 := hd 2 (by decide)
        have d8 := hd 8 (by decide)
        clear hd
        refine rg_val (v := .bool false) (w' := W) rfl (by go_simp) ?_
        refine ⟨?_, ?_⟩
        ·
         simp only [Act.put, List.setIfInBounds_toArray, List.set_cons_zero, List.set_cons_succ]; rfl
        ·
         exact hI
       case s10 =>
        refine rg_step rfl ?_
        rintro l a W ⟨rfl, hI⟩ hl hd
        have d9 := hd 9 (by decide)
        clear hd
        refine rg_val (v := .bool false) (w' := W) rfl (by go_simp) ?_
        refine ⟨?_, ?_⟩
        ·
         simp only [Act.put, List.setIfInBounds_toArray, List.set_cons_zero, List.set_cons_succ]; rfl
        ·
         exact hI
       case s11 =>
        refine rg_step rfl ?_
        rintro l a W ⟨rfl, hI⟩ hl hd
        have d10 := hd 10 (by decide)
        clear hd
        have x0 := blk_cell (HXI.out W hI.1) 0
        have x1 := blk_cell (HXI.out W hI.1) 1
        have x2 := blk_cell (HXI.out W hI.1) 2
        have x3 := blk_cell (HXI.out W hI.1) 3
        have x4 := blk_cell (HXI.out W hI.1) 4
        simp at x0 x1 x2 x3 x4
        refine rg_val (v := .agg #[.bool x.f0, .string x.f1, .string x.f2, .int .u64 x.f3.f0, .int .u64 x.f3.f1]) (w' := W) (by simp only [d10, sel_true]; rfl) (by go_simp) ?_
        refine ⟨?_, ?_⟩
        ·
         simp only [Act.put, List.setIfInBounds_toArray, List.set_cons_zero, List.set_cons_succ]; rfl
        ·
         exact hI
       case s12 =>
        refine rg_step rfl ?_
        rintro l a W ⟨rfl, hI⟩ hl hd
        have d10 := hd 10 (by decide)
        clear hd
        refine rg_val (v := .slice (some ad) ls.length c) (w' := W) (by simp only [d10, sel_true]; rfl) (by go_simp) ?_
        refine ⟨?_, ?_⟩
        ·
         simp only [Act.put, List.setIfInBounds_toArray, List.set_cons_zero, List.set_cons_succ]; rfl
        ·
         exact hI
       case s13 =>
        refine rg_step rfl ?_
        rintro l a W ⟨rfl, hI⟩ hl hd
        have d10 := hd 10 (by decide)
        clear hd
        refine rg_val (v := .int .i64 (p : Int)) (w' := W) (by simp only [d10, sel_true]; rfl) (by go_simp) ?_
        refine ⟨?_, ?_⟩
        ·
         simp only [Act.put, List.setIfInBounds_toArray, List.set_cons_zero, List.set_cons_succ]; rfl
        ·
         exact hI
       case s14 =>
        refine rg_step rfl ?_
        rintro l a W ⟨rfl, hI⟩ hl hd
        have d10 := hd 10 (by decide)
        have d12 := hd 12 (by decide)
        have d13 := hd 13 (by decide)
        clear hd
        refine rg_val (v := .pointer (some ap)) (w' := W) (by simp only [d10, sel_true]; rfl) (by go_simp; try rfl) ?_
        refine ⟨?_, ?_⟩
        ·
         simp only [Act.put, List.setIfInBounds_toArray, List.set_cons_zero, List.set_cons_succ]; rfl
        ·
         exact hI
       case s15 =>
        refine rg_step rfl ?_
        rintro l a W ⟨rfl, hI⟩ hl hd
        have d10 := hd 10 (by decide)
        have d14 := hd 14 (by decide)
        clear hd
        obtain ⟨y0, y1, y2, y3, y4⟩ := leafC_of (HLC.out W (HBI.out W hI.1))
        refine rg_val (v := .agg #[.bool y.f0, .string y.f1, .string y.f2, .int .u64 y.f3.f0, .int .u64 y.f3.f1]) (w' := W) (by simp only [d10, sel_true]; rfl) (by go_simp) ?_
        refine ⟨?_, ?_⟩
        ·
         simp only [Act.put, List.setIfInBounds_toArray, List.set_cons_zero, List.set_cons_succ]; rfl
        ·
         exact hI
       case s16 =>
        refine rg_step rfl ?_
        rintro l a W ⟨rfl, hI⟩ hl hd
        have d10 := hd 10 (by decide)
        have d11 := hd 11 (by decide)
        have d15 := hd 15 (by decide)
        clear hd
        have hbx := HBX2.out
        refine rg_val (v := .bool bx) (w' := W) (by simp only [d10, sel_true]; rfl) (by go_simp; try rw [hbx]) ?_
        refine ⟨?_, ?_⟩
        ·
         simp only [Act.put, List.setIfInBounds_toArray, List.set_cons_zero, List.set_cons_succ]; rfl
        ·
         exact hI
       case s17 =>
        refine rg_step rfl ?_
        rintro l a W ⟨rfl, hI⟩ hl hd
        have d10 := hd 10 (by decide)
        have d16 := hd 16 (by decide)
        clear hd
        refine rg_val (v := .bool bx) (w' := W) rfl (by go_simp) ?_
        refine ⟨?_, ?_⟩
        ·
         simp only [Act.put, List.setIfInBounds_toArray, List.set_cons_zero, List.set_cons_succ]; rfl
        ·
         exact hI
      case hend =>
       rintro l a W ⟨rfl, hI⟩ hall
       have e0 := hall 0 (by decide)
       have e1 := hall 1 (by decide)
       have e2 := hall 2 (by decide)
       have e3 := hall 3 (by decide)
       have e4 := hall 4 (by decide)
       have e5 := hall 5 (by decide)
       have e6 := hall 6 (by decide)
       have e7 := hall 7 (by decide)
       have e8 := hall 8 (by decide)
       have e9 := hall 9 (by decide)
       have e10 := hall 10 (by decide)
       have e11 := hall 11 (by decide)
       have e12 := hall 12 (by decide)
       have e13 := hall 13 (by decide)
       have e14 := hall 14 (by decide)
       have e15 := hall 15 (by decide)
       have e16 := hall 16 (by decide)
       have e17 := hall 17 (by decide)
       clear hall
       have hO7 := hI.2.2 e7
       simp only [e0, e1, e2, e3, e4, e5, e6, e7, e8, e9, e10, e11, e12, e13, e14, e15, e16, e17, sel_true]
       clear e0 e1 e2 e3 e4 e5 e6 e7 e8 e9 e10 e11 e12 e13 e14 e15 e16 e17
       have hT20 := hI.1
       have HBZ := aM' (HBI.out _ hT20)
       have hO := hO7
       obtain ⟨k, hk⟩ : ∃ k, k = ls.set p x := ⟨_, rfl⟩
       have HKE := aM' hk
       have hs : setL wd ls p x = k := by unfold setL; rw [if_pos HF.out.symm, hk]
       rw [hs] at hO
       have HKL := aM' (show k.length = ls.length by rw [hk, List.length_set])
       have HKK2 := aM' (show NewOk wd k from newI_zero (by rw [hk]; exact HNI.out.trans HF.out.symm) (fun z hz => by
        rw [hk] at hz
        rcases List.mem_or_eq_of_mem_set hz with h | rfl
        ·
         exact HOK.out z h
        ·
         exact HOX.out))
       have HLS := aM' (show k.length ≤ 1024 by rw [HKL.out]; exact HL1024.out)
       have HMS := aM' (show m = k.length.log2 by rw [HKL.out]; exact HMM.out)
       have HXZ := aM' (HXI.out _ hT20)
       have HOZ := aM' (HO17.out.far (W' := W) (fun j _ hj => (hT20.block j (lL' hj HB20.out.size) (fun hm => by have := (HPG.out j hm).1; omega)).trans (HB20.out.block j hj)))
       have HPZ := aM' hO
       have HT20 := aM' hT20
       obtain ⟨rn, hrn⟩ : ∃ r, r = topI (treeT wd k) := ⟨_, rfl⟩
       have HRN := aM' hrn
       obtain ⟨W20, hW20⟩ : ∃ V, V = W := ⟨_, rfl⟩
       rw [← hW20] at HBZ HXZ HOZ HPZ
       clear hs hk hrn hI hO hO7 hT20
       cases bx with
       | true =>
        clear hW20
        go_wp2
        go_ret
        exact ⟨rfl, HBI.out _ HT20.out⟩
       | false =>
        have HNE := aM' (show y ≠ x from fun e => by
         have := HBX2.out
         rw [e] at this
         simp at this)
        go_wp2_with fail
        rw [← hW20]
        clear hW20
        refine (HOZ.out.rootC HKK.out HL1024.out HMM.out HRT.out).mono ?_
        rintro e w21 ⟨rfl, hb⟩
        have HPB := aM' (HPZ.out.keep hb)
        have HOB := aM' (HOZ.out.keep hb)
        have HXB := aM' (blk_below HXZ.out hb)
        have HBV := aM' (HBZ.out.trans (hb.mono HBZ.out.size))
        clear hb
        obtain ⟨bq, hbq⟩ : ∃ b, b = (rt.f0.toList == rn.f0.toList && ((rt.f1.f0 == rn.f1.f0 && rt.f1.f1 == rn.f1.f1) && (m : Int) == (m : Int))) := ⟨_, rfl⟩
        have hnot := bne_root rt.f0.toList rn.f0.toList rt.f1.f0 rn.f1.f0 rt.f1.f1 rn.f1.f1
        rw [show ((m : Int) == (m : Int)) = true by simp, Bool.and_true] at hbq
        rw [← hbq] at hnot
        have HBQ := aM' hbq
        clear hbq
        cases bq with
        | false =>
         have kb : (!(rt.f0.toList == rn.f0.toList) || (!(rt.f1.f0 == rn.f1.f0) || !(rt.f1.f1 == rn.f1.f1))) = true := hnot
         clear hnot
         go_wp2_with fail
         refine (HPB.out.rootC HKK2.out HLS.out HMS.out HRN.out).mono ?_
         rintro e w22 ⟨rfl, hb⟩
         have HBF := aM' (HBV.out.trans (hb.mono HBV.out.size))
         clear hb
         go_wp2
         go_ret
         exact ⟨rfl, HBF.out⟩
        | true =>
         have kb : (!(rt.f0.toList == rn.f0.toList) || (!(rt.f1.f0 == rn.f1.f0) || !(rt.f1.f1 == rn.f1.f1))) = false := hnot
         clear hnot
         go_wp2_with fail
         refine (HPB.out.rootC HKK2.out HLS.out HMS.out HRN.out).mono ?_
         rintro e w22 ⟨rfl, hb⟩
         have HP22 := aM' (HPB.out.keep hb)
         have HO22 := aM' (HOB.out.keep hb)
         have HX22 := aM' (blk_below HXB.out hb)
         have HB22 := aM' (HBV.out.trans (hb.mono HBV.out.size))
         clear hb
         have HRQ := aM' (show rt.f0 = rn.f0 by
          have h := HBQ.out.symm
          simp only [Bool.and_eq_true, beq_iff_eq] at h
          refine ByteArray.ext ?_
          simpa [ByteArray.toList_eq] using h.1)
         go_upto_region 24 with (fail)
         clear kb
         obtain ⟨ty, hty⟩ : ∃ t, t = leafTextI y := ⟨_, rfl⟩
         obtain ⟨tx, htx⟩ : ∃ t, t = leafTextI x := ⟨_, rfl⟩
         obtain ⟨dy, hdy⟩ : ∃ t, t = dgI wd ty := ⟨_, rfl⟩
         obtain ⟨dx, hdx⟩ : ∃ t, t = dgI wd tx := ⟨_, rfl⟩
         have hyo : OkL y := by rw [HY.out]; exact HOK.out _ (List.getElem_mem _)
         have HTY := aM' (show tag_LeafText.f y.f0 y.f1 y.f2 y.f3.f0 y.f3.f1 = some ty by rw [hty]; exact tagLeafText_eq y hyo.id hyo.sa)
         have HTX := aM' (show tag_LeafText.f x.f0 x.f1 x.f2 x.f3.f0 x.f3.f1 = some tx by rw [htx]; exact tagLeafText_eq x HOX.out.id HOX.out.sa)
         have HDY := aM' (show tag_Digest.f wd ty = some dy by rw [hdy]; exact tagDigest_eq wd ty HKK.out.w.1 HKK.out.w.2 (by rw [hty]; have := leafTextI_size y hyo.id hyo.sa; omega))
         have HDX := aM' (show tag_Digest.f wd tx = some dx by rw [hdx]; exact tagDigest_eq wd tx HKK.out.w.1 HKK.out.w.2 (by rw [htx]; have := leafTextI_size x HOX.out.id HOX.out.sa; omega))
         have hmy : mayLeafI y = true := by rw [HY.out]; exact leaf_may (HKK.out.k _ (List.mem_map_of_mem (List.getElem_mem _)))
         have hmx : mayLeafI x = true := leaf_may (HKK2.out.k _ (List.mem_map_of_mem (by rw [HKE.out]; exact List.mem_set HPL.out x)))
         have htn : ty.toList ≠ tx.toList := fun e => HNE.out (leafText_inj hmy hmx hyo.ub HOX.out.ub (by rw [← hty, ← htx]; exact ba_of_toList e))
         have kt : (ty.toList == tx.toList) = false := by rw [beq_eq_false_iff_ne]; exact htn
         obtain ⟨bd, hbd⟩ : ∃ b, b = (dy.toList == dx.toList) := ⟨_, rfl⟩
         have kd := hbd.symm
         have HBD := aM' (show bd = false → ¬ (leafTextI ls[p] ≠ leafTextI x ∧ dgI wd (leafTextI ls[p]) = dgI wd (leafTextI x)) from fun h0 h => by
          rw [← HY.out, ← hty, ← htx, ← hdy, ← hdx] at h
          rw [hbd, h.2] at h0
          simp at h0)
         have HAE24 := aM' (show ∀ V : World, Below w22.heap.size w22 V → ((V.cell? ap = some (.bool y.f0) ∧ V.cell? ⟨ap.block, ap.off + 1, none⟩ = some (.string y.f1) ∧ V.cell? ⟨ap.block, ap.off + 2, none⟩ = some (.string y.f2) ∧ V.cell? ⟨ap.block, ap.off + 3, none⟩ = some (.int .u64 y.f3.f0) ∧ V.cell? ⟨ap.block, ap.off + 4, none⟩ = some (.int .u64 y.f3.f1)) ∧ (V.cell? ⟨w.heap.size, 0, none⟩ = some (.bool x.f0) ∧ V.cell? ⟨w.heap.size, 1, none⟩ = some (.string x.f1) ∧ V.cell? ⟨w.heap.size, 2, none⟩ = some (.string x.f2) ∧ V.cell? ⟨w.heap.size, 3, none⟩ = some (.int .u64 x.f3.f0) ∧ V.cell? ⟨w.heap.size, 4, none⟩ = some (.int .u64 x.f3.f1))) ∧ Below w22.heap.size w22 V from fun V h => ⟨⟨leafC_of (HLC.out V (HB22.out.trans (h.mono HB22.out.size))), (blk_cell (blk_below HX22.out h) 0).trans rfl, (blk_cell (blk_below HX22.out h) 1).trans rfl, (blk_cell (blk_below HX22.out h) 2).trans rfl, (blk_cell (blk_below HX22.out h) 3).trans rfl, (blk_cell (blk_below HX22.out h) 4).trans rfl⟩, h⟩)
         have HCY := aM' (show ∀ V : World, Below w22.heap.size w22 V → Calls Tryd.prog 31 #[.agg #[.bool y.f0, .string y.f1, .string y.f2, .int .u64 y.f3.f0, .int .u64 y.f3.f1]] V fun e w' => e = .returned (.string ty) ∧ Below V.heap.size V w' from fun V h => tag_LeafText.calls y.f0 y.f1 y.f2 y.f3.f0 y.f3.f1 ty _ (HK.out.below (HB22.out.trans (h.mono HB22.out.size))) HTY.out)
         have HCX := aM' (show ∀ V : World, Below w22.heap.size w22 V → Calls Tryd.prog 31 #[.agg #[.bool x.f0, .string x.f1, .string x.f2, .int .u64 x.f3.f0, .int .u64 x.f3.f1]] V fun e w' => e = .returned (.string tx) ∧ Below V.heap.size V w' from fun V h => tag_LeafText.calls x.f0 x.f1 x.f2 x.f3.f0 x.f3.f1 tx _ (HK.out.below (HB22.out.trans (h.mono HB22.out.size))) HTX.out)
         have HEY := aM' (show ∀ V : World, Below w22.heap.size w22 V → Calls Tryd.prog 32 #[.int .i64 wd, .string ty] V fun e w' => e = .returned (.string dy) ∧ Below V.heap.size V w' from fun V h => tag_Digest.calls wd ty dy _ (HK.out.below (HB22.out.trans (h.mono HB22.out.size))).1 HDY.out)
         have HEX := aM' (show ∀ V : World, Below w22.heap.size w22 V → Calls Tryd.prog 32 #[.int .i64 wd, .string tx] V fun e w' => e = .returned (.string dx) ∧ Below V.heap.size V w' from fun V h => tag_Digest.calls wd tx dx _ (HK.out.below (HB22.out.trans (h.mono HB22.out.size))).1 HDX.out)
         have HSE24 := aM' (below_drew (Below.refl w22.heap.size w22))
         clear hty htx hdy hdx hmy hmx htn hyo hbd
         go_region_held3 (fun V => ((V.cell? ap = some (.bool y.f0) ∧ V.cell? ⟨ap.block, ap.off + 1, none⟩ = some (.string y.f1) ∧ V.cell? ⟨ap.block, ap.off + 2, none⟩ = some (.string y.f2) ∧ V.cell? ⟨ap.block, ap.off + 3, none⟩ = some (.int .u64 y.f3.f0) ∧ V.cell? ⟨ap.block, ap.off + 4, none⟩ = some (.int .u64 y.f3.f1)) ∧ (V.cell? ⟨w.heap.size, 0, none⟩ = some (.bool x.f0) ∧ V.cell? ⟨w.heap.size, 1, none⟩ = some (.string x.f1) ∧ V.cell? ⟨w.heap.size, 2, none⟩ = some (.string x.f2) ∧ V.cell? ⟨w.heap.size, 3, none⟩ = some (.int .u64 x.f3.f0) ∧ V.cell? ⟨w.heap.size, 4, none⟩ = some (.int .u64 x.f3.f1))) ∧ Below w22.heap.size w22 V) (first | exact HAE24.out _ HSE24.out | exact HAE24.out _ (BSO (by assumption) (by assumption))) (first | (go_at_call 31; (with_reducible refine (HCY.out _ (And.right (by assumption))).mono ?_); rintro e w24 ⟨rfl, hb⟩) | (go_at_call 31; (with_reducible refine (HCX.out _ (And.right (by assumption))).mono ?_); rintro e w24 ⟨rfl, hb⟩) | (go_at_call 32; (with_reducible refine (HEY.out _ (And.right (by assumption))).mono ?_); rintro e w24 ⟨rfl, hb⟩) | (go_at_call 32; (with_reducible refine (HEX.out _ (And.right (by assumption))).mono ?_); rintro e w24 ⟨rfl, hb⟩))
         all_goals
          have HB24 := aM' (show Below w22.heap.size w22 _ from And.right (by assumption))
          clear kt kd
          cases bd with
          | true =>
           go_wp2
           go_ret
           exact ⟨rfl, HB22.out.trans (HB24.out.mono HB22.out.size)⟩
          | false =>
           have HN0 := aM' (HBD.out rfl)
           have HB24 := aM' (show Below w22.heap.size w22 w24 from HB24.out)
           have HO24 := aM' (HO22.out.keep HB24.out)
           have HP24 := aM' (HP22.out.keep HB24.out)
           have HW24 := aM' (HB22.out.trans (HB24.out.mono HB22.out.size))
           obtain ⟨nl, hnl⟩ : ∃ n, n = ls.map (leafNodeI wd) := ⟨_, rfl⟩
           obtain ⟨nk, hnk⟩ : ∃ n, n = k.map (leafNodeI wd) := ⟨_, rfl⟩
           have HNL := aM' hnl
           have HNK := aM' hnk
           have HLN := aM' (show nl.length = 2 ^ m by rw [hnl, List.length_map, HMM.out]; exact HKK.out.p)
           have HKN := aM' (show nk.length = 2 ^ m by rw [hnk, List.length_map, HMS.out]; exact HKK2.out.p)
           have HP2M := aM' (show p < 2 ^ m by have := HLN.out; rw [hnl, List.length_map] at this; have := HPL.out; omega)
           have hwp2 := HREM.out.2.1
           clear hnl hnk
           go_upto_region 27 with (fail)
           clear hwp2
           go_wp2
           go_loopw [17, 18] (fun v17 v18 wr2 => ∃ n q : Nat, v18 = .int .i64 (n : Int) ∧ v17 = .int .u64 (q : Int) ∧ Aside0 (n ≤ m) ∧ Aside0 (q = p / 2 ^ n) ∧ Aside0 (∀ j, j < n → ¬ (upT wd nl j (p / 2 ^ (j + 1)) ≠ upT wd nk j (p / 2 ^ (j + 1)) ∧ dgI wd (upT wd nl j (p / 2 ^ (j + 1))) = dgI wd (upT wd nk j (p / 2 ^ (j + 1))))) ∧ Aside0 (Below w24.heap.size w24 wr2)) (fun _ v18 _ => m - (intOf v18).toNat)
           case atStart => exact ⟨0, p, rfl, rfl, ⟨Nat.zero_le _⟩, ⟨by rw [Nat.pow_zero, Nat.div_one]⟩, ⟨fun j hj => absurd hj (by omega)⟩, ⟨Below.refl _ _⟩⟩
           case round =>
            obtain ⟨n, q, rfl, rfl, HN, HQ, HNO, HBQ2⟩ := hrel
            have hn6 : n ≤ 6 := by have := HN.out; have := HM6.out; omega
            have hq70 : q < 70 := by have := HQ.out; have := Nat.div_le_self p (2 ^ n); have := HPL.out; have := H70.out; omega
            go_wp2_with fail
            refine ((HO24.out.keep HBQ2.out).heightC HKK.out HL1024.out HMM.out).mono ?_
            rintro e wq ⟨rfl, rfl⟩
            by_cases hnm : n < m
            ·
             have d1 : decide ((n : Int) < (m : Int)) = true := decide_eq_true (by omega)
             have d2 : decide (n < m) = true := decide_eq_true hnm
             have HNM := aM' hnm
             obtain ⟨h, hh⟩ : ∃ h, h = p / 2 ^ (n + 1) := ⟨_, rfl⟩
             have hqh : q / 2 = h := by rw [HQ.out, hh, Nat.pow_succ, Nat.div_div_eq_div_mul]
             have hhl : h < 2 ^ (m - (n + 1)) := by rw [hh]; exact div_lt HP2M.out (by omega)
             have hp2 : 2 ^ (m - n) = 2 * 2 ^ (m - (n + 1)) := by rw [show m - n = (m - (n + 1)) + 1 by omega, Nat.pow_succ, Nat.mul_comm]
             obtain ⟨qa, hqa⟩ : ∃ z, z = 2 * h := ⟨_, rfl⟩
             obtain ⟨qb, hqb⟩ : ∃ z, z = 2 * h + 1 := ⟨_, rfl⟩
             have hna : Go.bits .andNot .u64 (q : Int) 1 = (qa : Int) := by rw [andNot_small q hq70, hqh, hqa]
             have hor : Go.bits .or .u64 (q : Int) 1 = (qb : Int) := by rw [or_small q hq70, hqh, hqb]
             have hqo : Int.tdiv (q : Int) 2 = (h : Int) := by rw [Int.tdiv_eq_ediv_of_nonneg (by omega)]; omega
             have hwh : IntKind.u64.wrap (h : Int) = (h : Int) := wrapu64_id (by omega) (by omega)
             obtain ⟨na, hnn1⟩ : ∃ z, z = (upV wd n nl).getD qa zeroN := ⟨_, rfl⟩
             obtain ⟨nb, hnn2⟩ : ∃ z, z = (upV wd n nl).getD qb zeroN := ⟨_, rfl⟩
             obtain ⟨nc, hnn3⟩ : ∃ z, z = (upV wd n nk).getD qa zeroN := ⟨_, rfl⟩
             obtain ⟨nd, hnn4⟩ : ∃ z, z = (upV wd n nk).getD qb zeroN := ⟨_, rfl⟩
             have HNna := aM' (node_at (x := na) HKK.out HMM.out (Nat.le_of_lt hnm) (show qa < 2 ^ (m - n) by omega) (by rw [← HNL.out]; exact hnn1))
             have HNnb := aM' (node_at (x := nb) HKK.out HMM.out (Nat.le_of_lt hnm) (show qb < 2 ^ (m - n) by omega) (by rw [← HNL.out]; exact hnn2))
             have HNnc := aM' (node_at (x := nc) HKK2.out HMS.out (Nat.le_of_lt hnm) (show qa < 2 ^ (m - n) by omega) (by rw [← HNK.out]; exact hnn3))
             have HNnd := aM' (node_at (x := nd) HKK2.out HMS.out (Nat.le_of_lt hnm) (show qb < 2 ^ (m - n) by omega) (by rw [← HNK.out]; exact hnn4))
             have kA : NodeK wd na := by rw [hnn1, HNL.out]; exact upV_getK (by rw [← HNL.out]; exact HLN.out) HKK.out.k HKK.out.t (Nat.le_of_lt hnm) (by omega)
             have kB : NodeK wd nb := by rw [hnn2, HNL.out]; exact upV_getK (by rw [← HNL.out]; exact HLN.out) HKK.out.k HKK.out.t (Nat.le_of_lt hnm) (by omega)
             have kC : NodeK wd nc := by rw [hnn3, HNK.out]; exact upV_getK (by rw [← HNK.out]; exact HKN.out) HKK2.out.k HKK2.out.t (Nat.le_of_lt hnm) (by omega)
             have kD : NodeK wd nd := by rw [hnn4, HNK.out]; exact upV_getK (by rw [← HNK.out]; exact HKN.out) HKK2.out.k HKK2.out.t (Nat.le_of_lt hnm) (by omega)
             have hsz : ∀ z, NodeK wd z → z.f0.size ≤ 1000000 := fun z hz => by have := nodeOf_w hz.of; omega
             obtain ⟨s, hs⟩ : ∃ s, s = nodeText na nb := ⟨_, rfl⟩
             obtain ⟨u, hu⟩ : ∃ s, s = nodeText nc nd := ⟨_, rfl⟩
             obtain ⟨ds, hds⟩ : ∃ z, z = dgI wd s := ⟨_, rfl⟩
             obtain ⟨du, hdu⟩ : ∃ z, z = dgI wd u := ⟨_, rfl⟩
             have HTS := aM' (show tag_NodeText.f na.f0 na.f1.f0 na.f1.f1 nb.f0 nb.f1.f0 nb.f1.f1 = some s by rw [hs]; exact tagNodeText_eq na nb (hsz _ kA) (hsz _ kB))
             have HTU := aM' (show tag_NodeText.f nc.f0 nc.f1.f0 nc.f1.f1 nd.f0 nd.f1.f0 nd.f1.f1 = some u by rw [hu]; exact tagNodeText_eq nc nd (hsz _ kC) (hsz _ kD))
             have HDS := aM' (show tag_Digest.f wd s = some ds by rw [hds]; exact tagDigest_eq wd s HKK.out.w.1 HKK.out.w.2 (by rw [hs, nodeText_size]; have := hsz _ kA; have := hsz _ kB; omega))
             have HDU := aM' (show tag_Digest.f wd u = some du by rw [hdu]; exact tagDigest_eq wd u HKK.out.w.1 HKK.out.w.2 (by rw [hu, nodeText_size]; have := hsz _ kC; have := hsz _ kD; omega))
             have HUS := aM' (show upT wd nl n (p / 2 ^ (n + 1)) = s ∧ upT wd nk n (p / 2 ^ (n + 1)) = u ∧ dgI wd s = ds ∧ dgI wd u = du by
              rw [hds, hdu]
              refine ⟨?_, ?_, rfl, rfl⟩
              ·
               rw [hs, hnn1, hnn2, hqa, hqb, hh]; rfl
              ·
               rw [hu, hnn3, hnn4, hqa, hqb, hh]; rfl)
             have HHQ := aM' (show h = p / 2 ^ (n + 1) from hh)
             clear hh hqh hhl hp2 hqa hqb hnn1 hnn2 hnn3 hnn4 kA kB kC kD hsz hs hu hds hdu hnm
             go_upto_region 31 with (fail)
             clear hna hor
             go_wp2_with fail
             refine ((HO24.out.keep HBQ2.out).nodeC HKK.out HL1024.out HNna.out).mono ?_
             rintro e v1 ⟨rfl, hb⟩
             obtain ⟨g1, hg1⟩ : ∃ g, g = v1.heap.size := ⟨_, rfl⟩
             obtain ⟨V1, hV1⟩ : ∃ V, V = v1.alloc (.cells #[.string na.f0, .int .u64 na.f1.f0, .int .u64 na.f1.f1] 46) := ⟨_, rfl⟩
             have hb1 : Below wr.heap.size wr V1 := by rw [hV1]; exact below_alloc hb _
             have HC1 := aM' (HBQ2.out.trans (hb1.mono HBQ2.out.size))
             have HY1 := aM' hb1
             have HG1 := aM' (show V1.heap[g1]? = some (.cells #[.string na.f0, .int .u64 na.f1.f0, .int .u64 na.f1.f1] 46 (0, 0)) by rw [hV1, hg1]; exact blk_new _ _)
             go_upto_region 32 with (fail)
             simp only [← hg1, ← hV1]
             clear hb hb1 hg1 hV1
             go_wp2_with fail
             refine ((HO24.out.keep HC1.out).nodeC HKK.out HL1024.out HNnb.out).mono ?_
             rintro e v2 ⟨rfl, hb⟩
             obtain ⟨g2, hg2⟩ : ∃ g, g = v2.heap.size := ⟨_, rfl⟩
             obtain ⟨V2, hV2⟩ : ∃ V, V = v2.alloc (.cells #[.string nb.f0, .int .u64 nb.f1.f0, .int .u64 nb.f1.f1] 46) := ⟨_, rfl⟩
             have hb2 : Below V1.heap.size V1 V2 := by rw [hV2]; exact below_alloc hb _
             have HC2 := aM' (HC1.out.trans (hb2.mono HC1.out.size))
             have HY2 := aM' hb2
             have HG2 := aM' (show V2.heap[g2]? = some (.cells #[.string nb.f0, .int .u64 nb.f1.f0, .int .u64 nb.f1.f1] 46 (0, 0)) by rw [hV2, hg2]; exact blk_new _ _)
             go_upto_region 33 with (fail)
             simp only [← hg2, ← hV2]
             clear hb hb2 hg2 hV2
             go_wp2_with fail
             refine ((HP24.out.keep HC2.out).nodeC HKK2.out HLS.out HNnc.out).mono ?_
             rintro e v3 ⟨rfl, hb⟩
             obtain ⟨g3, hg3⟩ : ∃ g, g = v3.heap.size := ⟨_, rfl⟩
             obtain ⟨V3, hV3⟩ : ∃ V, V = v3.alloc (.cells #[.string nc.f0, .int .u64 nc.f1.f0, .int .u64 nc.f1.f1] 46) := ⟨_, rfl⟩
             have hb3 : Below V2.heap.size V2 V3 := by rw [hV3]; exact below_alloc hb _
             have HC3 := aM' (HC2.out.trans (hb3.mono HC2.out.size))
             have HY3 := aM' hb3
             have HG3 := aM' (show V3.heap[g3]? = some (.cells #[.string nc.f0, .int .u64 nc.f1.f0, .int .u64 nc.f1.f1] 46 (0, 0)) by rw [hV3, hg3]; exact blk_new _ _)
             go_upto_region 34 with (fail)
             simp only [← hg3, ← hV3]
             clear hb hb3 hg3 hV3
             go_wp2_with fail
             refine ((HP24.out.keep HC3.out).nodeC HKK2.out HLS.out HNnd.out).mono ?_
             rintro e v4 ⟨rfl, hb⟩
             obtain ⟨g4, hg4⟩ : ∃ g, g = v4.heap.size := ⟨_, rfl⟩
             obtain ⟨V4, hV4⟩ : ∃ V, V = v4.alloc (.cells #[.string nd.f0, .int .u64 nd.f1.f0, .int .u64 nd.f1.f1] 46) := ⟨_, rfl⟩
             have hb4 : Below V3.heap.size V3 V4 := by rw [hV4]; exact below_alloc hb _
             have HC4 := aM' (HC3.out.trans (hb4.mono HC3.out.size))
             have HY4 := aM' hb4
             have HG4 := aM' (show V4.heap[g4]? = some (.cells #[.string nd.f0, .int .u64 nd.f1.f0, .int .u64 nd.f1.f1] 46 (0, 0)) by rw [hV4, hg4]; exact blk_new _ _)
             go_upto_region 35 with (fail)
             simp only [← hg4, ← hV4]
             clear hb hb4 hg4 hV4
             have HA1 := aM' (blk_below (blk_below (blk_below HG1.out HY2.out) HY3.out) HY4.out)
             have HA2 := aM' (blk_below (blk_below HG2.out HY3.out) HY4.out)
             have HA3 := aM' (blk_below HG3.out HY4.out)
             have HAE4 := aM' (show ∀ V : World, Below V4.heap.size V4 V → ((V.cell? ⟨g1, 0, none⟩ = some (.string na.f0) ∧ V.cell? ⟨g1, 1, none⟩ = some (.int .u64 na.f1.f0) ∧ V.cell? ⟨g1, 2, none⟩ = some (.int .u64 na.f1.f1)) ∧ (V.cell? ⟨g2, 0, none⟩ = some (.string nb.f0) ∧ V.cell? ⟨g2, 1, none⟩ = some (.int .u64 nb.f1.f0) ∧ V.cell? ⟨g2, 2, none⟩ = some (.int .u64 nb.f1.f1)) ∧ (V.cell? ⟨g3, 0, none⟩ = some (.string nc.f0) ∧ V.cell? ⟨g3, 1, none⟩ = some (.int .u64 nc.f1.f0) ∧ V.cell? ⟨g3, 2, none⟩ = some (.int .u64 nc.f1.f1)) ∧ (V.cell? ⟨g4, 0, none⟩ = some (.string nd.f0) ∧ V.cell? ⟨g4, 1, none⟩ = some (.int .u64 nd.f1.f0) ∧ V.cell? ⟨g4, 2, none⟩ = some (.int .u64 nd.f1.f1))) ∧ Below V4.heap.size V4 V from fun V h => ⟨⟨⟨(blk_cell (blk_below HA1.out h) 0).trans rfl, (blk_cell (blk_below HA1.out h) 1).trans rfl, (blk_cell (blk_below HA1.out h) 2).trans rfl⟩, ⟨(blk_cell (blk_below HA2.out h) 0).trans rfl, (blk_cell (blk_below HA2.out h) 1).trans rfl, (blk_cell (blk_below HA2.out h) 2).trans rfl⟩, ⟨(blk_cell (blk_below HA3.out h) 0).trans rfl, (blk_cell (blk_below HA3.out h) 1).trans rfl, (blk_cell (blk_below HA3.out h) 2).trans rfl⟩, ⟨(blk_cell (blk_below HG4.out h) 0).trans rfl, (blk_cell (blk_below HG4.out h) 1).trans rfl, (blk_cell (blk_below HG4.out h) 2).trans rfl⟩⟩, h⟩)
             have HCS1 := aM' (show ∀ V : World, Below V4.heap.size V4 V → Calls Tryd.prog 33 #[.agg #[.string na.f0, .int .u64 na.f1.f0, .int .u64 na.f1.f1], .agg #[.string nb.f0, .int .u64 nb.f1.f0, .int .u64 nb.f1.f1]] V fun e w' => e = .returned (.string s) ∧ Below V.heap.size V w' from fun V h => tag_NodeText.calls na.f0 na.f1.f0 na.f1.f1 nb.f0 nb.f1.f0 nb.f1.f1 s V HTS.out)
             have HCS2 := aM' (show ∀ V : World, Below V4.heap.size V4 V → Calls Tryd.prog 33 #[.agg #[.string nc.f0, .int .u64 nc.f1.f0, .int .u64 nc.f1.f1], .agg #[.string nd.f0, .int .u64 nd.f1.f0, .int .u64 nd.f1.f1]] V fun e w' => e = .returned (.string u) ∧ Below V.heap.size V w' from fun V h => tag_NodeText.calls nc.f0 nc.f1.f0 nc.f1.f1 nd.f0 nd.f1.f0 nd.f1.f1 u V HTU.out)
             have HSE4 := aM' (below_drew (Below.refl V4.heap.size V4))
             have HWV := aM' (HW24.out.trans (HC4.out.mono HW24.out.size))
             go_region_held3 (fun V => ((V.cell? ⟨g1, 0, none⟩ = some (.string na.f0) ∧ V.cell? ⟨g1, 1, none⟩ = some (.int .u64 na.f1.f0) ∧ V.cell? ⟨g1, 2, none⟩ = some (.int .u64 na.f1.f1)) ∧ (V.cell? ⟨g2, 0, none⟩ = some (.string nb.f0) ∧ V.cell? ⟨g2, 1, none⟩ = some (.int .u64 nb.f1.f0) ∧ V.cell? ⟨g2, 2, none⟩ = some (.int .u64 nb.f1.f1)) ∧ (V.cell? ⟨g3, 0, none⟩ = some (.string nc.f0) ∧ V.cell? ⟨g3, 1, none⟩ = some (.int .u64 nc.f1.f0) ∧ V.cell? ⟨g3, 2, none⟩ = some (.int .u64 nc.f1.f1)) ∧ (V.cell? ⟨g4, 0, none⟩ = some (.string nd.f0) ∧ V.cell? ⟨g4, 1, none⟩ = some (.int .u64 nd.f1.f0) ∧ V.cell? ⟨g4, 2, none⟩ = some (.int .u64 nd.f1.f1))) ∧ Below V4.heap.size V4 V) (first | exact HAE4.out _ HSE4.out | exact HAE4.out _ (BSO (by assumption) (by assumption))) (first | (go_at_call 33; (with_reducible refine (HCS1.out _ (And.right (by assumption))).mono ?_); rintro e v5 ⟨rfl, hb⟩) | (go_at_call 33; (with_reducible refine (HCS2.out _ (And.right (by assumption))).mono ?_); rintro e v5 ⟨rfl, hb⟩))
             all_goals
              have HB5v := aM' (show Below V4.heap.size V4 v5 from And.right (by assumption))
              have HW5 := aM' (HWV.out.trans (HB5v.out.mono HWV.out.size))
              have HB5q := aM' (HC4.out.trans (HB5v.out.mono HC4.out.size))
              by_cases hsu : s = u
              ·
               have ks : (s.toList == u.toList) = true := by simp [hsu]
               have HN1 := aM' (show ∀ j, j < n + 1 → ¬ (upT wd nl j (p / 2 ^ (j + 1)) ≠ upT wd nk j (p / 2 ^ (j + 1)) ∧ dgI wd (upT wd nl j (p / 2 ^ (j + 1))) = dgI wd (upT wd nk j (p / 2 ^ (j + 1)))) from fun j hj => by
                rcases Nat.lt_or_ge j n with h1 | h1
                ·
                 exact HNO.out j h1
                ·
                 obtain rfl : j = n := by omega
                 rw [HUS.out.1, HUS.out.2.1]
                 exact fun h => h.1 hsu)
               clear hsu
               go_wp2
               go_roundw
               case rel => exact ⟨n + 1, h, by go_num, rfl, ⟨by have := HNM.out; omega⟩, HHQ, HN1, HB5q⟩
               case measure => simp [intOf]; have := HNM.out; omega
              ·
               have ks : (s.toList == u.toList) = false := by rw [beq_eq_false_iff_ne]; exact fun e => hsu (ba_of_toList e)
               have HSU2 := aM' hsu
               clear hsu
               go_wp2_with fail
               refine (tag_Digest.calls wd s ds v5 (HK.out.below HW5.out).1 HDS.out).mono ?_
               rintro e v6 ⟨rfl, hb6⟩
               have HB6v := aM' (HB5q.out.trans (hb6.mono HB5q.out.size))
               have HW6 := aM' (HW5.out.trans (hb6.mono HW5.out.size))
               clear hb6
               by_cases hdd : ds = du
               ·
                have kdd : (ds.toList == du.toList) = true := by simp [hdd]
                clear hdd
                go_wp2_with fail
                refine (tag_Digest.calls wd u du v6 (HK.out.below HW6.out).1 HDU.out).mono ?_
                rintro e v7 ⟨rfl, hb7⟩
                have HW7 := aM' (HW6.out.trans (hb7.mono HW6.out.size))
                clear hb7
                go_wp2
                go_ret
                exact ⟨rfl, HW7.out⟩
               ·
                have kdd : (ds.toList == du.toList) = false := by rw [beq_eq_false_iff_ne]; exact fun e => hdd (ba_of_toList e)
                have HN1 := aM' (show ∀ j, j < n + 1 → ¬ (upT wd nl j (p / 2 ^ (j + 1)) ≠ upT wd nk j (p / 2 ^ (j + 1)) ∧ dgI wd (upT wd nl j (p / 2 ^ (j + 1))) = dgI wd (upT wd nk j (p / 2 ^ (j + 1)))) from fun j hj => by
                 rcases Nat.lt_or_ge j n with h1 | h1
                 ·
                  exact HNO.out j h1
                 ·
                  obtain rfl : j = n := by omega
                  rw [HUS.out.1, HUS.out.2.1, HUS.out.2.2.1, HUS.out.2.2.2]
                  exact fun h => hdd h.2)
                clear hdd
                go_wp2_with fail
                refine (tag_Digest.calls wd u du v6 (HK.out.below HW6.out).1 HDU.out).mono ?_
                rintro e v7 ⟨rfl, hb7⟩
                have HB7v := aM' (HB6v.out.trans (hb7.mono HB6v.out.size))
                clear hb7
                go_wp2
                go_roundw
                case rel => exact ⟨n + 1, h, by go_num, rfl, ⟨by have := HNM.out; omega⟩, HHQ, HN1, HB7v⟩
                case measure => simp [intOf]; have := HNM.out; omega
            ·
             exfalso
             obtain rfl : n = m := by have := HN.out; omega
             have h1 := HNO.out
             rw [HNL.out, HNK.out] at h1
             have h2 := HKK2.out
             have h3 := HRQ.out
             rw [HRT.out, HRN.out] at h3
             have hke := HKE.out
             subst hke
             exact HNE.out (HY.out.trans (other_leaf HKK.out h2 HMM.out HPL.out HOX.out.ub (HOK.out _ (List.getElem_mem _)).ub h3 HN0.out h1))
def law15_TreeOther.f (wd : Int) (ls : List SLeaf) (pos : Int) (x0 : Bool) (x1 x2 : ByteArray) (x3 x4 : Int) : Option Bool := if ((0 ≤ pos ∧ pos < 65536) ∧ ls.length ≤ 9223372036854775807) ∧ (∀ x ∈ ls, (0 ≤ x.f3.f0 ∧ x.f3.f0 < 18446744073709551616) ∧ 0 ≤ x.f3.f1 ∧ x.f3.f1 < 18446744073709551616) ∧ (0 ≤ x3 ∧ x3 < 18446744073709551616) ∧ 0 ≤ x4 ∧ x4 < 18446744073709551616 then some true else none
theorem law15_TreeOther.calls (wd : Int) (A : Option Addr) (c : Nat) (ls : List SLeaf) (pos : Int) (x0 : Bool) (x1 x2 : ByteArray) (x3 x4 : Int) (r : Bool) (w : World) (hK : LaidT w) (hr : Kd.C kLeaf w A ls.length ls) (hc : ls.length ≤ c) (h : law15_TreeOther.f wd ls pos x0 x1 x2 x3 x4 = some r) :
  Calls Tryd.prog 5 #[.int .i64 wd, .slice A ls.length c, .int .u16 pos, .agg #[.bool x0, .string x1, .string x2, .int .u64 x3, .int .u64 x4]] w fun e w' => e = .returned (.bool r) ∧ Below w.heap.size w w' := by
 unfold law15_TreeOther.f at h
 split at h
 ·
  next hh =>
  cases h
  exact lawTOther.calls wd A c ls pos ⟨x0, x1, x2, ⟨x3, x4⟩⟩ w hK hr hc (fun x hx => by obtain ⟨h1, h2⟩ := hh.2.1 x hx; exact ⟨h1, h2⟩) ⟨hh.2.2.1, hh.2.2.2⟩ hh.1.2 hh.1.1
 ·
  cases h
end Go.Proofs.YtfcodmdckcihmaaDoor.P
namespace Go.Proofs.YtfcodmdckcihmaaDoor.P
open Go.RowKit Go.Proofs.YtfcodmdckcihmaaDoorW.PrintWords Go.Proofs.YtfcodmdckcihmaaDoorW.PrintLast Go.Proofs.YtfcodmdckcihmaaDoorW.PrintMore
set_option linter.unusedVariables false
set_option linter.unusedSimpArgs false
set_option linter.unnecessarySimpa false
theorem wf_u16o {n : Int} (h : (Lit.int .u16 n).wf = true) : 0 ≤ n ∧ n < 65536 := by
 simp [Lit.wf, IntKind.min, IntKind.max, IntKind.signed, IntKind.bits] at h
 omega
theorem pure_TreeOther : ∀ (y0 : Int) (y1 : (List SLeaf)) (y2 : Int) (y3 : SLeaf), (Lit.int .i64 y0).wf = true → (y1.length ≤ 140737488355328 ∧ ∀ q0 ∈ y1, wfLeaf q0) → (Lit.int .u16 y2).wf = true → wfLeaf y3 → law15_TreeOther.f y0 y1 y2 y3.f0 y3.f1 y3.f2 y3.f3.f0 y3.f3.f1 = some true := fun _ _ _ _ _ hl h2 h3 => by
 unfold law15_TreeOther.f
 rw [if_pos ⟨⟨wf_u16o h2, by omega⟩, fun x hx => ⟨wf_u64 (hl.2 x hx).2.2.2.1, wf_u64 (hl.2 x hx).2.2.2.2⟩, wf_u64 h3.2.2.2.1, wf_u64 h3.2.2.2.2⟩]
end Go.Proofs.YtfcodmdckcihmaaDoor.P
namespace Go.Proofs.YtfcodmdckcihmaaDoor.treeOther
open Go.Proofs.YtfcodmdckcihmaaDoor.P Go.ChangeShapes Go.WideShapes Go.ChangeAt Go.RowKit
open Go.ChangeMaps (open_string shut_string)
open Go.Proofs.YtfcodmdckcihmaaDoorW.PrintWords Go.Proofs.YtfcodmdckcihmaaDoorW.PrintLast Go.Proofs.YtfcodmdckcihmaaDoorW.PrintMore
set_option linter.unusedVariables false
set_option linter.unusedSimpArgs false
theorem own : ownKnob Tryd.prog.godebug = none := by kernel_rfl
theorem laidOut : laidOutB Tryd.prog = true := by kernel_rfl
set_option maxRecDepth 100000 in
theorem lifted (os : Os) (started : os.Started) (H : Type) (enc : TypeId × Value → H) :
    ReturnsInHanded {} Tryd.checked os 5 .any (fun w args => (Rows.treeOtherSpec.pre enc Tryd.prog Tryd.f5 [] false w args ∧ laidMetH Tryd.prog Rows.treeOtherRow.laid w) ∧ sizedMet enc Tryd.prog Tryd.f5 (OpenSpec.ofChange Rows.treeOtherSpec) false w args)
      (Rows.treeOtherSpec.post enc Tryd.prog Tryd.f5 false true false false) := by
  refine returnsInHanded_of_change_and (C := Tryd.checked) (X := fun w _ => laidMetH Tryd.prog Rows.treeOtherRow.laid w) (fun _ _ _ hh h => h.of_heap hh) own started (by kernel_rfl) Tryd.func5
    (ChangeSpec.witness_at (enc := enc) (C := Tryd.checked) (os := os) (X := fun w _ => laidMetH Tryd.prog Rows.treeOtherRow.laid w) false (P.laidWorldT os) #[.int .i64 0, .slice none 0 0, .int .u16 0, .agg #[.bool false, .string ByteArray.empty, .string ByteArray.empty, .int .u64 0, .int .u64 0]] 8 rfl (by kernel_rfl) (by kernel_rfl) (by kernel_rfl) (by kernel_rfl) (by kernel_rfl) (P.laidWorldT_met os _)) ?_
  intro W base args ds gs before hval0 hW _ hsz0 hL _
  have hval : ∀ (j : Nat) t v, Tryd.f5.params[j]? = some t → args[j]? = some v → Value.okWide Tryd.prog W .any base t v := hval0
  have hW' := hW
  obtain ⟨p, q, hA0, hV, rfl, hfz, hnd⟩ := hW
  have hA : DataW.TrodAll enc Tryd.prog W 0 (fun _ => true) true Tryd.f5.params.toList args.toList ds p := hA0
  rw [Tryd.params5] at hA hval
  obtain ⟨v0, vs0, d0, ds0, p0, q0, hargs, rfl, rfl, h0, r0⟩ := trodAll_cons hA
  obtain ⟨v1, vs1, d1, ds1, p1, q1, rfl, rfl, rfl, h1, r1⟩ := trodAll_cons r0
  obtain ⟨v2, vs2, d2, ds2, p2, q2, rfl, rfl, rfl, h2, r2⟩ := trodAll_cons r1
  obtain ⟨v3, vs3, d3, ds3, p3, q3, rfl, rfl, rfl, h3, r3⟩ := trodAll_cons r2
  obtain ⟨rfl, rfl, rfl⟩ := trodAll_nil r3
  obtain rfl : args = #[v0, v1, v2, v3] := by cases args; simp_all
  obtain ⟨rfl, rfl⟩ := trodVars_none hV
  have hz0 : Sized Tryd.prog 3 d0 := Sized.each hsz0 (j := 0) rfl rfl
  have hz1 : Sized Tryd.prog 22 d1 := Sized.each hsz0 (j := 1) rfl rfl
  have hz2 : Sized Tryd.prog 50 d2 := Sized.each hsz0 (j := 2) rfl rfl
  have hz3 : Sized Tryd.prog 36 d3 := Sized.each hsz0 (j := 3) rfl rfl
  have k0 := h0
  have lt0 : ∀ x ∈ p0, x.block < W.heap.size := by obtain ⟨m, hm⟩ := k0; exact DataW.trod_lt m _ _ _ hm
  obtain ⟨y0, rfl, rfl, rfl, w0⟩ := open_int Tryd.underlying3 (hval 0 3 v0 rfl rfl) h0
  have k1 := h1
  have lt1 : ∀ x ∈ p1, x.block < W.heap.size := by obtain ⟨m, hm⟩ := k1; exact DataW.trod_lt m _ _ _ hm
  obtain ⟨a1, len1, cap1, rfl⟩ := okWide_slice Tryd.underlying22 (hval 1 22 v1 rfl rfl)
  obtain ⟨y1, hk1, w1⟩ := (Rd.slice Tryd.underlying22 (by kernel_rfl) (of_decide_eq_true (by kernel_rfl)) rdLeaf).cell rfl h1 hz1
  obtain ⟨A1, c1, e1, l1, g1⟩ := hk1
  rw [List.cons.injEq] at e1
  obtain ⟨e1, -⟩ := e1
  injection e1 with ea1 el1 ec1
  subst ea1 el1 ec1
  have k2 := h2
  have lt2 : ∀ x ∈ p2, x.block < W.heap.size := by obtain ⟨m, hm⟩ := k2; exact DataW.trod_lt m _ _ _ hm
  obtain ⟨y2, rfl, rfl, rfl, w2⟩ := open_int Tryd.underlying50 (hval 2 50 v2 rfl rfl) h2
  have k3 := h3
  have lt3 : ∀ x ∈ p3, x.block < W.heap.size := by obtain ⟨m, hm⟩ := k3; exact DataW.trod_lt m _ _ _ hm
  obtain ⟨y3, cs3, rfl, hk3, w3⟩ := rdLeaf.agg Tryd.underlying36 (hval 3 36 v3 rfl rfl) h3 hz3
  obtain ⟨cl3, rfl⟩ : ∃ l : List Value, cs3 = l.toArray := ⟨cs3.toList, by simp⟩
  simp only [List.toList_toArray] at hk3
  obtain rfl := kLeaf_open hk3
  clear hA0 hval0 hsz0
  have h := pure_TreeOther y0 y1 y2 y3 w0 w1 w2 w3
  refine (law15_TreeOther.calls y0 _ _ y1 y2 y3.f0 y3.f1 y3.f2 y3.f3.f0 y3.f3.f1 true W (P.laidT_of_met hL) g1 l1 h).mono fun e W' ⟨he, bel0⟩ => ?_
  have bel := bel0
  subst he
  exact ⟨_, rfl, _, _, _, [], _, [], hW', trodAll_mk1 (shut_bool Tryd.underlying4 _), (trodAll_cons_mk (Below.trod laidOut (by kernel_rfl) (of_decide_eq_true (by kernel_rfl)) k0 bel lt0) (trodAll_cons_mk (Below.trod laidOut (by kernel_rfl) (of_decide_eq_true (by kernel_rfl)) k1 bel lt1) (trodAll_cons_mk (Below.trod laidOut (by kernel_rfl) (of_decide_eq_true (by kernel_rfl)) k2 bel lt2) (trodAll_cons_mk (Below.trod laidOut (by kernel_rfl) (of_decide_eq_true (by kernel_rfl)) k3 bel lt3) trodAll_mk0)))), rfl, bel.frame _, fun h => by cases h⟩
theorem over : Rows.treeOtherRow.holds Tryd.pinned (OpenSpec.ofChange Rows.treeOtherSpec) :=
  OpenClaim.holds_of_wide 5 Tryd.f5 rfl rfl rfl rfl rfl rfl rfl ⟨rfl, rfl, rfl, rfl, rfl⟩ rfl rfl rfl rfl rfl (by kernel_rfl) Tryd.func5 (by kernel_rfl)
    (of_decide_eq_true (by kernel_rfl)) (by unfold Func.isWrapper; first | (rw [if_pos (by decide +kernel)]; kernel_rfl) | (rw [if_neg (by decide +kernel)]; exact ⟨rfl, rfl⟩))
    (fun os started H enc _ => lifted os started H enc)
set_option maxRecDepth 100000 in
theorem proved : Rows.TreeOtherCardSaid :=
  Claim7.holds_tied_plain_at .later [] [.data, .data, .pinned] true (true, "4f2cffd12862c0dd414eb8a94792080809aa0e0cec70df79135b296e27b5c26d") false
    over (fun _ h => by cases h) (by kernel_rfl) (fun _ h => by cases h) treeOther_row_tie rfl ⟨rfl, rfl⟩ (by kernel_rfl) rfl
    (fun f fn hf hfn => by
      obtain rfl : f = 5 := Option.some.inj ((show Tryd.prog.funcNamed "paymaster/paymasterlaw15.TreeOther" = some 5 by kernel_rfl).symm.trans hf) |>.symm
      obtain rfl : fn = Tryd.f5 := (Option.some.inj (Tryd.func5.symm.trans hfn)).symm
      exact ⟨by kernel_rfl, fun j t ht => by
        rw [Tryd.params5] at ht
        have h3 : t ∈ [3, 22, 50, 36] := by
          have := List.mem_of_getElem? (l := [3, 22, 50, 36]) (i := j) (a := t) (by simpa using ht)
          exact this
        simp only [List.mem_cons, List.not_mem_nil, or_false] at h3
        rcases h3 with rfl | rfl | rfl | rfl
        · exact (show Tryd.prog.wantsStandIn 3 = false by kernel_rfl)
        · exact (show Tryd.prog.wantsStandIn 22 = false by kernel_rfl)
        · exact (show Tryd.prog.wantsStandIn 50 = false by kernel_rfl)
        · exact (show Tryd.prog.wantsStandIn 36 = false by kernel_rfl)
      ⟩)
    (by kernel_rfl)
#print axioms proved
end Go.Proofs.YtfcodmdckcihmaaDoor.treeOther
namespace Go.Proofs.YtfcodmdckcihmaaDoor
/-- The row, under a short name, for the claim. -/
theorem treeOther_holds : Rows.TreeOtherCardSaid := treeOther.proved
end Go.Proofs.YtfcodmdckcihmaaDoor
