/- PROVED HERE: the Go function paymasterlaw15.TreeBack returns true for every input that the given statement speaks of, and each argument reads behind the call as it read before. Conditions: none beyond the given statement's own (the laid table of constants, tied by the card). -/
-- Several texts of this workplace as one.
import Derived.Test.YtfcodmdckcihmaaDoorZTreeBack3
import Derived.Test.YtfcodmdckcihmaaDoorProg
import Derived.Deep.OwnRows
import Derived.Laws.Rows
import Derived.Test.YtfcodmdckcihmaaDoorRows
import Derived.Test.YtfcodmdckcihmaaDoorCards
import Derived.Test.YtfcodmdckcihmaaDoorTie
namespace Go.Proofs.YtfcodmdckcihmaaDoor.P
open Go.RowKit Go.Proofs.YtfcodmdckcihmaaDoorW.PrintWords Go.Proofs.YtfcodmdckcihmaaDoorW.PrintLast Go.Proofs.YtfcodmdckcihmaaDoorW.PrintMore
set_option linter.unusedVariables false
set_option linter.unusedSimpArgs false
set_option linter.unnecessarySimpa false
attribute [local go_sem] sel_true
def SetPost (base a gl cl : Nat) (VV : Value) (gs : List RowG) (wd : Int) (ls : List SLeaf) (p : Nat) (x : SLeaf) (w : World) (e : Ending) (w' : World) : Prop :=
  e = .returned (.int .i64 (setI wd ls p x)) ∧ TreeOwn base w' a (treeT wd (setL wd ls p x)) gl cl VV gs ∧ Tch (parts gl gs) w w'
theorem SetPost.err {base a gl cl : Nat} {VV : Value} {gs : List RowG} {wd : Int} {ls : List SLeaf} {p : Nat} {x : SLeaf} {w w' : World} {e : Int} (hI : setI wd ls p x = e) (h0 : e ≠ 0) (hT : TreeOwn base w a (treeT wd ls) gl cl VV gs) (hB : Below w.heap.size w w') : SetPost base a gl cl VV gs wd ls p x w (.returned (.int .i64 e)) w' :=
  ⟨by rw [hI], by unfold setL; rw [if_neg (by rw [hI]; exact h0)]; exact hT.keep hB, .of hB⟩
theorem leafNode_k {wd : Int} {x : SLeaf} (hw : 1 ≤ wd ∧ wd ≤ 32) (hm : mayLeafI x = true) (hx : OkL x) : NodeK wd (leafNodeI wd x) := by
  refine ⟨?_, leafNodeI_ok wd x hx.ub⟩
  unfold leafNodeI
  rw [if_pos ⟨⟨by omega, by omega⟩, hm⟩]
  have e : ((dgI wd (leafTextI x)).size : Int) = wd := by rw [dgI_size _ _ (by omega) (by omega)]; omega
  simp only [nodeOf, e]
  simp
  omega
def waysL (wd : Int) (ls : List SLeaf) (p : Nat) (x : SLeaf) (n : Nat) : List SNode := (List.range n).map (wayV wd (ls.map (leafNodeI wd)) p (leafNodeI wd x))
theorem waysL_succ (wd : Int) (ls : List SLeaf) (p : Nat) (x : SLeaf) (n : Nat) : waysL wd ls p x (n + 1) = waysL wd ls p x n ++ [wayV wd (ls.map (leafNodeI wd)) p (leafNodeI wd x) n] := by
  unfold waysL; rw [List.range_succ, List.map_append]; rfl
theorem waysL_len (wd : Int) (ls : List SLeaf) (p : Nat) (x : SLeaf) (n : Nat) : (waysL wd ls p x n).length = n := by unfold waysL; simp
theorem treeR_of {base a gl cl gv cv K : Nat} {gs : List RowG} {wd : Int} {ls : List SLeaf} {V : World} (h : TreeOwn base V a (treeT wd ls) gl cl (.slice (some ⟨gv, 0, none⟩) (K + 1) cv) gs) (hr : (treeT wd ls).rows.length = K + 1) (hk : NewOk wd ls) (hn : ls.length ≤ 1024) : TreeR a (treeT wd ls) V := h.readT hk hn
structure StL (base a gl cl : Nat) (VV : Value) (gs : List RowG) (wd : Int) (ls : List SLeaf) (p : Nat) (x : SLeaf) (w : World) (i : Nat) (way : Value) (V : World) : Prop where
  b : Below w.heap.size w V
  t : TreeOwn base V a (treeT wd ls) gl cl VV gs
  o : V.ownsRow (w.heap.size + 1) 46 3 way (i + 1) (cellsN (waysL wd ls p x (i + 1)))
  k : ∀ j, j ≤ i → NodeK wd (wayV wd (ls.map (leafNodeI wd)) p (leafNodeI wd x) j)
  l : V.heap[w.heap.size]? = some (.cells (acL x) 36 (0, 0))
theorem StL.below {base a gl cl : Nat} {VV : Value} {gs : List RowG} {wd : Int} {ls : List SLeaf} {p : Nat} {x : SLeaf} {w : World} {i : Nat} {way : Value} {V V' : World} (h : StL base a gl cl VV gs wd ls p x w i way V) (hb : Below V.heap.size V V') : StL base a gl cl VV gs wd ls p x w i way V' :=
  ⟨h.b.trans (hb.mono h.b.size), h.t.keep hb, ownB h.o hb, h.k, blk_below h.l hb⟩
structure St12 (V W : World) (wn sn : SNode) (l : Nat → Bool) (γ δ : Nat) : Prop where
  b : Below V.heap.size V W
  h12 : l 12 = true → V.heap.size ≤ γ ∧ W.heap[γ]? = some (.cells (if l 14 = true then nodeA wn else nodeA nodeZ) 46 (0, 0))
  h13 : l 13 = true → V.heap.size ≤ δ ∧ W.heap[δ]? = some (.cells (if l 15 = true then nodeA sn else nodeA nodeZ) 46 (0, 0))
  ne : l 12 = true → l 13 = true → γ ≠ δ
  o14 : l 14 = true → l 12 = true
  o15 : l 15 = true → l 13 = true
section
variable {V W : World} {wn sn : SNode} {l : Nat → Bool} {γ δ : Nat}
theorem St12.start (V : World) (wn sn : SNode) : St12 V V.drew wn sn (fun _ => false) 0 0 := ⟨below_drew (Below.refl _ _), (fun h => by cases h), (fun h => by cases h), (fun h => by cases h), (fun h => by cases h), (fun h => by cases h)⟩
theorem St12.same (h : St12 V W wn sn l γ δ) (i : Nat) (hi : i < 12) : St12 V W wn sn (upd l i) γ δ := by
  have e12 : upd l i 12 = l 12 := upd_no (by omega)
  have e13 : upd l i 13 = l 13 := upd_no (by omega)
  have e14 : upd l i 14 = l 14 := upd_no (by omega)
  have e15 : upd l i 15 = l 15 := upd_no (by omega)
  exact ⟨h.b, by rw [e12, e14]; exact h.h12, by rw [e13, e15]; exact h.h13, by rw [e12, e13]; exact h.ne, by rw [e14, e12]; exact h.o14, by rw [e15, e13]; exact h.o15⟩
theorem St12.no12 (h : St12 V W wn sn l γ δ) (hl : l 12 = false) : l 14 = false := by
  cases hx : l 14 with
  | false => rfl
  | true => rw [h.o14 hx] at hl; cases hl
theorem St12.no13 (h : St12 V W wn sn l γ δ) (hl : l 13 = false) : l 15 = false := by
  cases hx : l 15 with
  | false => rfl
  | true => rw [h.o15 hx] at hl; cases hl
theorem St12.made12 (h : St12 V W wn sn l γ δ) (hl : l 12 = false) : St12 V (W.alloc (.cells #[.string ⟨#[]⟩, .int .u64 0, .int .u64 0] 46)) wn sn (upd l 12) W.heap.size δ := by
  have h14 : upd l 12 14 = false := h.no12 hl
  refine ⟨below_alloc h.b _, fun _ => ⟨h.b.size, ?_⟩, fun hx => ⟨(h.h13 hx).1, blk_alloc (h.h13 hx).2 _⟩, fun _ hx => ?_, (fun hx => by rw [h14] at hx; cases hx), h.o15⟩
  · rw [if_neg (by rw [h14]; decide)]; exact blk_new W _
  · have := blk_lt (h.h13 hx).2; omega
theorem St12.made13 (h : St12 V W wn sn l γ δ) (hl : l 13 = false) : St12 V (W.alloc (.cells #[.string ⟨#[]⟩, .int .u64 0, .int .u64 0] 46)) wn sn (upd l 13) γ W.heap.size := by
  have h15 : upd l 13 15 = false := h.no13 hl
  refine ⟨below_alloc h.b _, fun hx => ⟨(h.h12 hx).1, blk_alloc (h.h12 hx).2 _⟩, fun _ => ⟨h.b.size, ?_⟩, fun hx _ => ?_, h.o14, (fun hx => by rw [h15] at hx; cases hx)⟩
  · rw [if_neg (by rw [h15]; decide)]; exact blk_new W _
  · have := blk_lt (h.h12 hx).2; omega
theorem St12.stored14 (h : St12 V W wn sn l γ δ) (hl : l 14 = false) (h12 : l 12 = true) : St12 V (((W.setCell ⟨γ, 0, none⟩ (.string wn.f0)).setCell ⟨γ, 1, none⟩ (.int .u64 wn.f1.f0)).setCell ⟨γ, 2, none⟩ (.int .u64 wn.f1.f1)) wn sn (upd l 14) γ δ := by
  have hz := h.h12 h12
  rw [if_neg (by rw [hl]; decide)] at hz
  refine ⟨below_set (below_set (below_set h.b hz.1) hz.1) hz.1, fun _ => ⟨hz.1, ?_⟩, fun hx => ⟨(h.h13 hx).1, ?_⟩, h.ne, fun _ => h12, h.o15⟩
  · rw [if_pos (show upd l 14 14 = true from rfl)]; exact blk_put (blk_put (blk_put hz.2 0 _ rfl) 1 _ rfl) 2 _ rfl
  · have hne : δ ≠ γ := fun e => h.ne h12 hx e.symm
    exact blk_far (blk_far (blk_far (h.h13 hx).2 (by exact hne) _) (by exact hne) _) (by exact hne) _
theorem St12.stored15 (h : St12 V W wn sn l γ δ) (hl : l 15 = false) (h13 : l 13 = true) : St12 V (((W.setCell ⟨δ, 0, none⟩ (.string sn.f0)).setCell ⟨δ, 1, none⟩ (.int .u64 sn.f1.f0)).setCell ⟨δ, 2, none⟩ (.int .u64 sn.f1.f1)) wn sn (upd l 15) γ δ := by
  have hz := h.h13 h13
  rw [if_neg (by rw [hl]; decide)] at hz
  refine ⟨below_set (below_set (below_set h.b hz.1) hz.1) hz.1, fun hx => ⟨(h.h12 hx).1, ?_⟩, fun _ => ⟨hz.1, ?_⟩, h.ne, h.o14, fun _ => h13⟩
  · have hne : γ ≠ δ := fun e => h.ne hx h13 e
    exact blk_far (blk_far (blk_far (h.h12 hx).2 (by exact hne) _) (by exact hne) _) (by exact hne) _
  · rw [if_pos (show upd l 15 15 = true from rfl)]; exact blk_put (blk_put (blk_put hz.2 0 _ rfl) 1 _ rfl) 2 _ rfl
theorem St12.done (h : St12 V W wn sn l γ δ) (h12 : l 12 = true) (h13 : l 13 = true) (h14 : l 14 = true) (h15 : l 15 = true) : (V.heap.size ≤ γ ∧ W.heap[γ]? = some (.cells (nodeA wn) 46 (0, 0))) ∧ (V.heap.size ≤ δ ∧ W.heap[δ]? = some (.cells (nodeA sn) 46 (0, 0))) ∧ γ ≠ δ := by
  have a := h.h12 h12
  have b := h.h13 h13
  rw [if_pos h14] at a
  rw [if_pos h15] at b
  exact ⟨a, b, h.ne h12 h13⟩
end
theorem StL.next {base a gl cl : Nat} {VV : Value} {gs : List RowG} {wd : Int} {ls : List SLeaf} {p : Nat} {x : SLeaf} {w : World} {i : Nat} {way v' : Value} {V V' : World} {jn : SNode} (h : StL base a gl cl VV gs wd ls p x w i way V) (hT : TreeOwn base w a (treeT wd ls) gl cl VV gs) (hgr : V.grownBy V' way.ownBlock)
    (hown : V'.ownsRow (w.heap.size + 1) 46 3 v' (i + 1 + 1) (cellsN (waysL wd ls p x (i + 1)) ++ [.string jn.f0, .int .u64 jn.f1.f0, .int .u64 jn.f1.f1])) (hj : jn = wayV wd (ls.map (leafNodeI wd)) p (leafNodeI wd x) (i + 1)) (hk : NodeK wd jn) : StL base a gl cl VV gs wd ls p x w (i + 1) v' V' := by
  have hb := below_grown h.b hgr (fun r e => by have := (h.o.lt r e).1; omega)
  refine ⟨hb, hT.keep hb, ?_, fun j hj2 => ?_, (hgr.block _ (blk_lt h.l) (fun e => by have := (h.o.lt _ e.symm).1; omega)).trans h.l⟩
  · rw [waysL_succ, cellsN_append, ← hj]; exact hown
  · rcases Nat.lt_or_ge i j with h1 | h1
    · obtain rfl : j = i + 1 := by omega
      rw [← hj]; exact hk
    · exact h.k j h1
theorem ownBlk {w : World} {base g n cap size : Nat} {e : TypeId} {xs : List Value} (h : w.ownsRow base e size (.slice (some ⟨g, 0, none⟩) n cap) n xs) : ∃ cs, w.heap[g]? = some (.cells cs e (0, 0)) ∧ n * size ≤ cs.size := by
  rcases h.2 with ⟨h1, _⟩ | ⟨g', cap', cur, h1, _, h2, h3, _, h5, _⟩
  · cases h1
  · cases h1
    exact ⟨cur, h2, by rw [h5]; exact Nat.mul_le_mul_right _ h3⟩
theorem StL.zero {base a gl cl K : Nat} {VV : Value} {gs : List RowG} {wd : Int} {ls : List SLeaf} {p : Nat} {x : SLeaf} {w : World} {way : Value} {V : World} (h : StL base a gl cl VV gs wd ls p x w K way V) (hT : TreeOwn base w a (treeT wd ls) gl cl VV gs) (hK : ls.length = 2 ^ K) (hk : NewOk wd ls) (hp : p < ls.length) (hx : OkL x) (hm : mayLeafI x = true) : setI wd ls p x = 0 := by
  have hl : (ls.map (leafNodeI wd)).length = 2 ^ K := by rw [List.length_map]; exact hK
  have h1 := upV_set wd hl (p := p) (by omega) (leafNodeI wd x) K (Nat.le_refl _)
  have h2 := upV_tot wd (K := K) (l := (ls.map (leafNodeI wd)).set p (leafNodeI wd x)) (by rw [List.length_set]; exact hl) K (Nat.le_refl _)
  have h3 : (upV wd K (ls.map (leafNodeI wd))).length = 1 := by rw [upV_len2 hl K (Nat.le_refl _), Nat.sub_self]
  rw [Nat.div_eq_of_lt (by omega)] at h1
  have h4 := valU_lt (h.k K (Nat.le_refl _)).u
  rw [h1] at h2
  match e : upV wd K (ls.map (leafNodeI wd)), h3 with
  | [y], _ =>
    rw [e, List.set_cons_zero] at h2
    unfold setI
    rw [if_neg (show ¬ ls.length ≤ p by omega), if_neg (by rw [hm]; decide), List.map_set, ← h2, totL, totL, if_pos (by omega)]
def rowsM (wd : Int) (ls : List SLeaf) (p : Nat) (x : SLeaf) (j : Nat) : List (List SNode) := (treeT wd (ls.set p x)).rows.take j ++ (treeT wd ls).rows.drop j
structure StP (base a gl cl : Nat) (VV : Value) (gs : List RowG) (wd : Int) (ls : List SLeaf) (p : Nat) (x : SLeaf) (w : World) (K : Nat) (way : Value) (j : Nat) (V : World) : Prop where
  c : Tch (parts gl gs) w V
  t : TreeOwn base V a ⟨wd, ls.set p x, rowsM wd ls p x j⟩ gl cl VV gs
  o : V.ownsRow (w.heap.size + 1) 46 3 way (K + 1) (cellsN (waysL wd ls p x (K + 1)))
section
variable {base a gl cl : Nat} {VV : Value} {gs : List RowG} {wd : Int} {ls : List SLeaf} {p : Nat} {x : SLeaf} {w : World} {K : Nat} {way : Value} {j : Nat} {V V' : World}
theorem StP.below (h : StP base a gl cl VV gs wd ls p x w K way j V) (hb : Below V.heap.size V V') : StP base a gl cl VV gs wd ls p x w K way j V' := ⟨h.c.below hb, h.t.keep hb, ownB h.o hb⟩
theorem StP.start (h : StL base a gl cl VV gs wd ls p x w K way V) (hT : TreeOwn base w a (treeT wd ls) gl cl VV gs) (hp : p < ls.length) :
    StP base a gl cl VV gs wd ls p x w K way 0 (((((V.setCell ⟨gl, p * 5, none⟩ (.bool x.f0)).setCell ⟨gl, p * 5 + 1, none⟩ (.string x.f1)).setCell ⟨gl, p * 5 + 2, none⟩ (.string x.f2)).setCell ⟨gl, p * 5 + 3, none⟩ (.int .u64 x.f3.f0)).setCell ⟨gl, p * 5 + 4, none⟩ (.int .u64 x.f3.f1)).drew := by
  have hm : gl ∈ parts gl gs := List.mem_cons_self ..
  have hg := (hT.lt gl hm).2
  have hk : ∀ k, way.ownBlock = some k → k ≠ gl := fun k e => by have := (h.o.lt k e).1; omega
  refine StP.below ⟨(((((Tch.of h.b).set _ (.inl hm)).set _ (.inl hm)).set _ (.inl hm)).set _ (.inl hm)).set _ (.inl hm), h.t.putLeaf x hp, ?_⟩ (below_drew (Below.refl _ _))
  exact ownAny_keep h.o (fun g e => (Below.heap_setCell _ _ _ _ (hk g e)).trans ((Below.heap_setCell _ _ _ _ (hk g e)).trans ((Below.heap_setCell _ _ _ _ (hk g e)).trans ((Below.heap_setCell _ _ _ _ (hk g e)).trans (Below.heap_setCell _ _ _ _ (hk g e))))))
theorem rowsM_get (hn : (treeT wd ls).rows.length = K + 1) (hn2 : (treeT wd (ls.set p x)).rows.length = K + 1) (hj : j < K + 1) : (rowsM wd ls p x j)[j]? = (treeT wd ls).rows[j]? := by
  unfold rowsM
  rw [List.getElem?_append_right (by rw [List.length_take]; omega), List.length_take, List.getElem?_drop]
  congr 1
  omega
theorem rowsM_len (hn : (treeT wd ls).rows.length = K + 1) (hn2 : (treeT wd (ls.set p x)).rows.length = K + 1) (hj : j ≤ K + 1) : (rowsM wd ls p x j).length = K + 1 := by
  unfold rowsM
  rw [List.length_append, List.length_take, List.length_drop]
  omega
theorem rowsM_set {r : List SNode} (hn : (treeT wd ls).rows.length = K + 1) (hn2 : (treeT wd (ls.set p x)).rows.length = K + 1) (hj : j < K + 1) (hr : (treeT wd (ls.set p x)).rows[j]? = some r) : (rowsM wd ls p x j).set j r = rowsM wd ls p x (j + 1) := by
  unfold rowsM
  have e : ((treeT wd (ls.set p x)).rows.take j).length = j := by rw [List.length_take]; omega
  have hd : (treeT wd ls).rows.drop j = (treeT wd ls).rows[j]'(by omega) :: (treeT wd ls).rows.drop (j + 1) := List.drop_eq_getElem_cons (by omega)
  rw [List.set_append_right _ _ (by omega), e, Nat.sub_self, hd, List.set_cons_zero]
  have ht : (treeT wd (ls.set p x)).rows.take (j + 1) = (treeT wd (ls.set p x)).rows.take j ++ [r] := by
    rw [List.take_add_one, hr]; rfl
  rw [ht, List.append_assoc]; rfl
theorem StP.put {pr : RowG} {q : Nat} {r : List SNode} {n : SNode} (h : StP base a gl cl VV gs wd ls p x w K way j V) (hT : TreeOwn base w a (treeT wd ls) gl cl VV gs) (hn : (treeT wd ls).rows.length = K + 1) (hn2 : (treeT wd (ls.set p x)).rows.length = K + 1) (hj : j < K + 1) (hp : gs[j]? = some pr) (hr : (rowsM wd ls p x j)[j]? = some r) (hq : q < r.length) (hs : (treeT wd (ls.set p x)).rows[j]? = some (r.set q n)) :
    StP base a gl cl VV gs wd ls p x w K way (j + 1) (((V.setCell ⟨pr.1, q * 3, none⟩ (.string n.f0)).setCell ⟨pr.1, q * 3 + 1, none⟩ (.int .u64 n.f1.f0)).setCell ⟨pr.1, q * 3 + 2, none⟩ (.int .u64 n.f1.f1)) := by
  have hm : pr.1 ∈ parts gl gs := List.mem_cons_of_mem _ (List.mem_map.2 ⟨pr, List.mem_of_getElem? hp, rfl⟩)
  have hg := (hT.lt pr.1 hm).2
  have hk : ∀ k, way.ownBlock = some k → k ≠ pr.1 := fun k e => by have := (h.o.lt k e).1; omega
  have ht := h.t.putNode n hp hr hq
  rw [rowsM_set hn hn2 hj hs] at ht
  refine ⟨((h.c.set _ (.inl hm)).set _ (.inl hm)).set _ (.inl hm), ht, ?_⟩
  exact ownAny_keep h.o (fun g e => (Below.heap_setCell _ _ _ _ (hk g e)).trans ((Below.heap_setCell _ _ _ _ (hk g e)).trans (Below.heap_setCell _ _ _ _ (hk g e))))
theorem StP.done (h : StP base a gl cl VV gs wd ls p x w K way (K + 1) V) (hn : (treeT wd ls).rows.length = K + 1) (hn2 : (treeT wd (ls.set p x)).rows.length = K + 1) (hz : setI wd ls p x = 0) : SetPost base a gl cl VV gs wd ls p x w (.returned (.int .i64 0)) V := by
  refine ⟨by rw [hz], ?_, h.c⟩
  have e : setL wd ls p x = ls.set p x := by unfold setL; rw [if_pos hz]
  have e2 : rowsM wd ls p x (K + 1) = (treeT wd (ls.set p x)).rows := by
    unfold rowsM; rw [List.take_of_length_le (by omega), List.drop_of_length_le (by omega), List.append_nil]
  have ht := h.t
  rw [e2] at ht
  rw [e]
  exact ht
end
set_option maxRecDepth 100000 in
set_option maxHeartbeats 4000000 in
theorem tSet.calls (base ta gl cl : Nat) (VV : Value) (gs : List RowG) (wd : Int) (ls : List SLeaf) (p : Nat) (x : SLeaf) (w : World) (hK : LaidT w) (hT : TreeOwn base w ta (treeT wd ls) gl cl VV gs) (hk : NewOk wd ls) (hn : ls.length ≤ 1024) (hx : OkL x) (hp : p < 18446744073709551616) :
    Calls Tryd.prog 27 #[ptrT ta, .int .u64 (p : Int), leafV x] w (SetPost base ta gl cl VV gs wd ls p x w) := by
  have HK := aM' hK
  have HT := aM' hT
  have HKK := aM' hk
  have HN := aM' hn
  have HX := aM' hx
  have HP := aM' hp
  obtain ⟨W1, hW1⟩ : ∃ V, V = w.alloc (.cells (acL x) 36) := ⟨_, rfl⟩
  have hb1 : Below w.heap.size w W1 := by rw [hW1]; exact below_alloc (Below.refl _ _) _
  have hx1 : W1.heap[w.heap.size]? = some (.cells (acL x) 36 (0, 0)) := by rw [hW1]; exact blk_new _ _
  have hT1 := hT.keep hb1
  have q := aM' (tNone.calls ta _ W1 (hT1.readT hk hn))
  have c1 : W1.cell? ⟨ta, 1, none⟩ = some (.slice (some ⟨gl, 0, none⟩) ls.length cl) := blk_cell hT1.ht 1
  have x0 := blk_cell hx1 0
  have x1 := blk_cell hx1 1
  have x2 := blk_cell hx1 2
  have x3 := blk_cell hx1 3
  have x4 := blk_cell hx1 4
  simp at x0 x1 x2 x3 x4
  have hw : IntKind.u64.wrap ((ls.length : Nat) : Int) = (ls.length : Int) := wrapu64_id (by omega) (by omega)
  have HB1 := aM' hb1
  have HX1 := aM' hx1
  clear hK hT hk hn hx hp hb1 hx1 hT1
  obtain ⟨i0, hi, hz0, hz1, hz2⟩ := info_parts nodeInfo
  have hu := Tryd.underlying105
  obtain ⟨K, hK⟩ : ∃ K, K = ls.length.log2 := ⟨_, rfl⟩
  have hrl : (treeT wd ls).rows.length = K + 1 := by
    have h : (treeT wd ls).rows = levelsV wd ls.length.log2 (ls.map (leafNodeI wd)) := rfl
    rw [h, levelsV_len, hK]
  have hKl : ls.length = 2 ^ K := by rw [hK]; exact HKK.out.p
  obtain ⟨gv, cv, rfl, hcv, -, hgv⟩ := HT.out.levels (by rw [hrl]; omega)
  rw [hrl] at hcv HT
  have HRL := aM' hrl
  have HKL := aM' hKl
  have HCV := aM' hcv
  have HGV := aM' hgv
  have HK10 := aM' (show K ≤ 10 by
    rcases Nat.lt_or_ge 10 K with h1 | h1
    · have h2 := Nat.pow_le_pow_right (n := 2) (by decide) (show 11 ≤ K by omega)
      have := HN.out
      omega
    · exact h1)
  rw [hrl]
  clear hK hrl hKl hcv hgv
  by_cases hlt : p < ls.length
  case neg =>
    have b1 : decide ((ls.length : Int) ≤ (p : Int)) = true := decide_eq_true (by omega)
    have b2 : decide (ls.length ≤ p) = true := decide_eq_true (by omega)
    have HI := aM' (show setI wd ls p x = 2 by unfold setI; rw [if_pos (by omega)])
    clear hlt
    go_enter Tryd.func27, Tryd.ntmps27
    go_wp2_with fail
    rw [← hW1]
    clear hW1
    refine q.out.mono ?_
    rintro e w1 ⟨rfl, rfl⟩
    go_wp2
    go_ret
    exact SetPost.err HI.out (by decide) HT.out HB1.out
  case pos =>
    have b1 : decide ((ls.length : Int) ≤ (p : Int)) = false := decide_eq_false (by omega)
    have b2 : decide (ls.length ≤ p) = false := decide_eq_false (by omega)
    have HLT := aM' hlt
    have HM := aM' (tagMayLeaf_eq x HX.out.id)
    clear hlt
    go_enter Tryd.func27, Tryd.ntmps27
    go_wp2_with fail
    rw [← hW1]
    clear hW1
    refine q.out.mono ?_
    rintro e w1 ⟨rfl, rfl⟩
    go_wp2_with fail
    refine (tag_MayLeaf.calls x.f0 x.f1 x.f2 x.f3.f0 x.f3.f1 (mayLeafI x) _ (HK.out.below HB1.out) HM.out).mono ?_
    rintro e w2 ⟨rfl, hb⟩
    have HB2 := aM' (HB1.out.trans (hb.mono HB1.out.size))
    have HX2 := aM' (blk_below HX1.out hb)
    clear hb b1 b2 c1 x0 x1 x2 x3 x4 hw q HX1
    cases hml : mayLeafI x with
    | false =>
      have HI := aM' (show setI wd ls p x = 130 by unfold setI; rw [if_neg (by have := HLT.out; omega), if_pos hml])
      clear hml
      go_wp2
      go_ret
      exact SetPost.err HI.out (by decide) HT.out HB2.out
    | true =>
      have HML := aM' hml
      clear hml
      obtain ⟨kl, hkl⟩ := (tagLeafNode_ev wd x HX.out.id HX.out.sa).rounds
      have HLN := aM' hkl
      clear hkl
      have HA2 := aM' (show w2.heap[ta]? = some (.cells #[.int .i64 wd, .slice (some ⟨gl, 0, none⟩) ls.length cl, .slice (some ⟨gv, 0, none⟩) (K + 1) cv] 105 (0, 0)) from (HT.out.keep HB2.out).ht)
      obtain ⟨ln, hln⟩ : ∃ n, n = leafNodeI wd x := ⟨_, rfl⟩
      rw [← hln] at HLN
      have HLNE := aM' hln
      clear hln
      go_upto_region 7 with (fail)
      refine wp_forget (fun y => ({ tmps := List.toArray (.pointer (some ⟨ta, 0, none⟩) :: .int .u64 (p : Int) :: leafV x :: y 3 :: y 4 :: .pointer (some ⟨w.heap.size, 0, none⟩) :: .int .i64 0 :: y 7 :: y 8 :: y 9 :: y 10 :: y 11 :: y 12 :: y 13 :: y 14 :: y 15 :: y 16 :: y 17 :: y 18 :: y 19 :: y 20 :: y 21 :: y 22 :: y 23 :: y 24 :: y 25 :: y 26 :: y 27 :: y 28 :: y 29 :: y 30 :: y 31 :: y 32 :: y 33 :: y 34 :: y 35 :: y 36 :: y 37 :: y 38 :: y 39 :: y 40 :: y 41 :: y 42 :: y 43 :: y 44 :: y 45 :: y 46 :: y 47 :: y 48 :: y 49 :: y 50 :: y 51 :: y 52 :: y 53 :: y 54 :: y 55 :: y 56 :: y 57 :: y 58 :: y 59 :: y 60 :: y 61 :: y 62 :: y 63 :: y 64 :: y 65 :: y 66 :: y 67 :: y 68 :: y 69 :: y 70 :: y 71 :: y 72 :: y 73 :: y 74 :: y 75 :: y 76 :: y 77 :: y 78 :: y 79 :: y 80 :: y 81 :: y 82 :: y 83 :: y 84 :: y 85 :: y 86 :: y 87 :: y 88 :: y 89 :: y 90 :: y 91 :: y 92 :: y 93 :: y 94 :: y 95 :: y 96 :: y 97 :: y 98 :: y 99 :: y 100 :: y 101 :: y 102 :: y 103 :: y 104 :: y 105 :: y 106 :: y 107 :: y 108 :: y 109 :: y 110 :: y 111 :: y 112 :: y 113 :: y 114 :: y 115 :: y 116 :: y 117 :: y 118 :: []), defers := [] } : Act)) rfl ?_
      intro y
      refine region_inv (fun l a W => ∃ γ : Nat, a = ({ tmps := #[.pointer (some ⟨ta, 0, none⟩), .int .u64 (p : Int), leafV x, y 3, y 4, .pointer (some ⟨w.heap.size, 0, none⟩), .int .i64 0, sel (l 7) (.slice (some ⟨γ, 0, none⟩) 1 1) (y 7), y 8, y 9, y 10, y 11, y 12, y 13, y 14, y 15, y 16, y 17, y 18, y 19, y 20, y 21, y 22, y 23, y 24, y 25, y 26, y 27, y 28, y 29, y 30, y 31, y 32, sel (l 0) (.pointer (some ⟨ta, 0, none⟩)) (y 33), sel (l 1) (.pointer (some ⟨ta, 0, none⟩)) (y 34), sel (l 2) (.pointer (some ⟨ta, 0, none⟩)) (y 35), sel (l 3) (.int .i64 wd) (y 36), sel (l 4) (.agg #[.bool x.f0, .string x.f1, .string x.f2, .int .u64 x.f3.f0, .int .u64 x.f3.f1]) (y 37), sel (l 5) (.agg #[.string ln.f0, .int .u64 ln.f1.f0, .int .u64 ln.f1.f1]) (y 38), sel (l 6) (.slice (some ⟨γ, 0, none⟩) 1 1) (y 39), y 40, y 41, y 42, y 43, y 44, y 45, y 46, y 47, y 48, y 49, y 50, y 51, y 52, y 53, y 54, y 55, y 56, y 57, y 58, y 59, y 60, y 61, y 62, y 63, y 64, y 65, y 66, y 67, y 68, y 69, y 70, y 71, y 72, y 73, y 74, y 75, y 76, y 77, y 78, y 79, y 80, y 81, y 82, y 83, y 84, y 85, y 86, y 87, y 88, y 89, y 90, y 91, y 92, y 93, y 94, y 95, y 96, y 97, y 98, y 99, y 100, y 101, y 102, y 103, y 104, y 105, y 106, y 107, y 108, y 109, y 110, y 111, y 112, y 113, y 114, y 115, y 116, y 117, y 118], defers := [] } : Act) ∧ (Below w2.heap.size w2 W ∧ (l 6 = true → w2.heap.size ≤ γ ∧ W.heap[γ]? = some (.cells #[.string ln.f0, .int .u64 ln.f1.f0, .int .u64 ln.f1.f1] 46 (0, 0))) ∧ (l 7 = true → l 6 = true))) 8 rfl rfl (by kernel_rfl) ?h0 ?hend ?hstep
      case h0 => exact ⟨0, rfl, below_drew (Below.refl _ _), (fun h => by cases h), (fun h => by cases h)⟩
      case hstep =>
        refine rg_cons (rg_cons (rg_cons (rg_cons (rg_cons (rg_cons (rg_cons (rg_cons (rg_nil) ?s0) ?s1) ?s2) ?s3) ?s4) ?s5) ?s6) ?s7
        case s0 =>
          refine rg_step rfl ?_
          rintro l a W ⟨γ, rfl, hI⟩ hl hd
          clear hd
          refine rg_val (v := .pointer (some ⟨ta, 0, none⟩)) (w' := W) rfl (by go_simp) ?_
          refine ⟨γ, ?_, ?_⟩
          · simp only [Act.put, List.setIfInBounds_toArray, List.set_cons_zero, List.set_cons_succ]; rfl
          · exact hI
        case s1 =>
          refine rg_step rfl ?_
          rintro l a W ⟨γ, rfl, hI⟩ hl hd
          have d0 := hd 0 (by decide)
          clear hd
          refine rg_val (v := .pointer (some ⟨ta, 0, none⟩)) (w' := W) rfl (by go_simp) ?_
          refine ⟨γ, ?_, ?_⟩
          · simp only [Act.put, List.setIfInBounds_toArray, List.set_cons_zero, List.set_cons_succ]; rfl
          · exact hI
        case s2 =>
          refine rg_step rfl ?_
          rintro l a W ⟨γ, rfl, hI⟩ hl hd
          have d1 := hd 1 (by decide)
          clear hd
          refine rg_val (v := .pointer (some ⟨ta, 0, none⟩)) (w' := W) rfl (by go_simp) ?_
          refine ⟨γ, ?_, ?_⟩
          · simp only [Act.put, List.setIfInBounds_toArray, List.set_cons_zero, List.set_cons_succ]; rfl
          · exact hI
        case s3 =>
          refine rg_step rfl ?_
          rintro l a W ⟨γ, rfl, hI⟩ hl hd
          have d2 := hd 2 (by decide)
          clear hd
          have x0 := blk_cell (blk_below HA2.out hI.1) 0
          simp at x0
          refine rg_val (v := .int .i64 wd) (w' := W) rfl (by go_simp) ?_
          refine ⟨γ, ?_, ?_⟩
          · simp only [Act.put, List.setIfInBounds_toArray, List.set_cons_zero, List.set_cons_succ]; rfl
          · exact hI
        case s4 =>
          refine rg_step rfl ?_
          rintro l a W ⟨γ, rfl, hI⟩ hl hd
          clear hd
          have x0 := blk_cell (blk_below HX2.out hI.1) 0
          have x1 := blk_cell (blk_below HX2.out hI.1) 1
          have x2 := blk_cell (blk_below HX2.out hI.1) 2
          have x3 := blk_cell (blk_below HX2.out hI.1) 3
          have x4 := blk_cell (blk_below HX2.out hI.1) 4
          simp at x0 x1 x2 x3 x4
          refine rg_val (v := .agg #[.bool x.f0, .string x.f1, .string x.f2, .int .u64 x.f3.f0, .int .u64 x.f3.f1]) (w' := W) rfl (by go_simp) ?_
          refine ⟨γ, ?_, ?_⟩
          · simp only [Act.put, List.setIfInBounds_toArray, List.set_cons_zero, List.set_cons_succ]; rfl
          · exact hI
        case s5 =>
          refine rg_step rfl ?_
          rintro l a W ⟨γ, rfl, hI⟩ hl hd
          have d3 := hd 3 (by decide)
          have d4 := hd 4 (by decide)
          clear hd
          refine rg_call rfl (by go_simp; exact ⟨rfl, rfl⟩) ?_
          refine (tag_LeafNode.calls kl wd x.f0 x.f1 x.f2 x.f3.f0 x.f3.f1 ln.f0 ln.f1.f0 ln.f1.f1 W (HK.out.below (HB2.out.trans (hI.1.mono HB2.out.size))) HLN.out).mono ?_
          rintro ee W' ⟨rfl, hb⟩
          refine ⟨_, rfl, γ, ?_, ?_⟩
          · simp only [Act.put, List.setIfInBounds_toArray, List.set_cons_zero, List.set_cons_succ]; rfl
          · exact ⟨hI.1.trans (hb.mono hI.1.size), fun h => ⟨(hI.2.1 h).1, blk_below (hI.2.1 h).2 hb⟩, hI.2.2⟩
        case s6 =>
          refine rg_step rfl ?_
          rintro l a W ⟨γ, rfl, hI⟩ hl hd
          have d5 := hd 5 (by decide)
          clear hd
          have h7 : l 7 = false := by
            cases hx : l 7 with
            | false => rfl
            | true => have := hI.2.2 hx; rw [hl] at this; cases this
          have h7' : upd l 6 7 = false := h7
          refine rg_val (v := .slice (some ⟨W.heap.size, 0, none⟩) 1 1) (w' := W.alloc (.cells #[.string ln.f0, .int .u64 ln.f1.f0, .int .u64 ln.f1.f1] 46)) rfl (by go_simp) ?_
          refine ⟨W.heap.size, ?_, ?_⟩
          · simp only [Act.put, List.setIfInBounds_toArray, List.set_cons_zero, List.set_cons_succ, h7, h7']; rfl
          · exact ⟨below_alloc hI.1 _, fun _ => ⟨hI.1.size, blk_new W _⟩, fun _ => rfl⟩
        case s7 =>
          refine rg_step rfl ?_
          rintro l a W ⟨γ, rfl, hI⟩ hl hd
          have d6 := hd 6 (by decide)
          clear hd
          refine rg_val (v := .slice (some ⟨γ, 0, none⟩) 1 1) (w' := W) rfl (by go_simp) ?_
          refine ⟨γ, ?_, ?_⟩
          · simp only [Act.put, List.setIfInBounds_toArray, List.set_cons_zero, List.set_cons_succ]; rfl
          · exact ⟨hI.1, hI.2.1, fun _ => d6⟩
      case hend =>
        rintro l a W ⟨γ, rfl, hI⟩ hall
        have e0 := hall 0 (by decide)
        have e1 := hall 1 (by decide)
        have e2 := hall 2 (by decide)
        have e3 := hall 3 (by decide)
        have e4 := hall 4 (by decide)
        have e5 := hall 5 (by decide)
        have e6 := hall 6 (by decide)
        have e7 := hall 7 (by decide)
        clear hall
        have hn := hI.2.1 e6
        simp only [e0, e1, e2, e3, e4, e5, e6, e7, sel_true]
        clear e0 e1 e2 e3 e4 e5 e6 e7
        obtain ⟨hB, -, -⟩ := hI
        have hb4 : Below w.heap.size w W := HB2.out.trans (hB.mono HB2.out.size)
        have hs2 := blk_lt HX2.out
        have hS4 : StL base ta gl cl (.slice (some ⟨gv, 0, none⟩) (K + 1) cv) gs wd ls p x w 0 (.slice (some ⟨γ, 0, none⟩) 1 1) W := by
          refine ⟨hb4, HT.out.keep hb4, ⟨rfl, .inr ⟨γ, 1, #[.string ln.f0, .int .u64 ln.f1.f0, .int .u64 ln.f1.f1], rfl, by omega, hn.2, Nat.le_refl _, by decide, rfl, ?_⟩⟩, ?_, blk_below HX2.out hB⟩
          · rw [HLNE.out]; rfl
          · intro j hj
            obtain rfl : j = 0 := by omega
            exact leafNode_k HKK.out.w HML.out HX.out
        have HS4 := aM' hS4
        have t2 : W.cell? ⟨ta, 2, none⟩ = some (.slice (some ⟨gv, 0, none⟩) (K + 1) cv) := blk_cell hS4.t.ht 2
        have CH := aM' (fun (V : World) (h : TreeR ta (treeT wd ls) V) => by have q := tHeight.calls ta _ V h; rw [HRL.out, show ((K + 1 : Nat) : Int) - 1 = (K : Int) by omega] at q; exact q)
        have hkc : K ≤ cv := by have := HCV.out; omega
        clear hB hb4 hs2 hS4 hn
        go_wp2_with fail
        have HR4 := aM' (fun n => treeR_of (HS4.out.below (pw_below_drewN (Below.refl _ _) n)).t HRL.out HKK.out HN.out)
        go_quiet (exact Calls.quiet_of_same ((CH.out _ (HR4.out _)).mono fun e w' h => ⟨h.1, h.2.symm⟩))
        obtain ⟨W5, hW5⟩ : ∃ V, V = W.drewN nq := ⟨_, rfl⟩
        have HS5 := aM' (HS4.out.below (pw_below_drewN (Below.refl _ _) nq))
        rw [← hW5] at HS5
        simp only [← hW5]
        clear hW5 t2 HR4 HS4 CH hkc HA2 HX2 HB2 HLN HLNE HB1
        go_wp2
        refine wp_forget (fun y => ({ tmps := List.toArray (.pointer (some ⟨ta, 0, none⟩) :: .int .u64 (p : Int) :: leafV x :: y 3 :: y 4 :: .pointer (some ⟨w.heap.size, 0, none⟩) :: .int .i64 0 :: .slice (some ⟨γ, 0, none⟩) 1 1 :: .int .u64 (p : Int) :: y 9 :: y 10 :: y 11 :: y 12 :: y 13 :: y 14 :: y 15 :: y 16 :: y 17 :: y 18 :: y 19 :: y 20 :: y 21 :: y 22 :: y 23 :: y 24 :: y 25 :: y 26 :: y 27 :: y 28 :: y 29 :: y 30 :: y 31 :: y 32 :: y 33 :: y 34 :: y 35 :: y 36 :: y 37 :: y 38 :: y 39 :: y 40 :: y 41 :: y 42 :: y 43 :: y 44 :: y 45 :: y 46 :: .slice (some ⟨gv, 0, none⟩) K cv :: .int .i64 (K : Int) :: .int .i64 0 :: y 50 :: y 51 :: y 52 :: y 53 :: y 54 :: y 55 :: y 56 :: y 57 :: y 58 :: y 59 :: y 60 :: y 61 :: y 62 :: y 63 :: y 64 :: y 65 :: y 66 :: y 67 :: y 68 :: y 69 :: y 70 :: y 71 :: y 72 :: y 73 :: y 74 :: y 75 :: y 76 :: y 77 :: y 78 :: y 79 :: y 80 :: y 81 :: y 82 :: y 83 :: y 84 :: y 85 :: y 86 :: y 87 :: y 88 :: y 89 :: y 90 :: y 91 :: y 92 :: y 93 :: y 94 :: y 95 :: y 96 :: y 97 :: y 98 :: y 99 :: y 100 :: y 101 :: y 102 :: y 103 :: y 104 :: y 105 :: y 106 :: y 107 :: y 108 :: y 109 :: y 110 :: y 111 :: y 112 :: y 113 :: y 114 :: y 115 :: y 116 :: y 117 :: y 118 :: []), defers := [] } : Act)) rfl ?_
        intro y
        go_loopw [7, 8, 49] (fun v7 v8 v49 wr => ∃ i q : Nat, v49 = .int .i64 (i : Int) ∧ v8 = .int .u64 (q : Int) ∧ Aside0 (i ≤ K ∧ q = p / 2 ^ i) ∧ Aside0 (StL base ta gl cl (.slice (some ⟨gv, 0, none⟩) (K + 1) cv) gs wd ls p x w i v7 wr)) (fun _ _ v49 _ => K - (intOf v49).toNat)
        case atStart => exact ⟨0, p, rfl, rfl, ⟨⟨Nat.zero_le _, by rw [Nat.pow_zero, Nat.div_one]⟩⟩, HS5⟩
        case round =>
          obtain ⟨i, q, rfl, rfl, HI, HS⟩ := hrel
          obtain ⟨g7, c7, rfl, -, hg7⟩ := HS.out.o.form (by omega)
          have hK10 := HK10.out
          have HG7 := aM' hg7
          clear hg7
          by_cases hlt : i < K
          · have b1 : decide ((i : Int) < (K : Int)) = true := decide_eq_true (by omega)
            have b2 : decide (i < K) = true := decide_eq_true hlt
            have hrow : (treeT wd ls).rows[i]? = some (upV wd i (ls.map (leafNodeI wd))) := levelsV_get wd _ i _ (by have := HRL.out; have h : (treeT wd ls).rows = levelsV wd ls.length.log2 (ls.map (leafNodeI wd)) := rfl; rw [h, levelsV_len] at this; omega)
            obtain ⟨pr, hpr, l0, l1, hrc, hrd, hpm, cs, hpb, hpc⟩ := TreeOwn.level (cv := cv) (by rw [HRL.out]; exact HS.out.t) hrow
            obtain ⟨r, hr⟩ : ∃ r, r = upV wd i (ls.map (leafNodeI wd)) := ⟨_, rfl⟩
            rw [← hr] at hrow l0 hrc hrd hpc
            have hq := div_lt (by rw [← HKL.out]; exact HLT.out) (show i ≤ K by omega)
            have hrl : r.length = 2 ^ (K - i) := by rw [hr]; exact upV_len2 (by rw [List.length_map]; exact HKL.out) i (by omega)
            obtain ⟨sq, hsq⟩ : ∃ s, s = besN (p / 2 ^ i) := ⟨_, rfl⟩
            have hnk := besV_k (w := wd) (K := K) (by rw [List.length_map]; exact HKL.out) HKK.out.k HKK.out.t (by rw [← HKL.out]; exact HLT.out) i hlt
            have hsl : sq < r.length := by rw [hsq, hr]; exact hnk.2
            obtain ⟨wn, hwn⟩ : ∃ n, n = wayV wd (ls.map (leafNodeI wd)) p (leafNodeI wd x) i := ⟨_, rfl⟩
            obtain ⟨sn, hsn⟩ : ∃ n, n = besV wd (ls.map (leafNodeI wd)) p i := ⟨_, rfl⟩
            have HXX := aM' (show Go.bits .xor .u64 (q : Int) 1 = (sq : Int) by rw [hsq, HI.out.2]; exact bits_bes _ (Nat.lt_of_le_of_lt (Nat.div_le_self _ _) HP.out))
            have HSQ := aM' hsl
            have HSN := aM' (show NodeK wd sn by rw [hsn]; exact hnk.1)
            have HWN := aM' (show NodeK wd wn by rw [hwn]; exact HS.out.k i (Nat.le_refl _))
            have HW1 := aM' (show wayV wd (ls.map (leafNodeI wd)) p (leafNodeI wd x) (i + 1) = (if q % 2 = 1 then joinV wd sn wn else joinV wd wn sn) by rw [hsn, hwn, HI.out.2]; rfl)
            have hsr : r[sq] = sn := by
              have : besV wd (ls.map (leafNodeI wd)) p i = r.getD sq zeroN := by rw [hr, hsq]; rfl
              rw [hsn, this, List.getD_eq_getElem?_getD, List.getElem?_eq_getElem hsl]; rfl
            have hwr : (waysL wd ls p x (i + 1))[i]? = some wn := by
              rw [waysL_succ, List.getElem?_append_right (by rw [waysL_len]; omega), waysL_len, Nat.sub_self, hwn]; rfl
            have hcs := HS.out.o.cells (g := g7) rfl
            have ea : ∀ n, (⟨g7, 0, none⟩ : Addr).add n = ⟨g7, n, none⟩ := fun n => by unfold Addr.add; split <;> simp_all
            have eb : ∀ n, (⟨pr.1, 0, none⟩ : Addr).add n = ⟨pr.1, n, none⟩ := fun n => by unfold Addr.add; split <;> simp_all
            have w0 := cellsN_get _ i 0 wn hwr (by decide)
            have w1' := cellsN_get _ i 1 wn hwr (by decide)
            have w2' := cellsN_get _ i 2 wn hwr (by decide)
            have W0 := hcs _ _ w0
            have W1 := hcs _ _ w1'
            have W2' := hcs _ _ w2'
            rw [ea] at W0 W1 W2'
            obtain ⟨ad, e1, p0, p1, p2⟩ := at_TNode hrd (sq : Int) (by omega) (by omega)
            cases e1
            rw [rdNode_nat r sq hsl, Int.toNat_natCast, hsr] at p0 p1 p2
            rw [eb] at p0 p1 p2
            have hb11 := below_alloc (Below.refl wr.heap.size wr) (.cells #[rowV pr r, .int .i64 (i : Int)] 109)
            have EW := aM' (show (wr.alloc (.cells #[rowV pr r, .int .i64 (i : Int)] 109)).cell? ⟨g7, i * 3, none⟩ = some (.string wn.f0) ∧ (wr.alloc (.cells #[rowV pr r, .int .i64 (i : Int)] 109)).cell? ⟨g7, i * 3 + 1, none⟩ = some (.int .u64 wn.f1.f0) ∧ (wr.alloc (.cells #[rowV pr r, .int .i64 (i : Int)] 109)).cell? ⟨g7, i * 3 + 2, none⟩ = some (.int .u64 wn.f1.f1) from ⟨pw_cell_below hb11 W0, pw_cell_below hb11 W1, pw_cell_below hb11 W2'⟩)
            have ES := aM' (show (wr.alloc (.cells #[rowV pr r, .int .i64 (i : Int)] 109)).cell? ⟨pr.1, sq * 3, none⟩ = some (.string sn.f0) ∧ (wr.alloc (.cells #[rowV pr r, .int .i64 (i : Int)] 109)).cell? ⟨pr.1, sq * 3 + 1, none⟩ = some (.int .u64 sn.f1.f0) ∧ (wr.alloc (.cells #[rowV pr r, .int .i64 (i : Int)] 109)).cell? ⟨pr.1, sq * 3 + 2, none⟩ = some (.int .u64 sn.f1.f1) from ⟨pw_cell_below hb11 p0, pw_cell_below hb11 p1, pw_cell_below hb11 p2⟩)
            have H10 := aM' (blk_new wr (.cells #[rowV pr r, .int .i64 (i : Int)] 109))
            have HS10 := aM' (HS.out.below hb11)
            clear hr hpr hpc hpb hpm hrc hrd hrow hq hrl hsq hnk hsl hwn hsn hsr hwr hcs ea eb w0 w1' w2' W0 W1 W2' p0 p1 p2 hb11
            go_upto_region 12 with (fail)
            obtain ⟨g10, hg10⟩ : ∃ g, g = wr.heap.size := ⟨_, rfl⟩
            obtain ⟨V, hV⟩ : ∃ V, V = wr.alloc (.cells #[rowV pr r, .int .i64 (i : Int)] 109) := ⟨_, rfl⟩
            rw [← hg10, ← hV] at H10
            rw [← hV] at EW ES HS10
            simp only [← hg10, ← hV]
            clear hg10 hV l0 l1
            refine wp_forget (fun z => ({ tmps := List.toArray (.pointer (some ⟨ta, 0, none⟩) :: .int .u64 (p : Int) :: leafV x :: y 3 :: y 4 :: .pointer (some ⟨w.heap.size, 0, none⟩) :: z 6 :: .slice (some ⟨g7, 0, none⟩) (i + 1) c7 :: .int .u64 (q : Int) :: y 9 :: .pointer (some ⟨g10, 0, none⟩) :: z 11 :: z 12 :: z 13 :: z 14 :: y 15 :: y 16 :: y 17 :: y 18 :: y 19 :: y 20 :: y 21 :: y 22 :: y 23 :: y 24 :: y 25 :: y 26 :: y 27 :: y 28 :: y 29 :: y 30 :: y 31 :: y 32 :: y 33 :: y 34 :: y 35 :: y 36 :: y 37 :: y 38 :: y 39 :: y 40 :: y 41 :: y 42 :: y 43 :: y 44 :: y 45 :: y 46 :: .slice (some ⟨gv, 0, none⟩) K cv :: .int .i64 (K : Int) :: .int .i64 (i : Int) :: z 50 :: z 51 :: z 52 :: z 53 :: z 54 :: z 55 :: z 56 :: z 57 :: z 58 :: z 59 :: z 60 :: z 61 :: z 62 :: z 63 :: z 64 :: z 65 :: z 66 :: z 67 :: z 68 :: z 69 :: z 70 :: z 71 :: z 72 :: z 73 :: z 74 :: z 75 :: z 76 :: z 77 :: z 78 :: z 79 :: z 80 :: z 81 :: z 82 :: z 83 :: z 84 :: z 85 :: z 86 :: z 87 :: z 88 :: z 89 :: y 90 :: y 91 :: y 92 :: y 93 :: y 94 :: y 95 :: y 96 :: y 97 :: y 98 :: y 99 :: y 100 :: y 101 :: y 102 :: y 103 :: y 104 :: y 105 :: y 106 :: y 107 :: y 108 :: y 109 :: y 110 :: y 111 :: y 112 :: y 113 :: y 114 :: y 115 :: y 116 :: y 117 :: y 118 :: []), defers := [] } : Act)) rfl ?_
            intro z
            refine region_inv (fun l a W => ∃ γ : Nat, ∃ δ : Nat, a = ({ tmps := #[.pointer (some ⟨ta, 0, none⟩), .int .u64 (p : Int), leafV x, y 3, y 4, .pointer (some ⟨w.heap.size, 0, none⟩), z 6, .slice (some ⟨g7, 0, none⟩) (i + 1) c7, .int .u64 (q : Int), y 9, .pointer (some ⟨g10, 0, none⟩), sel (l 12) (.pointer (some ⟨γ, 0, none⟩)) (z 11), sel (l 13) (.pointer (some ⟨δ, 0, none⟩)) (z 12), z 13, z 14, y 15, y 16, y 17, y 18, y 19, y 20, y 21, y 22, y 23, y 24, y 25, y 26, y 27, y 28, y 29, y 30, y 31, y 32, y 33, y 34, y 35, y 36, y 37, y 38, y 39, y 40, y 41, y 42, y 43, y 44, y 45, y 46, .slice (some ⟨gv, 0, none⟩) K cv, .int .i64 (K : Int), .int .i64 (i : Int), z 50, z 51, z 52, sel (l 0) (.slice (some ⟨g7, 0, none⟩) (i + 1) c7) (z 53), sel (l 1) (.pointer (some ⟨g10, 1, none⟩)) (z 54), sel (l 2) (.int .i64 (i : Int)) (z 55), sel (l 3) (.pointer (some ⟨g7, i * 3, none⟩)) (z 56), sel (l 4) (.agg #[.string wn.f0, .int .u64 wn.f1.f0, .int .u64 wn.f1.f1]) (z 57), sel (l 5) (.pointer (some ⟨g10, 0, none⟩)) (z 58), sel (l 6) (.pointer (some ⟨g10, 0, none⟩)) (z 59), sel (l 7) (.slice (some ⟨pr.1, 0, none⟩) r.length pr.2) (z 60), sel (l 8) (.int .u64 (q : Int)) (z 61), sel (l 9) (.int .u64 (sq : Int)) (z 62), sel (l 10) (.pointer (some ⟨pr.1, sq * 3, none⟩)) (z 63), sel (l 11) (.agg #[.string sn.f0, .int .u64 sn.f1.f0, .int .u64 sn.f1.f1]) (z 64), z 65, z 66, z 67, z 68, z 69, z 70, z 71, z 72, z 73, z 74, z 75, z 76, z 77, z 78, z 79, z 80, z 81, z 82, z 83, z 84, z 85, z 86, z 87, z 88, z 89, y 90, y 91, y 92, y 93, y 94, y 95, y 96, y 97, y 98, y 99, y 100, y 101, y 102, y 103, y 104, y 105, y 106, y 107, y 108, y 109, y 110, y 111, y 112, y 113, y 114, y 115, y 116, y 117, y 118], defers := [] } : Act) ∧ St12 V W wn sn l γ δ) 16 rfl rfl (by kernel_rfl) ?h0 ?hend ?hstep
            case h0 => exact ⟨0, 0, rfl, St12.start V wn sn⟩
            case hstep =>
              refine rg_cons (rg_cons (rg_cons (rg_cons (rg_cons (rg_cons (rg_cons (rg_cons (rg_cons (rg_cons (rg_cons (rg_cons (rg_cons (rg_cons (rg_cons (rg_cons (rg_nil) ?s0) ?s1) ?s2) ?s3) ?s4) ?s5) ?s6) ?s7) ?s8) ?s9) ?s10) ?s11) ?s12) ?s13) ?s14) ?s15
              case s0 =>
                refine rg_step rfl ?_
                rintro l a W ⟨γ, δ, rfl, hI⟩ hl hd
                clear hd
                refine rg_val (v := .slice (some ⟨g7, 0, none⟩) (i + 1) c7) (w' := W) rfl (by go_simp) ?_
                refine ⟨γ, δ, ?_, ?_⟩
                · simp only [Act.put, List.setIfInBounds_toArray, List.set_cons_zero, List.set_cons_succ]; rfl
                · exact hI.same 0 (by decide)
              case s1 =>
                refine rg_step rfl ?_
                rintro l a W ⟨γ, δ, rfl, hI⟩ hl hd
                clear hd
                refine rg_val (v := .pointer (some ⟨g10, 1, none⟩)) (w' := W) rfl (by go_simp) ?_
                refine ⟨γ, δ, ?_, ?_⟩
                · simp only [Act.put, List.setIfInBounds_toArray, List.set_cons_zero, List.set_cons_succ]; rfl
                · exact hI.same 1 (by decide)
              case s2 =>
                refine rg_step rfl ?_
                rintro l a W ⟨γ, δ, rfl, hI⟩ hl hd
                have d1 := hd 1 (by decide)
                clear hd
                have x1 := blk_cell (blk_below H10.out hI.b) 1
                simp at x1
                refine rg_val (v := .int .i64 (i : Int)) (w' := W) rfl (by go_simp) ?_
                refine ⟨γ, δ, ?_, ?_⟩
                · simp only [Act.put, List.setIfInBounds_toArray, List.set_cons_zero, List.set_cons_succ]; rfl
                · exact hI.same 2 (by decide)
              case s3 =>
                refine rg_step rfl ?_
                rintro l a W ⟨γ, δ, rfl, hI⟩ hl hd
                have d0 := hd 0 (by decide)
                have d2 := hd 2 (by decide)
                clear hd
                refine rg_val (v := .pointer (some ⟨g7, i * 3, none⟩)) (w' := W) rfl (by go_simp; try omega) ?_
                refine ⟨γ, δ, ?_, ?_⟩
                · simp only [Act.put, List.setIfInBounds_toArray, List.set_cons_zero, List.set_cons_succ]; rfl
                · exact hI.same 3 (by decide)
              case s4 =>
                refine rg_step rfl ?_
                rintro l a W ⟨γ, δ, rfl, hI⟩ hl hd
                have d3 := hd 3 (by decide)
                clear hd
                have x0 := pw_cell_below hI.b EW.out.1
                have x1 := pw_cell_below hI.b EW.out.2.1
                have x2 := pw_cell_below hI.b EW.out.2.2
                refine rg_val (v := .agg #[.string wn.f0, .int .u64 wn.f1.f0, .int .u64 wn.f1.f1]) (w' := W) rfl (by go_simp) ?_
                refine ⟨γ, δ, ?_, ?_⟩
                · simp only [Act.put, List.setIfInBounds_toArray, List.set_cons_zero, List.set_cons_succ]; rfl
                · exact hI.same 4 (by decide)
              case s5 =>
                refine rg_step rfl ?_
                rintro l a W ⟨γ, δ, rfl, hI⟩ hl hd
                clear hd
                refine rg_val (v := .pointer (some ⟨g10, 0, none⟩)) (w' := W) rfl (by go_simp) ?_
                refine ⟨γ, δ, ?_, ?_⟩
                · simp only [Act.put, List.setIfInBounds_toArray, List.set_cons_zero, List.set_cons_succ]; rfl
                · exact hI.same 5 (by decide)
              case s6 =>
                refine rg_step rfl ?_
                rintro l a W ⟨γ, δ, rfl, hI⟩ hl hd
                have d5 := hd 5 (by decide)
                clear hd
                refine rg_val (v := .pointer (some ⟨g10, 0, none⟩)) (w' := W) rfl (by go_simp) ?_
                refine ⟨γ, δ, ?_, ?_⟩
                · simp only [Act.put, List.setIfInBounds_toArray, List.set_cons_zero, List.set_cons_succ]; rfl
                · exact hI.same 6 (by decide)
              case s7 =>
                refine rg_step rfl ?_
                rintro l a W ⟨γ, δ, rfl, hI⟩ hl hd
                have d6 := hd 6 (by decide)
                clear hd
                have x0 := blk_cell (blk_below H10.out hI.b) 0
                simp at x0
                refine rg_val (v := .slice (some ⟨pr.1, 0, none⟩) r.length pr.2) (w' := W) rfl (by go_simp) ?_
                refine ⟨γ, δ, ?_, ?_⟩
                · simp only [Act.put, List.setIfInBounds_toArray, List.set_cons_zero, List.set_cons_succ]; rfl
                · exact hI.same 7 (by decide)
              case s8 =>
                refine rg_step rfl ?_
                rintro l a W ⟨γ, δ, rfl, hI⟩ hl hd
                clear hd
                refine rg_val (v := .int .u64 (q : Int)) (w' := W) rfl (by go_simp) ?_
                refine ⟨γ, δ, ?_, ?_⟩
                · simp only [Act.put, List.setIfInBounds_toArray, List.set_cons_zero, List.set_cons_succ]; rfl
                · exact hI.same 8 (by decide)
              case s9 =>
                refine rg_step rfl ?_
                rintro l a W ⟨γ, δ, rfl, hI⟩ hl hd
                have d8 := hd 8 (by decide)
                clear hd
                have hxx := HXX.out
                refine rg_val (v := .int .u64 (sq : Int)) (w' := W) rfl (by go_simp) ?_
                refine ⟨γ, δ, ?_, ?_⟩
                · simp only [Act.put, List.setIfInBounds_toArray, List.set_cons_zero, List.set_cons_succ]; rfl
                · exact hI.same 9 (by decide)
              case s10 =>
                refine rg_step rfl ?_
                rintro l a W ⟨γ, δ, rfl, hI⟩ hl hd
                have d7 := hd 7 (by decide)
                have d9 := hd 9 (by decide)
                clear hd
                have hsq := HSQ.out
                refine rg_val (v := .pointer (some ⟨pr.1, sq * 3, none⟩)) (w' := W) rfl (by go_simp; try omega) ?_
                refine ⟨γ, δ, ?_, ?_⟩
                · simp only [Act.put, List.setIfInBounds_toArray, List.set_cons_zero, List.set_cons_succ]; rfl
                · exact hI.same 10 (by decide)
              case s11 =>
                refine rg_step rfl ?_
                rintro l a W ⟨γ, δ, rfl, hI⟩ hl hd
                have d10 := hd 10 (by decide)
                clear hd
                have x0 := pw_cell_below hI.b ES.out.1
                have x1 := pw_cell_below hI.b ES.out.2.1
                have x2 := pw_cell_below hI.b ES.out.2.2
                refine rg_val (v := .agg #[.string sn.f0, .int .u64 sn.f1.f0, .int .u64 sn.f1.f1]) (w' := W) rfl (by go_simp) ?_
                refine ⟨γ, δ, ?_, ?_⟩
                · simp only [Act.put, List.setIfInBounds_toArray, List.set_cons_zero, List.set_cons_succ]; rfl
                · exact hI.same 11 (by decide)
              case s12 =>
                refine rg_step rfl ?_
                rintro l a W ⟨γ, δ, rfl, hI⟩ hl hd
                clear hd
                have hs : l 14 = false := hI.no12 hl
                have hs' : upd l 12 14 = false := hs
                refine rg_val (v := .pointer (some ⟨W.heap.size, 0, none⟩)) (w' := W.alloc (.cells #[.string ⟨#[]⟩, .int .u64 0, .int .u64 0] 46)) rfl (by go_simp) ?_
                refine ⟨W.heap.size, δ, ?_, ?_⟩
                · simp only [Act.put, List.setIfInBounds_toArray, List.set_cons_zero, List.set_cons_succ]; rfl
                · exact hI.made12 hl
              case s13 =>
                refine rg_step rfl ?_
                rintro l a W ⟨γ, δ, rfl, hI⟩ hl hd
                clear hd
                have hs : l 15 = false := hI.no13 hl
                have hs' : upd l 13 15 = false := hs
                refine rg_val (v := .pointer (some ⟨W.heap.size, 0, none⟩)) (w' := W.alloc (.cells #[.string ⟨#[]⟩, .int .u64 0, .int .u64 0] 46)) rfl (by go_simp) ?_
                refine ⟨γ, W.heap.size, ?_, ?_⟩
                · simp only [Act.put, List.setIfInBounds_toArray, List.set_cons_zero, List.set_cons_succ]; rfl
                · exact hI.made13 hl
              case s14 =>
                refine rg_step rfl ?_
                rintro l a W ⟨γ, δ, rfl, hI⟩ hl hd
                have d4 := hd 4 (by decide)
                have d12 := hd 12 (by decide)
                clear hd
                have hz := hI.h12 d12
                rw [if_neg (by rw [hl]; decide)] at hz
                have z0 := blk_cell hz.2 0
                have z1 := blk_cell hz.2 1
                have z2 := blk_cell hz.2 2
                have zf := fun i => blk_frozen hz.2 i
                simp at z0 z1 z2
                refine rg_skip rfl (by go_simp; rfl) ?_
                refine ⟨γ, δ, ?_, ?_⟩
                · simp only [Act.put, List.setIfInBounds_toArray, List.set_cons_zero, List.set_cons_succ]; rfl
                · exact hI.stored14 hl d12
              case s15 =>
                refine rg_step rfl ?_
                rintro l a W ⟨γ, δ, rfl, hI⟩ hl hd
                have d11 := hd 11 (by decide)
                have d13 := hd 13 (by decide)
                clear hd
                have hz := hI.h13 d13
                rw [if_neg (by rw [hl]; decide)] at hz
                have z0 := blk_cell hz.2 0
                have z1 := blk_cell hz.2 1
                have z2 := blk_cell hz.2 2
                have zf := fun i => blk_frozen hz.2 i
                simp at z0 z1 z2
                refine rg_skip rfl (by go_simp; rfl) ?_
                refine ⟨γ, δ, ?_, ?_⟩
                · simp only [Act.put, List.setIfInBounds_toArray, List.set_cons_zero, List.set_cons_succ]; rfl
                · exact hI.stored15 hl d13
            case hend =>
              rintro l a W ⟨γ, δ, rfl, hI⟩ hall
              have e0 := hall 0 (by decide)
              have e1 := hall 1 (by decide)
              have e2 := hall 2 (by decide)
              have e3 := hall 3 (by decide)
              have e4 := hall 4 (by decide)
              have e5 := hall 5 (by decide)
              have e6 := hall 6 (by decide)
              have e7 := hall 7 (by decide)
              have e8 := hall 8 (by decide)
              have e9 := hall 9 (by decide)
              have e10 := hall 10 (by decide)
              have e11 := hall 11 (by decide)
              have e12 := hall 12 (by decide)
              have e13 := hall 13 (by decide)
              have e14 := hall 14 (by decide)
              have e15 := hall 15 (by decide)
              clear hall
              have hn := hI.done e12 e13 e14 e15
              have hB := hI.b
              simp only [e0, e1, e2, e3, e4, e5, e6, e7, e8, e9, e10, e11, e12, e13, e14, e15, sel_true]
              clear e0 e1 e2 e3 e4 e5 e6 e7 e8 e9 e10 e11 e12 e13 e14 e15
              clear hI
              obtain ⟨⟨hgs, hG⟩, ⟨hds, hD⟩, hne⟩ := hn
              have HB12 := aM' hB
              have HGG := aM' (And.intro hgs hG)
              have HDD := aM' (And.intro hds hD)
              have HNE := aM' hne
              clear hB hgs hG hds hD hne
              obtain ⟨o, ho⟩ : ∃ o, o = q % 2 := ⟨_, rfl⟩
              have hod : Go.bits .and .u64 (q : Int) 1 = (o : Int) := by rw [ho]; exact bits_odd q (by rw [HI.out.2]; exact Nat.lt_of_le_of_lt (Nat.div_le_self _ _) HP.out)
              obtain ⟨bo, hbo⟩ : ∃ b : Bool, ((o : Int) == 1) = b := ⟨_, rfl⟩
              have HBO := aM' (show bo = decide (q % 2 = 1) by
                rw [← hbo, ← ho, Bool.eq_iff_iff, beq_iff_eq, decide_eq_true_iff]; omega)
              obtain ⟨Ln, hLn⟩ : ∃ n, n = if bo = true then sn else wn := ⟨_, rfl⟩
              obtain ⟨Rn, hRn⟩ : ∃ n, n = if bo = true then wn else sn := ⟨_, rfl⟩
              have HLN := aM' hLn
              have HRN := aM' hRn
              clear hLn hRn ho
              go_upto_region 13 with (fail)
              refine wp_forget (fun z => ({ tmps := List.toArray (.pointer (some ⟨ta, 0, none⟩) :: .int .u64 (p : Int) :: leafV x :: y 3 :: y 4 :: .pointer (some ⟨w.heap.size, 0, none⟩) :: z 6 :: .slice (some ⟨g7, 0, none⟩) (i + 1) c7 :: .int .u64 (q : Int) :: y 9 :: .pointer (some ⟨g10, 0, none⟩) :: .pointer (some ⟨γ, 0, none⟩) :: .pointer (some ⟨δ, 0, none⟩) :: z 13 :: z 14 :: y 15 :: y 16 :: y 17 :: y 18 :: y 19 :: y 20 :: y 21 :: y 22 :: y 23 :: y 24 :: y 25 :: y 26 :: y 27 :: y 28 :: y 29 :: y 30 :: y 31 :: y 32 :: y 33 :: y 34 :: y 35 :: y 36 :: y 37 :: y 38 :: y 39 :: y 40 :: y 41 :: y 42 :: y 43 :: y 44 :: y 45 :: y 46 :: .slice (some ⟨gv, 0, none⟩) K cv :: .int .i64 (K : Int) :: .int .i64 (i : Int) :: z 50 :: z 51 :: z 52 :: z 53 :: z 54 :: z 55 :: z 56 :: z 57 :: z 58 :: z 59 :: z 60 :: z 61 :: z 62 :: z 63 :: z 64 :: z 65 :: z 66 :: z 67 :: z 68 :: z 69 :: z 70 :: z 71 :: z 72 :: z 73 :: z 74 :: z 75 :: z 76 :: z 77 :: z 78 :: z 79 :: z 80 :: z 81 :: z 82 :: z 83 :: z 84 :: z 85 :: z 86 :: z 87 :: z 88 :: z 89 :: y 90 :: y 91 :: y 92 :: y 93 :: y 94 :: y 95 :: y 96 :: y 97 :: y 98 :: y 99 :: y 100 :: y 101 :: y 102 :: y 103 :: y 104 :: y 105 :: y 106 :: y 107 :: y 108 :: y 109 :: y 110 :: y 111 :: y 112 :: y 113 :: y 114 :: y 115 :: y 116 :: y 117 :: y 118 :: []), defers := [] } : Act)) rfl ?_
              intro z
              go_upto_if 67 with (fail)
              clear hod hbo
              go_cut [] (fun wc => Aside0 (Below V.heap.size V wc ∧ wc.heap[γ]? = some (.cells (nodeA Ln) 46 (0, 0)) ∧ wc.heap[δ]? = some (.cells (nodeA Rn) 46 (0, 0))))
              case first =>
                cases bo with
                | false =>
                  go_wp2
                  go_meet
                  exact ⟨⟨HB12.out, by rw [HLN.out]; exact HGG.out.2, by rw [HRN.out]; exact HDD.out.2⟩⟩
                | true =>
                  have p0 := blk_cell HGG.out.2 0
                  have p1 := blk_cell HGG.out.2 1
                  have p2 := blk_cell HGG.out.2 2
                  have pf := fun i => blk_frozen HGG.out.2 i
                  have s0 := blk_cell HDD.out.2 0
                  have s1 := blk_cell HDD.out.2 1
                  have s2 := blk_cell HDD.out.2 2
                  have sf := fun i => blk_frozen HDD.out.2 i
                  simp at p0 p1 p2 s0 s1 s2
                  have hne := HNE.out
                  have hne2 := Ne.symm hne
                  go_wp2
                  go_meet
                  refine ⟨⟨below_set (below_set (below_set (below_set (below_set (below_set HB12.out HGG.out.1) HGG.out.1) HGG.out.1) HDD.out.1) HDD.out.1) HDD.out.1, ?_, ?_⟩⟩
                  · rw [HLN.out, if_pos (by trivial)]
                    exact blk_far (blk_far (blk_far (blk_put (blk_put (blk_put HGG.out.2 0 _ rfl) 1 _ rfl) 2 _ rfl) (by exact hne) _) (by exact hne) _) (by exact hne) _
                  · rw [HRN.out, if_pos (by trivial)]
                    exact blk_put (blk_put (blk_put (blk_far (blk_far (blk_far HDD.out.2 (by exact hne2) _) (by exact hne2) _) (by exact hne2) _) 0 _ rfl) 1 _ rfl) 2 _ rfl
              case rest =>
                have HC : Aside0 (Below V.heap.size V wc ∧ wc.heap[γ]? = some (.cells (nodeA Ln) 46 (0, 0)) ∧ wc.heap[δ]? = some (.cells (nodeA Rn) 46 (0, 0))) := hcut
                clear hcut
                have HSC := aM' (HS10.out.below HC.out.1)
                have HAC := aM' (show wc.heap[ta]? = some (.cells #[.int .i64 wd, .slice (some ⟨gl, 0, none⟩) ls.length cl, .slice (some ⟨gv, 0, none⟩) (K + 1) cv] 105 (0, 0)) from HSC.out.t.ht)
                have hKL : NodeK wd Ln := by rw [HLN.out]; split
                                             · exact HSN.out
                                             · exact HWN.out
                have hKR : NodeK wd Rn := by rw [HRN.out]; split
                                             · exact HWN.out
                                             · exact HSN.out
                have hW1 : wayV wd (ls.map (leafNodeI wd)) p (leafNodeI wd x) (i + 1) = joinV wd Ln Rn := by
                  rw [HW1.out, HLN.out, HRN.out, HBO.out]
                  by_cases h : q % 2 = 1
                  · simp [h]
                  · simp [h]
                obtain ⟨jn, je, hje⟩ : ∃ (jn : SNode) (je : Int), joinI wd Ln Rn = (jn.f0, jn.f1.f0, jn.f1.f1, je) := ⟨⟨_, ⟨_, _⟩⟩, _, rfl⟩
                have HJE : Aside0 ((je = 0 ∧ jn = wayV wd (ls.map (leafNodeI wd)) p (leafNodeI wd x) (i + 1) ∧ NodeK wd jn) ∨ (je = 10 ∧ setI wd ls p x = 10)) := by
                  refine ⟨?_⟩
                  by_cases hroom : valU Ln.f1 + valU Rn.f1 < 340282366920938463463374607431768211456
                  · rw [joinI_room hKL hKR hroom] at hje
                    have e := Prod.mk.inj hje
                    have e2 := Prod.mk.inj e.2
                    have e3 := Prod.mk.inj e2.2
                    have ej : jn = joinV wd Ln Rn := by
                      obtain ⟨a1, b1, c1⟩ := jn
                      show (⟨a1, ⟨b1, c1⟩⟩ : SNode) = ⟨(joinV wd Ln Rn).f0, ⟨(joinV wd Ln Rn).f1.f0, (joinV wd Ln Rn).f1.f1⟩⟩
                      rw [e.1, e2.1, e3.1]
                    exact .inl ⟨e3.2.symm, by rw [hW1, ej], by rw [ej]; exact joinV_k hKL hKR hroom⟩
                  · rw [joinI_full hKL hKR hroom] at hje
                    have e3 := Prod.mk.inj (Prod.mk.inj (Prod.mk.inj hje).2).2
                    refine .inr ⟨e3.2.symm, ?_⟩
                    have h1 := way_le wd (K := K) (by rw [List.length_map]; exact HKL.out) HKK.out.k HKK.out.t (by rw [← HKL.out]; exact HLT.out) (leafNodeI wd x) (i + 1) (by omega)
                    rw [hW1, joinV_val] at h1
                    unfold setI
                    rw [if_neg (show ¬ ls.length ≤ p by have := HLT.out; omega), if_neg (by rw [HML.out]; decide), if_neg (by rw [List.map_set]; omega)]
                obtain ⟨kj, hkj⟩ := (join_ev wd Ln Rn hKL.u hKR.u).rounds
                rw [hje] at hkj
                have HJ := aM' hkj
                clear hkj hje hKL hKR hW1
                go_upto_region 15 with (fail)
                refine wp_forget (fun z => ({ tmps := List.toArray (.pointer (some ⟨ta, 0, none⟩) :: .int .u64 (p : Int) :: leafV x :: y 3 :: y 4 :: .pointer (some ⟨w.heap.size, 0, none⟩) :: z 6 :: .slice (some ⟨g7, 0, none⟩) (i + 1) c7 :: .int .u64 (q : Int) :: y 9 :: .pointer (some ⟨g10, 0, none⟩) :: .pointer (some ⟨γ, 0, none⟩) :: .pointer (some ⟨δ, 0, none⟩) :: z 13 :: z 14 :: y 15 :: y 16 :: y 17 :: y 18 :: y 19 :: y 20 :: y 21 :: y 22 :: y 23 :: y 24 :: y 25 :: y 26 :: y 27 :: y 28 :: y 29 :: y 30 :: y 31 :: y 32 :: y 33 :: y 34 :: y 35 :: y 36 :: y 37 :: y 38 :: y 39 :: y 40 :: y 41 :: y 42 :: y 43 :: y 44 :: y 45 :: y 46 :: .slice (some ⟨gv, 0, none⟩) K cv :: .int .i64 (K : Int) :: .int .i64 (i : Int) :: z 50 :: z 51 :: z 52 :: z 53 :: z 54 :: z 55 :: z 56 :: z 57 :: z 58 :: z 59 :: z 60 :: z 61 :: z 62 :: z 63 :: z 64 :: z 65 :: z 66 :: z 67 :: z 68 :: z 69 :: z 70 :: z 71 :: z 72 :: z 73 :: z 74 :: z 75 :: z 76 :: z 77 :: z 78 :: z 79 :: z 80 :: z 81 :: z 82 :: z 83 :: z 84 :: z 85 :: z 86 :: z 87 :: z 88 :: z 89 :: y 90 :: y 91 :: y 92 :: y 93 :: y 94 :: y 95 :: y 96 :: y 97 :: y 98 :: y 99 :: y 100 :: y 101 :: y 102 :: y 103 :: y 104 :: y 105 :: y 106 :: y 107 :: y 108 :: y 109 :: y 110 :: y 111 :: y 112 :: y 113 :: y 114 :: y 115 :: y 116 :: y 117 :: y 118 :: []), defers := [] } : Act)) rfl ?_
                intro z
                refine region_inv (fun l a W => ∃ ε : Nat, a = ({ tmps := #[.pointer (some ⟨ta, 0, none⟩), .int .u64 (p : Int), leafV x, y 3, y 4, .pointer (some ⟨w.heap.size, 0, none⟩), z 6, .slice (some ⟨g7, 0, none⟩) (i + 1) c7, .int .u64 (q : Int), y 9, .pointer (some ⟨g10, 0, none⟩), .pointer (some ⟨γ, 0, none⟩), .pointer (some ⟨δ, 0, none⟩), sel (l 10) (.pointer (some ⟨ε, 0, none⟩)) (z 13), sel (l 12) (.int .i64 je) (z 14), y 15, y 16, y 17, y 18, y 19, y 20, y 21, y 22, y 23, y 24, y 25, y 26, y 27, y 28, y 29, y 30, y 31, y 32, y 33, y 34, y 35, y 36, y 37, y 38, y 39, y 40, y 41, y 42, y 43, y 44, y 45, y 46, .slice (some ⟨gv, 0, none⟩) K cv, .int .i64 (K : Int), .int .i64 (i : Int), z 50, z 51, z 52, z 53, z 54, z 55, z 56, z 57, z 58, z 59, z 60, z 61, z 62, z 63, z 64, z 65, z 66, z 67, z 68, z 69, sel (l 7) (.tuple #[.agg #[.string jn.f0, .int .u64 jn.f1.f0, .int .u64 jn.f1.f1], .int .i64 je]) (z 70), sel (l 0) (.pointer (some ⟨ta, 0, none⟩)) (z 71), sel (l 1) (.pointer (some ⟨ta, 0, none⟩)) (z 72), sel (l 2) (.pointer (some ⟨ta, 0, none⟩)) (z 73), sel (l 3) (.int .i64 wd) (z 74), sel (l 4) (.agg #[.string Ln.f0, .int .u64 Ln.f1.f0, .int .u64 Ln.f1.f1]) (z 75), sel (l 5) (.agg #[.string Rn.f0, .int .u64 Rn.f1.f0, .int .u64 Rn.f1.f1]) (z 76), sel (l 6) (.tuple #[.agg #[.string jn.f0, .int .u64 jn.f1.f0, .int .u64 jn.f1.f1], .int .i64 je]) (z 77), sel (l 8) (.agg #[.string jn.f0, .int .u64 jn.f1.f0, .int .u64 jn.f1.f1]) (z 78), sel (l 9) (.int .i64 je) (z 79), z 80, z 81, z 82, z 83, z 84, z 85, z 86, z 87, z 88, z 89, y 90, y 91, y 92, y 93, y 94, y 95, y 96, y 97, y 98, y 99, y 100, y 101, y 102, y 103, y 104, y 105, y 106, y 107, y 108, y 109, y 110, y 111, y 112, y 113, y 114, y 115, y 116, y 117, y 118], defers := [] } : Act) ∧ (Below wc.heap.size wc W ∧ (l 10 = true → wc.heap.size ≤ ε ∧ W.heap[ε]? = some (.cells (if l 11 = true then nodeA jn else nodeA nodeZ) 46 (0, 0))) ∧ (l 11 = true → l 10 = true))) 13 rfl rfl (by kernel_rfl) ?h0 ?hend ?hstep
                case h0 => exact ⟨0, rfl, below_drew (Below.refl _ _), (fun h => by cases h), (fun h => by cases h)⟩
                case hstep =>
                  refine rg_cons (rg_cons (rg_cons (rg_cons (rg_cons (rg_cons (rg_cons (rg_cons (rg_cons (rg_cons (rg_cons (rg_cons (rg_cons (rg_nil) ?s0) ?s1) ?s2) ?s3) ?s4) ?s5) ?s6) ?s7) ?s8) ?s9) ?s10) ?s11) ?s12
                  case s0 =>
                    refine rg_step rfl ?_
                    rintro l a W ⟨ε, rfl, hI⟩ hl hd
                    clear hd
                    refine rg_val (v := .pointer (some ⟨ta, 0, none⟩)) (w' := W) rfl (by go_simp) ?_
                    refine ⟨ε, ?_, ?_⟩
                    · simp only [Act.put, List.setIfInBounds_toArray, List.set_cons_zero, List.set_cons_succ]; rfl
                    · exact hI
                  case s1 =>
                    refine rg_step rfl ?_
                    rintro l a W ⟨ε, rfl, hI⟩ hl hd
                    have d0 := hd 0 (by decide)
                    clear hd
                    refine rg_val (v := .pointer (some ⟨ta, 0, none⟩)) (w' := W) rfl (by go_simp) ?_
                    refine ⟨ε, ?_, ?_⟩
                    · simp only [Act.put, List.setIfInBounds_toArray, List.set_cons_zero, List.set_cons_succ]; rfl
                    · exact hI
                  case s2 =>
                    refine rg_step rfl ?_
                    rintro l a W ⟨ε, rfl, hI⟩ hl hd
                    have d1 := hd 1 (by decide)
                    clear hd
                    refine rg_val (v := .pointer (some ⟨ta, 0, none⟩)) (w' := W) rfl (by go_simp) ?_
                    refine ⟨ε, ?_, ?_⟩
                    · simp only [Act.put, List.setIfInBounds_toArray, List.set_cons_zero, List.set_cons_succ]; rfl
                    · exact hI
                  case s3 =>
                    refine rg_step rfl ?_
                    rintro l a W ⟨ε, rfl, hI⟩ hl hd
                    have d2 := hd 2 (by decide)
                    clear hd
                    have x0 := blk_cell (blk_below HAC.out hI.1) 0
                    simp at x0
                    refine rg_val (v := .int .i64 wd) (w' := W) rfl (by go_simp) ?_
                    refine ⟨ε, ?_, ?_⟩
                    · simp only [Act.put, List.setIfInBounds_toArray, List.set_cons_zero, List.set_cons_succ]; rfl
                    · exact hI
                  case s4 =>
                    refine rg_step rfl ?_
                    rintro l a W ⟨ε, rfl, hI⟩ hl hd
                    clear hd
                    have x0 := blk_cell (blk_below HC.out.2.1 hI.1) 0
                    have x1 := blk_cell (blk_below HC.out.2.1 hI.1) 1
                    have x2 := blk_cell (blk_below HC.out.2.1 hI.1) 2
                    simp at x0 x1 x2
                    refine rg_val (v := .agg #[.string Ln.f0, .int .u64 Ln.f1.f0, .int .u64 Ln.f1.f1]) (w' := W) rfl (by go_simp) ?_
                    refine ⟨ε, ?_, ?_⟩
                    · simp only [Act.put, List.setIfInBounds_toArray, List.set_cons_zero, List.set_cons_succ]; rfl
                    · exact hI
                  case s5 =>
                    refine rg_step rfl ?_
                    rintro l a W ⟨ε, rfl, hI⟩ hl hd
                    clear hd
                    have x0 := blk_cell (blk_below HC.out.2.2 hI.1) 0
                    have x1 := blk_cell (blk_below HC.out.2.2 hI.1) 1
                    have x2 := blk_cell (blk_below HC.out.2.2 hI.1) 2
                    simp at x0 x1 x2
                    refine rg_val (v := .agg #[.string Rn.f0, .int .u64 Rn.f1.f0, .int .u64 Rn.f1.f1]) (w' := W) rfl (by go_simp) ?_
                    refine ⟨ε, ?_, ?_⟩
                    · simp only [Act.put, List.setIfInBounds_toArray, List.set_cons_zero, List.set_cons_succ]; rfl
                    · exact hI
                  case s6 =>
                    refine rg_step rfl ?_
                    rintro l a W ⟨ε, rfl, hI⟩ hl hd
                    have d3 := hd 3 (by decide)
                    have d4 := hd 4 (by decide)
                    have d5 := hd 5 (by decide)
                    clear hd
                    refine rg_call rfl (by go_simp; exact ⟨rfl, rfl⟩) ?_
                    refine (node_Join.calls kj wd Ln.f0 Ln.f1.f0 Ln.f1.f1 Rn.f0 Rn.f1.f0 Rn.f1.f1 jn.f0 jn.f1.f0 jn.f1.f1 je W (HK.out.below (HSC.out.b.trans (hI.1.mono HSC.out.b.size))).1 HJ.out).mono ?_
                    rintro ee W' ⟨rfl, hb⟩
                    refine ⟨_, rfl, ε, ?_, ?_⟩
                    · simp only [Act.put, List.setIfInBounds_toArray, List.set_cons_zero, List.set_cons_succ]; rfl
                    · exact ⟨hI.1.trans (hb.mono hI.1.size), fun h => ⟨(hI.2.1 h).1, blk_below (hI.2.1 h).2 hb⟩, hI.2.2⟩
                  case s7 =>
                    refine rg_step rfl ?_
                    rintro l a W ⟨ε, rfl, hI⟩ hl hd
                    have d6 := hd 6 (by decide)
                    clear hd
                    refine rg_val (v := .tuple #[.agg #[.string jn.f0, .int .u64 jn.f1.f0, .int .u64 jn.f1.f1], .int .i64 je]) (w' := W) rfl (by go_simp) ?_
                    refine ⟨ε, ?_, ?_⟩
                    · simp only [Act.put, List.setIfInBounds_toArray, List.set_cons_zero, List.set_cons_succ]; rfl
                    · exact hI
                  case s8 =>
                    refine rg_step rfl ?_
                    rintro l a W ⟨ε, rfl, hI⟩ hl hd
                    have d7 := hd 7 (by decide)
                    clear hd
                    refine rg_val (v := .agg #[.string jn.f0, .int .u64 jn.f1.f0, .int .u64 jn.f1.f1]) (w' := W) rfl (by go_simp) ?_
                    refine ⟨ε, ?_, ?_⟩
                    · simp only [Act.put, List.setIfInBounds_toArray, List.set_cons_zero, List.set_cons_succ]; rfl
                    · exact hI
                  case s9 =>
                    refine rg_step rfl ?_
                    rintro l a W ⟨ε, rfl, hI⟩ hl hd
                    have d7 := hd 7 (by decide)
                    clear hd
                    refine rg_val (v := .int .i64 je) (w' := W) rfl (by go_simp) ?_
                    refine ⟨ε, ?_, ?_⟩
                    · simp only [Act.put, List.setIfInBounds_toArray, List.set_cons_zero, List.set_cons_succ]; rfl
                    · exact hI
                  case s10 =>
                    refine rg_step rfl ?_
                    rintro l a W ⟨ε, rfl, hI⟩ hl hd
                    clear hd
                    have h11 : l 11 = false := by
                      cases hx : l 11 with
                      | false => rfl
                      | true => have := hI.2.2 hx; rw [hl] at this; cases this
                    refine rg_val (v := .pointer (some ⟨W.heap.size, 0, none⟩)) (w' := W.alloc (.cells #[.string ⟨#[]⟩, .int .u64 0, .int .u64 0] 46)) rfl (by go_simp) ?_
                    refine ⟨W.heap.size, ?_, ?_⟩
                    · simp only [Act.put, List.setIfInBounds_toArray, List.set_cons_zero, List.set_cons_succ]; rfl
                    · exact ⟨below_alloc hI.1 _, fun _ => ⟨hI.1.size, by rw [if_neg (show ¬ upd l 10 11 = true from by rw [show upd l 10 11 = l 11 from rfl, h11]; decide)]; exact blk_new W _⟩, fun _ => rfl⟩
                  case s11 =>
                    refine rg_step rfl ?_
                    rintro l a W ⟨ε, rfl, hI⟩ hl hd
                    have d8 := hd 8 (by decide)
                    have d10 := hd 10 (by decide)
                    clear hd
                    have hz := hI.2.1 d10
                    rw [if_neg (by rw [hl]; decide)] at hz
                    have z0 := blk_cell hz.2 0
                    have z1 := blk_cell hz.2 1
                    have z2 := blk_cell hz.2 2
                    have zf := fun i => blk_frozen hz.2 i
                    simp at z0 z1 z2
                    refine rg_skip rfl (by go_simp; rfl) ?_
                    refine ⟨ε, ?_, ?_⟩
                    · simp only [Act.put, List.setIfInBounds_toArray, List.set_cons_zero, List.set_cons_succ]; rfl
                    · exact ⟨below_set (below_set (below_set hI.1 hz.1) hz.1) hz.1, fun _ => ⟨hz.1, by rw [if_pos (show upd l 11 11 = true from rfl)]; exact blk_put (blk_put (blk_put hz.2 0 _ rfl) 1 _ rfl) 2 _ rfl⟩, fun _ => d10⟩
                  case s12 =>
                    refine rg_step rfl ?_
                    rintro l a W ⟨ε, rfl, hI⟩ hl hd
                    have d9 := hd 9 (by decide)
                    clear hd
                    refine rg_val (v := .int .i64 je) (w' := W) rfl (by go_simp) ?_
                    refine ⟨ε, ?_, ?_⟩
                    · simp only [Act.put, List.setIfInBounds_toArray, List.set_cons_zero, List.set_cons_succ]; rfl
                    · exact hI
                case hend =>
                  rintro l a W ⟨ε, rfl, hI⟩ hall
                  have e0 := hall 0 (by decide)
                  have e1 := hall 1 (by decide)
                  have e2 := hall 2 (by decide)
                  have e3 := hall 3 (by decide)
                  have e4 := hall 4 (by decide)
                  have e5 := hall 5 (by decide)
                  have e6 := hall 6 (by decide)
                  have e7 := hall 7 (by decide)
                  have e8 := hall 8 (by decide)
                  have e9 := hall 9 (by decide)
                  have e10 := hall 10 (by decide)
                  have e11 := hall 11 (by decide)
                  have e12 := hall 12 (by decide)
                  clear hall
                  have hn := hI.2.1 e10
                  rw [if_pos e11] at hn
                  have hB := hI.1
                  simp only [e0, e1, e2, e3, e4, e5, e6, e7, e8, e9, e10, e11, e12, sel_true]
                  clear e0 e1 e2 e3 e4 e5 e6 e7 e8 e9 e10 e11 e12
                  clear hI
                  have HS15 := aM' (HSC.out.below hB)
                  have HE := aM' hn.2
                  clear hn hB
                  rcases HJE.out with ⟨rfl, hj, hjk⟩ | ⟨rfl, hs10⟩
                  · have q0 := blk_cell HE.out 0
                    have q1 := blk_cell HE.out 1
                    have q2 := blk_cell HE.out 2
                    simp at q0 q1 q2
                    have HNX := aM' (And.intro hj hjk)
                    clear hj hjk
                    go_wp2_with (at_builtin; refine wpList_append_own _ rfl _ _ 43 rfl (w.heap.size + 1) 46 i0 (.agg #[(.string ⟨#[]⟩), (.int .u64 0), (.int .u64 0)]) 3 32 Tryd.underlying43 hi hz0 hz1 hz2 rfl (by decide) (.slice (some ⟨g7, 0, none⟩) (i + 1) c7) (i + 1) _ rfl (ownB HS15.out.o (below_alloc (Below.refl _ _) (.cells (nodeA jn) 46))) ⟨W.heap.size, 0, none⟩ 1 1 [.string jn.f0, .int .u64 jn.f1.f0, .int .u64 jn.f1.f1] rfl rfl ?c2 ?c3 ?c4 ?c5 ?c6 ?_)
                    case c3 => exact ⟨rfl, rfl, rfl⟩
                    case c4 => unfold maxLen; omega
                    case c5 => omega
                    case c6 => have := HS15.out.b.size; omega
                    intro v' w' hown hgr hnil
                    have HS' := aM' (StL.next (HS15.out.below (below_alloc (Below.refl _ _) (.cells (nodeA jn) 46))) HT.out hgr hown HNX.out.1 HNX.out.2)
                    clear hown hgr hnil q0 q1 q2
                    go_wp2
                    go_roundw
                    case rel => exact ⟨i + 1, q / 2, by go_num, by go_num, ⟨⟨by omega, by rw [HI.out.2, Nat.pow_succ, Nat.div_div_eq_div_mul]⟩⟩, HS'⟩
                    case measure => simp [intOf]; omega
                  · have HER := aM' hs10
                    have HBE := aM' HS15.out.b
                    clear hs10
                    go_wp2
                    go_ret
                    exact SetPost.err HER.out (by decide) HT.out HBE.out
          · obtain rfl : i = K := by have := HI.out.1; omega
            have b1 : decide ((i : Int) < (i : Int)) = false := decide_eq_false (by omega)
            have b2 : decide (i < i) = false := decide_eq_false (by omega)
            have HS0 := aM' (StL.zero HS.out HT.out HKL.out HKK.out HLT.out HX.out HML.out)
            obtain ⟨cs, hcs, hcz⟩ := ownBlk HS.out.t.hl
            have hcz2 : p * 5 + 4 < cs.size := by have := HLT.out; have : ls.length * 5 ≤ cs.size := hcz; omega
            have c0 := blk_cell hcs (p * 5)
            have c1 := blk_cell hcs (p * 5 + 1)
            have c2 := blk_cell hcs (p * 5 + 2)
            have c3 := blk_cell hcs (p * 5 + 3)
            have c4 := blk_cell hcs (p * 5 + 4)
            have cf := fun i => blk_frozen hcs i
            rw [Array.getElem?_eq_getElem (by omega)] at c0 c1 c2 c3 c4
            generalize cs[p * 5]'_ = v0 at c0
            generalize cs[p * 5 + 1]'_ = v1 at c1
            generalize cs[p * 5 + 2]'_ = v2 at c2
            generalize cs[p * 5 + 3]'_ = v3 at c3
            generalize cs[p * 5 + 4]'_ = v4 at c4
            have x0 := blk_cell HS.out.l 0
            have x1 := blk_cell HS.out.l 1
            have x2 := blk_cell HS.out.l 2
            have x3 := blk_cell HS.out.l 3
            have x4 := blk_cell HS.out.l 4
            simp at x0 x1 x2 x3 x4
            have t1 : wr.cell? ⟨ta, 1, none⟩ = some (.slice (some ⟨gl, 0, none⟩) ls.length cl) := blk_cell HS.out.t.ht 1
            have hpl : (p : Int) < (ls.length : Int) := by have := HLT.out; omega
            have HP2 := aM' (StP.start HS.out HT.out HLT.out)
            clear hcs hcz hcz2
            go_upto_region 21 with (fail)
            clear b1 b2
            go_still_tail 7, (by kernel_rfl)
            change wpList _ _ _ _ _ wr.drew
            clear x0 x1 x2 x3 x4 t1
            go_upto_region 22 with (fail)
            obtain ⟨V2, hV2⟩ : ∃ V2, V2 = (((((wr.setCell ⟨gl, p * 5, none⟩ (.bool x.f0)).setCell ⟨gl, p * 5 + 1, none⟩ (.string x.f1)).setCell ⟨gl, p * 5 + 2, none⟩ (.string x.f2)).setCell ⟨gl, p * 5 + 3, none⟩ (.int .u64 x.f3.f0)).setCell ⟨gl, p * 5 + 4, none⟩ (.int .u64 x.f3.f1)).drew := ⟨_, rfl⟩
            rw [← hV2] at HP2
            rw [← hV2]
            have HWK := aM' HS.out.k
            have HRL2 := aM' (show (treeT wd (ls.set p x)).rows.length = i + 1 by
              have h : (treeT wd (ls.set p x)).rows = levelsV wd (ls.set p x).length.log2 ((ls.set p x).map (leafNodeI wd)) := rfl
              have h2 := HRL.out
              have h3 : (treeT wd ls).rows = levelsV wd ls.length.log2 (ls.map (leafNodeI wd)) := rfl
              rw [h3, levelsV_len] at h2
              rw [h, levelsV_len, List.length_set]; exact h2)
            clear hV2 c0 c1 c2 c3 c4 cf hpl HS
            refine wp_forget (fun y => ({ tmps := List.toArray (.pointer (some ⟨ta, 0, none⟩) :: .int .u64 (p : Int) :: leafV x :: y 3 :: y 4 :: .pointer (some ⟨w.heap.size, 0, none⟩) :: y 6 :: .slice (some ⟨g7, 0, none⟩) (i + 1) c7 :: y 8 :: y 9 :: y 10 :: y 11 :: y 12 :: y 13 :: y 14 :: y 15 :: y 16 :: y 17 :: y 18 :: y 19 :: y 20 :: y 21 :: y 22 :: y 23 :: y 24 :: y 25 :: y 26 :: y 27 :: y 28 :: y 29 :: y 30 :: y 31 :: y 32 :: y 33 :: y 34 :: y 35 :: y 36 :: y 37 :: y 38 :: y 39 :: y 40 :: y 41 :: y 42 :: y 43 :: y 44 :: y 45 :: y 46 :: y 47 :: y 48 :: y 49 :: y 50 :: y 51 :: y 52 :: y 53 :: y 54 :: y 55 :: y 56 :: y 57 :: y 58 :: y 59 :: y 60 :: y 61 :: y 62 :: y 63 :: y 64 :: y 65 :: y 66 :: y 67 :: y 68 :: y 69 :: y 70 :: y 71 :: y 72 :: y 73 :: y 74 :: y 75 :: y 76 :: y 77 :: y 78 :: y 79 :: y 80 :: y 81 :: y 82 :: y 83 :: y 84 :: y 85 :: y 86 :: y 87 :: y 88 :: y 89 :: y 90 :: y 91 :: y 92 :: y 93 :: y 94 :: y 95 :: y 96 :: y 97 :: y 98 :: y 99 :: y 100 :: y 101 :: y 102 :: y 103 :: y 104 :: y 105 :: y 106 :: y 107 :: y 108 :: y 109 :: y 110 :: y 111 :: y 112 :: y 113 :: y 114 :: y 115 :: y 116 :: y 117 :: y 118 :: []), defers := [] } : Act)) rfl ?_
            intro y
            go_wp2
            go_loopw [99] (fun v99 wr => ∃ j : Nat, v99 = .int .i64 (j : Int) ∧ Aside0 (j ≤ i + 1) ∧ Aside0 (StP base ta gl cl (.slice (some ⟨gv, 0, none⟩) (i + 1) cv) gs wd ls p x w i (.slice (some ⟨g7, 0, none⟩) (i + 1) c7) j wr)) (fun v99 _ => i + 1 - (intOf v99).toNat)
            case atStart => exact ⟨0, rfl, ⟨Nat.zero_le _⟩, HP2⟩
            case round =>
              obtain ⟨j, rfl, HJ, HPJ⟩ := hrel
              by_cases hlt : j < i + 1
              · have b1 : decide ((j : Int) < ((i + 1 : Nat) : Int)) = true := decide_eq_true (by omega)
                have b2 : decide (j < i + 1) = true := decide_eq_true hlt
                have hrow : (rowsM wd ls p x j)[j]? = some (upV wd j (ls.map (leafNodeI wd))) := by
                  rw [rowsM_get HRL.out HRL2.out hlt]
                  exact levelsV_get wd _ j _ (by have := HRL.out; have h : (treeT wd ls).rows = levelsV wd ls.length.log2 (ls.map (leafNodeI wd)) := rfl; rw [h, levelsV_len] at this; omega)
                have b3 : decide ((j : Int) < (i : Int) + 1) = true := decide_eq_true (by omega)
                obtain ⟨pr, hpr, l0, l1, hrc, hrd, hpm, cs, hpb, hpc⟩ := TreeOwn.level (T := ⟨wd, ls.set p x, rowsM wd ls p x j⟩) (cv := cv) (by rw [rowsM_len HRL.out HRL2.out (by omega)]; exact HPJ.out.t) hrow
                have hq0 := div_lt (by rw [← HKL.out]; exact HLT.out) (show j ≤ i by omega)
                have hrl : (upV wd j (ls.map (leafNodeI wd))).length = 2 ^ (i - j) := upV_len2 (by rw [List.length_map]; exact HKL.out) j (by omega)
                obtain ⟨s, hs⟩ : ∃ s, s = p / 2 ^ j := ⟨_, rfl⟩
                have hsl : s < (upV wd j (ls.map (leafNodeI wd))).length := by rw [hs, hrl]; exact hq0
                obtain ⟨wn, hwn⟩ : ∃ n, n = wayV wd (ls.map (leafNodeI wd)) p (leafNodeI wd x) j := ⟨_, rfl⟩
                have hset : (treeT wd (ls.set p x)).rows[j]? = some ((upV wd j (ls.map (leafNodeI wd))).set s wn) := by
                  have h : (treeT wd (ls.set p x)).rows = levelsV wd (ls.set p x).length.log2 ((ls.set p x).map (leafNodeI wd)) := rfl
                  have h2 := HRL2.out
                  rw [h, levelsV_len] at h2
                  rw [h, List.map_set, show (ls.set p x).length.log2 = i by omega, hs, hwn]
                  exact levelsV_set wd (by rw [List.length_map]; exact HKL.out) (by rw [← HKL.out]; exact HLT.out) _ j (by omega)
                have hwr : (waysL wd ls p x (i + 1))[j]? = some wn := by
                  unfold waysL
                  rw [List.getElem?_map, List.getElem?_range (by omega), hwn]; rfl
                have hsh : (p : Int) / 2 ^ j = (s : Int) := by rw [hs]; simp
                obtain ⟨r, hr⟩ : ∃ r, r = upV wd j (ls.map (leafNodeI wd)) := ⟨_, rfl⟩
                rw [← hr] at hrow l0 hrc hrd hpc hsl hset
                have hcs := HPJ.out.o.cells (g := g7) rfl
                have ea : ∀ n, (⟨g7, 0, none⟩ : Addr).add n = ⟨g7, n, none⟩ := fun n => by unfold Addr.add; split <;> simp_all
                have w0 := cellsN_get _ j 0 wn hwr (by decide)
                have w1' := cellsN_get _ j 1 wn hwr (by decide)
                have w2' := cellsN_get _ j 2 wn hwr (by decide)
                have W0 := hcs _ _ w0
                have W1 := hcs _ _ w1'
                have W2' := hcs _ _ w2'
                rw [ea] at W0 W1 W2'
                have d0 : wr.cell? ⟨g7, j * 3, none⟩ = some (.string wn.f0) := W0
                have d1 : wr.cell? ⟨g7, j * 3 + 1, none⟩ = some (.int .u64 wn.f1.f0) := W1
                have d2 : wr.cell? ⟨g7, j * 3 + 2, none⟩ = some (.int .u64 wn.f1.f1) := W2'
                obtain ⟨W3, hW3⟩ : ∃ V, V = wr.alloc (.cells #[.string wn.f0, .int .u64 wn.f1.f0, .int .u64 wn.f1.f1] 46) := ⟨_, rfl⟩
                have hb3 : Below wr.heap.size wr W3 := by rw [hW3]; exact below_alloc (Below.refl _ _) _
                have z := hW3 ▸ blk_new wr (.cells #[.string wn.f0, .int .u64 wn.f1.f0, .int .u64 wn.f1.f1] 46)
                obtain ⟨g16, hg16⟩ : ∃ g, g = wr.heap.size := ⟨_, rfl⟩
                rw [← hg16] at z
                have HNEW := aM' ((HPJ.out.below hb3).put HT.out HRL.out HRL2.out hlt hpr hrow hsl hset)
                have hpb3 := blk_below hpb hb3
                have hsz : s * 3 + 2 < cs.size := by omega
                have v0 := blk_cell hpb3 (s * 3)
                have v1 := blk_cell hpb3 (s * 3 + 1)
                have v2 := blk_cell hpb3 (s * 3 + 2)
                have vf := fun i => blk_frozen hpb3 i
                rw [Array.getElem?_eq_getElem (by omega)] at v0 v1 v2
                generalize cs[s * 3]'_ = u0 at v0
                generalize cs[s * 3 + 1]'_ = u1 at v1
                generalize cs[s * 3 + 2]'_ = u2 at v2
                have k0 := pw_cell_below hb3 l0
                have k1 := pw_cell_below hb3 l1
                have n0 := blk_cell z 0
                have n1 := blk_cell z 1
                have n2 := blk_cell z 2
                simp at n0 n1 n2
                have t2 : W3.cell? ⟨ta, 2, none⟩ = some (.slice (some ⟨gv, 0, none⟩) (i + 1) cv) := pw_cell_below hb3 (blk_cell HPJ.out.t.ht 2)
                have hsi : (s : Int) < (r.length : Int) := by omega
                have k3 : (j : Int) < (i : Int) + 1 := by omega
                clear hq0 hrl hs hwn hset hwr hr hcs ea w0 w1' w2' W0 W1 W2' hpr hrow hpm hpb hpc hpb3 hsz hrd hb3 z l0 l1
                go_upto_region 25 with (fail)
                rw [← hg16, ← hW3]
                clear hW3 hg16 d0 d1 d2
                go_still_tail 14, (by kernel_rfl)
                change wpList _ _ _ _ _ W3.drew
                go_wp2
                go_roundw
                case rel => exact ⟨j + 1, by go_num, ⟨by omega⟩, ⟨HNEW.out.below (below_drew (Below.refl _ _))⟩⟩
                case measure => simp [intOf]; omega
              · obtain rfl : j = i + 1 := by have := HJ.out; omega
                have b1 : decide (((i + 1 : Nat) : Int) < (i : Int) + 1) = false := decide_eq_false (by omega)
                have b3 : decide ((i : Int) + 1 < (i : Int) + 1) = false := decide_eq_false (by omega)
                have b2 : decide (i + 1 < i + 1) = false := decide_eq_false hlt
                go_wp2
                go_ret
                exact HPJ.out.done HRL.out HRL2.out HS0.out
end Go.Proofs.YtfcodmdckcihmaaDoor.P
namespace Go.Proofs.YtfcodmdckcihmaaDoor.P
open Go.RowKit Go.Proofs.YtfcodmdckcihmaaDoorW.PrintWords Go.Proofs.YtfcodmdckcihmaaDoorW.PrintLast Go.Proofs.YtfcodmdckcihmaaDoorW.PrintMore
set_option linter.unusedVariables false
set_option linter.unusedSimpArgs false
set_option linter.unnecessarySimpa false
theorem litL_C {W : World} {g : Nat} {cur : Array Value} {xs : List SLeaf} (hg : W.heap[g]? = some (.cells cur 36 (0, 0))) (hc : cur.toList = cellsL xs) (hl : xs.length ≤ 1000) : Kd.C kLeaf W (some ⟨g, 0, none⟩) xs.length xs := by
 have hs : cur.size = xs.length * 5 := by rw [← cellsL_len, ← hc]; simp
 exact (ownLeaves_C (base := 0) (cap := xs.length) ⟨cellsL_len xs, .inr ⟨g, xs.length, cur, rfl, Nat.zero_le _, hg, Nat.le_refl _, by unfold maxLen; omega, hs, by rw [← hc, List.take_of_length_le (by simp; omega)]⟩⟩).2.2
def acc15 (id : ByteArray) (n : Int) : SLeaf := ⟨false, id, ⟨#[]⟩, ⟨0, n⟩⟩
set_option maxRecDepth 100000 in
theorem account15.calls (id : ByteArray) (n : Int) (w : World) : Calls Tryd.prog 66 #[.string id, .int .u64 n] w fun e w' => e = .returned (.agg #[.bool false, .string id, .string ⟨#[]⟩, .int .u64 0, .int .u64 n]) ∧ Below w.heap.size w w' := by
 have hu := Tryd.underlying36
 have hu2 := Tryd.underlying34
 have z := blk_new w (.cells #[.bool false, .string ⟨#[]⟩, .string ⟨#[]⟩, .int .u64 0, .int .u64 0] 36)
 go_enter Tryd.func66, Tryd.ntmps66
 go_wp2
 refine bodyPost_ret (v := .agg #[.bool false, .string id, .string ⟨#[]⟩, .int .u64 0, .int .u64 n]) ?_ rfl ⟨rfl, ?_⟩
 ·
  simp [results, Tryd.results66, go_sem, hu]
 ·
  repeat (with_reducible first | exact Below.refl _ _ | apply below_alloc | refine below_set ?_ (by (try dsimp only); omega))
def l15 : List SLeaf := [acc15 ⟨#[97]⟩ 1, acc15 ⟨#[98]⟩ 2, acc15 ⟨#[99]⟩ 3, acc15 ⟨#[100]⟩ 4]
def l15b : List SLeaf := [acc15 ⟨#[97]⟩ 1, acc15 ⟨#[98]⟩ 2, acc15 ⟨#[99]⟩ 3]
def l15c : List SLeaf := [acc15 ⟨#[]⟩ 1]
theorem acc_ok (id : ByteArray) (n : Int) (hid : id.size ≤ 1000000) (hn : 0 ≤ n ∧ n < 18446744073709551616) : OkL (acc15 id n) := ⟨hid, by show (0 : Nat) ≤ _; omega, ⟨by show (0 : Int) ≤ 0 ∧ (0 : Int) < 18446744073709551616; decide, hn⟩⟩
theorem l15_ok : ∀ x ∈ l15, OkL x := by
 intro x hx
 simp only [l15, List.mem_cons, List.not_mem_nil, or_false] at hx
 rcases hx with rfl | rfl | rfl | rfl <;> exact acc_ok _ _ (by decide) (by decide)
theorem l15b_ok : ∀ x ∈ l15b, OkL x := fun x hx => l15_ok x (by simp only [l15, l15b, List.mem_cons, List.not_mem_nil, or_false] at hx ⊢; rcases hx with h | h | h <;> simp [h])
theorem l15c_ok : ∀ x ∈ l15c, OkL x := by
 intro x hx
 simp only [l15c, List.mem_cons, List.not_mem_nil, or_false] at hx
 rw [hx]; exact acc_ok _ _ (by decide) (by decide)
theorem l15_new : newI 3 l15 = 0 := by decide +kernel
theorem l15b_new : newI 3 l15b = 120 := by decide +kernel
theorem l15c_new : newI 3 l15c = 130 := by decide +kernel
theorem l15_nodes : (nodeAtI (treeT 3 l15) 1 0).1.f1.f1 = 3 ∧ (nodeAtI (treeT 3 l15) 1 0).2 = true ∧ (nodeAtI (treeT 3 l15) 1 1).1.f1.f1 = 7 ∧ (nodeAtI (treeT 3 l15) 1 1).2 = true ∧ (nodeAtI (treeT 3 l15) 1 2).2 = false := by decide +kernel
theorem l15_root : (topI (treeT 3 l15)).f1.f1 = 10 ∧ ((treeT 3 l15).rows.length : Int) - 1 = 2 := by decide +kernel
theorem l15_set : setI 3 l15 1 (acc15 ⟨#[98]⟩ 5) = 0 ∧ (topI (treeT 3 (setL 3 l15 1 (acc15 ⟨#[98]⟩ 5)))).f1.f1 = 13 := by decide +kernel
theorem top_size {wd : Int} {ls : List SLeaf} (hk : NewOk wd ls) : ((topI (treeT wd ls)).f0.size : Int) = wd := by
 rw [levels_top]
 have hp : (ls.map (leafNodeI wd)).length = 2 ^ ls.length.log2 := by rw [List.length_map]; exact hk.p
 have h := up_ok hp hk.k hk.t ls.length.log2 (Nat.le_refl _)
 have h1 := h.1
 rw [Nat.sub_self] at h1
 match e : upV wd ls.length.log2 (ls.map (leafNodeI wd)), h1 with
 | [y], _ => exact (nodeOf_w (h.2.1 y (by rw [e]; simp)).of).2.2
theorem setL_ok {wd : Int} {l : List SLeaf} {p : Nat} {x : SLeaf} (h : ∀ y ∈ l, OkL y) (hx : OkL x) : ∀ y ∈ setL wd l p x, OkL y := by
 intro y hy
 unfold setL at hy
 split at hy
 ·
  rcases List.mem_or_eq_of_mem_set hy with h1 | rfl
  ·
   exact h y h1
  ·
   exact hx
 ·
  exact h y hy
theorem rootTotal (a : ByteArray) (b c d : Int) (W : World) : (Instr.field 41 (.agg #[.string a, .int .u64 b, .int .u64 c, .int .i64 d]) 1).run Tryd.prog W = .ok (.agg #[.int .u64 b, .int .u64 c]) W := by kernel_rfl
theorem u128Lo (b c : Int) (W : World) : (Instr.field 34 (.agg #[.int .u64 b, .int .u64 c]) 1).run Tryd.prog W = .ok (.int .u64 c) W := by kernel_rfl
set_option maxRecDepth 100000 in
set_option maxHeartbeats 4000000 in
theorem awake15.calls (w : World) (hK : LaidT w) : Calls Tryd.prog 26 #[] w fun e w' => e = .returned (.bool true) ∧ Below w.heap.size w w' := by
 have HK := aM' hK
 clear hK
 have hu4 := Tryd.underlying46
 have hu5 := Tryd.underlying41
 have hu6 := Tryd.underlying34
 have HB0 := aM' (Below.refl w.heap.size w)
 go_enter Tryd.func26, Tryd.ntmps26
 go_wp2_with fail
 refine (account15.calls ⟨#[97]⟩ 1 _).mono ?_
 rintro e w1 ⟨rfl, hb⟩
 have HB1 := aM' (HB0.out.trans (hb.mono HB0.out.size))
 clear hb
 go_wp2_with fail
 refine (account15.calls ⟨#[98]⟩ 2 _).mono ?_
 rintro e w2 ⟨rfl, hb⟩
 have HB2 := aM' (HB1.out.trans (hb.mono HB1.out.size))
 clear hb
 go_wp2_with fail
 refine (account15.calls ⟨#[99]⟩ 3 _).mono ?_
 rintro e w3 ⟨rfl, hb⟩
 have HB3 := aM' (HB2.out.trans (hb.mono HB2.out.size))
 clear hb
 go_wp2_with fail
 refine (account15.calls ⟨#[100]⟩ 4 _).mono ?_
 rintro e w4 ⟨rfl, hb⟩
 have HB4 := aM' (HB3.out.trans (hb.mono HB3.out.size))
 clear hb
 obtain ⟨V5, hV5⟩ : ∃ V, V = w4.alloc (.cells #[.bool false, .string ⟨#[97]⟩, .string ⟨#[]⟩, .int .u64 0, .int .u64 1, .bool false, .string ⟨#[98]⟩, .string ⟨#[]⟩, .int .u64 0, .int .u64 2, .bool false, .string ⟨#[99]⟩, .string ⟨#[]⟩, .int .u64 0, .int .u64 3, .bool false, .string ⟨#[100]⟩, .string ⟨#[]⟩, .int .u64 0, .int .u64 4] 36) := ⟨_, rfl⟩
 have HBV := aM' (show Below w.heap.size w V5 by rw [hV5]; exact below_alloc HB4.out _)
 have hz := hV5 ▸ blk_new w4 (.cells #[.bool false, .string ⟨#[97]⟩, .string ⟨#[]⟩, .int .u64 0, .int .u64 1, .bool false, .string ⟨#[98]⟩, .string ⟨#[]⟩, .int .u64 0, .int .u64 2, .bool false, .string ⟨#[99]⟩, .string ⟨#[]⟩, .int .u64 0, .int .u64 3, .bool false, .string ⟨#[100]⟩, .string ⟨#[]⟩, .int .u64 0, .int .u64 4] 36)
 have hC := litL_C (xs := l15) hz rfl (by decide)
 have HC := aM' hC
 go_wp2_with fail
 simp only [← hV5]
 clear hz hC hV5
 refine (treeNew.calls 3 (some ⟨w4.heap.size, 0, none⟩) 4 l15 V5 (HK.out.below HBV.out) HC.out (by decide) (by decide) l15_ok).mono ?_
 rintro e w5 ⟨hb, h⟩
 have HB5 := aM' (HBV.out.trans (hb.mono HBV.out.size))
 rcases h with ⟨-, a, gl, cl, VV, gs, rfl, hO⟩ | ⟨hn, -⟩
 case inr => exact absurd l15_new hn
 have HBASE := aM' HBV.out.size
 have HO := aM' hO
 clear hb hO HC HBV
 go_wp2_with fail
 refine (account15.calls ⟨#[97]⟩ 1 _).mono ?_
 rintro e w6 ⟨rfl, hb⟩
 have HB6 := aM' (HB5.out.trans (hb.mono HB5.out.size))
 have HO := aM' (HO.out.keep hb)
 clear hb
 go_wp2_with fail
 refine (account15.calls ⟨#[98]⟩ 2 _).mono ?_
 rintro e w7 ⟨rfl, hb⟩
 have HB7 := aM' (HB6.out.trans (hb.mono HB6.out.size))
 have HO := aM' (HO.out.keep hb)
 clear hb
 go_wp2_with fail
 refine (account15.calls ⟨#[99]⟩ 3 _).mono ?_
 rintro e w8 ⟨rfl, hb⟩
 have HB8 := aM' (HB7.out.trans (hb.mono HB7.out.size))
 have HO := aM' (HO.out.keep hb)
 clear hb
 obtain ⟨V9, hV9⟩ : ∃ V, V = w8.alloc (.cells #[.bool false, .string ⟨#[97]⟩, .string ⟨#[]⟩, .int .u64 0, .int .u64 1, .bool false, .string ⟨#[98]⟩, .string ⟨#[]⟩, .int .u64 0, .int .u64 2, .bool false, .string ⟨#[99]⟩, .string ⟨#[]⟩, .int .u64 0, .int .u64 3] 36) := ⟨_, rfl⟩
 have HBV := aM' (show Below w.heap.size w V9 by rw [hV9]; exact below_alloc HB8.out _)
 have hz := hV9 ▸ blk_new w8 (.cells #[.bool false, .string ⟨#[97]⟩, .string ⟨#[]⟩, .int .u64 0, .int .u64 1, .bool false, .string ⟨#[98]⟩, .string ⟨#[]⟩, .int .u64 0, .int .u64 2, .bool false, .string ⟨#[99]⟩, .string ⟨#[]⟩, .int .u64 0, .int .u64 3] 36)
 have hC := litL_C (xs := l15b) hz rfl (by decide)
 have HO := aM' (HO.out.keep (show Below w8.heap.size w8 V9 by rw [hV9]; exact below_alloc (Below.refl _ _) _))
 have HC := aM' hC
 go_wp2_with fail
 simp only [← hV9]
 clear hz hC hV9
 refine (treeNew.calls 3 (some ⟨w8.heap.size, 0, none⟩) 3 l15b V9 (HK.out.below HBV.out) HC.out (by decide) (by decide) l15b_ok).mono ?_
 rintro e w9 ⟨hb, h⟩
 have HB9 := aM' (HBV.out.trans (hb.mono HBV.out.size))
 have HO := aM' (HO.out.keep hb)
 rcases h with ⟨hn, -⟩ | ⟨-, rfl⟩
 case inl => exact absurd (l15b_new.symm.trans hn) (by decide)
 rw [l15b_new]
 clear hb HC HBV
 go_wp2_with fail
 refine (account15.calls ⟨#[]⟩ 1 _).mono ?_
 rintro e w10 ⟨rfl, hb⟩
 have HB10 := aM' (HB9.out.trans (hb.mono HB9.out.size))
 have HO := aM' (HO.out.keep hb)
 clear hb
 obtain ⟨V11, hV11⟩ : ∃ V, V = w10.alloc (.cells #[.bool false, .string ⟨#[]⟩, .string ⟨#[]⟩, .int .u64 0, .int .u64 1] 36) := ⟨_, rfl⟩
 have HBV := aM' (show Below w.heap.size w V11 by rw [hV11]; exact below_alloc HB10.out _)
 have hz := hV11 ▸ blk_new w10 (.cells #[.bool false, .string ⟨#[]⟩, .string ⟨#[]⟩, .int .u64 0, .int .u64 1] 36)
 have hC := litL_C (xs := l15c) hz rfl (by decide)
 have HO := aM' (HO.out.keep (show Below w10.heap.size w10 V11 by rw [hV11]; exact below_alloc (Below.refl _ _) _))
 have HC := aM' hC
 go_wp2_with fail
 simp only [← hV11]
 clear hz hC hV11
 refine (treeNew.calls 3 (some ⟨w10.heap.size, 0, none⟩) 1 l15c V11 (HK.out.below HBV.out) HC.out (by decide) (by decide) l15c_ok).mono ?_
 rintro e w11 ⟨hb, h⟩
 have HB11 := aM' (HBV.out.trans (hb.mono HBV.out.size))
 have HO := aM' (HO.out.keep hb)
 rcases h with ⟨hn, -⟩ | ⟨-, rfl⟩
 case inl => exact absurd (l15c_new.symm.trans hn) (by decide)
 rw [l15c_new]
 clear hb HC HBV
 obtain ⟨hkk, hlen⟩ : NewOk 3 l15 ∧ l15.length ≤ 1024 := ⟨newI_zero l15_new l15_ok, by decide⟩
 have HKK := aM' hkk
 have HLN := aM' hlen
 clear hkk hlen
 have q12 := tNode.calls a _ 1 0 w11 (HO.out.readT HKK.out HLN.out) (by decide)
 obtain ⟨x0, hx0⟩ : ∃ x, x = (nodeAtI (treeT 3 l15) 1 0).1 := ⟨_, rfl⟩
 rw [← hx0, l15_nodes.2.1] at q12
 have HX0 := aM' hx0
 clear hx0
 have Q := aM' q12
 clear q12
 go_wp2_with fail
 refine Q.out.mono ?_
 rintro e w12 ⟨rfl, hb⟩
 have HB12 := aM' (HB11.out.trans (hb.mono HB11.out.size))
 have HO := aM' (HO.out.keep hb)
 clear hb Q
 obtain ⟨gN0, hg⟩ : ∃ g, g = w12.heap.size := ⟨_, rfl⟩
 obtain ⟨w13, hw⟩ : ∃ V, V = w12.alloc (.cells #[.string x0.f0, .int .u64 x0.f1.f0, .int .u64 x0.f1.f1] 46) := ⟨_, rfl⟩
 have hb : Below w12.heap.size w12 w13 := by rw [hw]; exact below_alloc (Below.refl _ _) _
 have HB13 := aM' (HB12.out.trans (hb.mono HB12.out.size))
 have HO := aM' (HO.out.keep hb)
 have HN0 := aM' (show w13.heap[gN0]? = some (.cells #[.string x0.f0, .int .u64 x0.f1.f0, .int .u64 x0.f1.f1] 46 (0, 0)) by rw [hw, hg]; exact blk_new _ _)
 go_upto_region 7 with (fail)
 simp only [← hg, ← hw]
 clear hg hw hb
 have q14 := tNode.calls a _ 1 1 w13 (HO.out.readT HKK.out HLN.out) (by decide)
 obtain ⟨x1, hx1⟩ : ∃ x, x = (nodeAtI (treeT 3 l15) 1 1).1 := ⟨_, rfl⟩
 rw [← hx1, l15_nodes.2.2.2.1] at q14
 have HX1 := aM' hx1
 clear hx1
 have Q := aM' q14
 clear q14
 go_wp2_with fail
 refine Q.out.mono ?_
 rintro e w14 ⟨rfl, hb⟩
 have HB14 := aM' (HB13.out.trans (hb.mono HB13.out.size))
 have HO := aM' (HO.out.keep hb)
 have HN0 := aM' (blk_below HN0.out hb)
 clear hb Q
 obtain ⟨gN1, hg⟩ : ∃ g, g = w14.heap.size := ⟨_, rfl⟩
 obtain ⟨w15, hw⟩ : ∃ V, V = w14.alloc (.cells #[.string x1.f0, .int .u64 x1.f1.f0, .int .u64 x1.f1.f1] 46) := ⟨_, rfl⟩
 have hb : Below w14.heap.size w14 w15 := by rw [hw]; exact below_alloc (Below.refl _ _) _
 have HB15 := aM' (HB14.out.trans (hb.mono HB14.out.size))
 have HO := aM' (HO.out.keep hb)
 have HN0 := aM' (blk_below HN0.out hb)
 have HN1 := aM' (show w15.heap[gN1]? = some (.cells #[.string x1.f0, .int .u64 x1.f1.f0, .int .u64 x1.f1.f1] 46 (0, 0)) by rw [hw, hg]; exact blk_new _ _)
 go_upto_region 8 with (fail)
 simp only [← hg, ← hw]
 clear hg hw hb
 have q16 := tNode.calls a _ 1 2 w15 (HO.out.readT HKK.out HLN.out) (by decide)
 obtain ⟨x2, hx2⟩ : ∃ x, x = (nodeAtI (treeT 3 l15) 1 2).1 := ⟨_, rfl⟩
 rw [← hx2, l15_nodes.2.2.2.2] at q16
 have HX2 := aM' hx2
 clear hx2
 have Q := aM' q16
 clear q16
 go_wp2_with fail
 refine Q.out.mono ?_
 rintro e w16 ⟨rfl, hb⟩
 have HB16 := aM' (HB15.out.trans (hb.mono HB15.out.size))
 have HO := aM' (HO.out.keep hb)
 have HN0 := aM' (blk_below HN0.out hb)
 have HN1 := aM' (blk_below HN1.out hb)
 clear hb Q
 obtain ⟨gN2, hg⟩ : ∃ g, g = w16.heap.size := ⟨_, rfl⟩
 obtain ⟨w17, hw⟩ : ∃ V, V = w16.alloc (.cells #[.string x2.f0, .int .u64 x2.f1.f0, .int .u64 x2.f1.f1] 46) := ⟨_, rfl⟩
 have hb : Below w16.heap.size w16 w17 := by rw [hw]; exact below_alloc (Below.refl _ _) _
 have HB17 := aM' (HB16.out.trans (hb.mono HB16.out.size))
 have HO := aM' (HO.out.keep hb)
 have HN0 := aM' (blk_below HN0.out hb)
 have HN1 := aM' (blk_below HN1.out hb)
 have HN2 := aM' (show w17.heap[gN2]? = some (.cells #[.string x2.f0, .int .u64 x2.f1.f0, .int .u64 x2.f1.f1] 46 (0, 0)) by rw [hw, hg]; exact blk_new _ _)
 go_upto_region 9 with (fail)
 simp only [← hg, ← hw]
 clear hg hw hb
 have Q := aM' (tRoot.calls a _ w17 (HO.out.readT HKK.out HLN.out))
 unfold rootV at Q
 rw [l15_root.2] at Q
 obtain ⟨rt, hrt⟩ : ∃ x, x = topI (treeT 3 l15) := ⟨_, rfl⟩
 rw [← hrt] at Q
 have HRT := aM' hrt
 clear hrt
 go_wp2_with fail
 refine Q.out.mono ?_
 rintro e w18 ⟨rfl, hb⟩
 have HB18 := aM' (HB17.out.trans (hb.mono HB17.out.size))
 have HO := aM' (HO.out.keep hb)
 have HN0 := aM' (blk_below HN0.out hb)
 have HN1 := aM' (blk_below HN1.out hb)
 have HN2 := aM' (blk_below HN2.out hb)
 clear hb Q
 obtain ⟨gR, hg⟩ : ∃ g, g = w18.heap.size := ⟨_, rfl⟩
 obtain ⟨w19, hw⟩ : ∃ V, V = w18.alloc (.cells #[.string rt.f0, .int .u64 rt.f1.f0, .int .u64 rt.f1.f1, .int .i64 2] 41) := ⟨_, rfl⟩
 have hb : Below w18.heap.size w18 w19 := by rw [hw]; exact below_alloc (Below.refl _ _) _
 have HB19 := aM' (HB18.out.trans (hb.mono HB18.out.size))
 have HO := aM' (HO.out.keep hb)
 have HN0 := aM' (blk_below HN0.out hb)
 have HN1 := aM' (blk_below HN1.out hb)
 have HN2 := aM' (blk_below HN2.out hb)
 have HR := aM' (show w19.heap[gR]? = some (.cells #[.string rt.f0, .int .u64 rt.f1.f0, .int .u64 rt.f1.f1, .int .i64 2] 41 (0, 0)) by rw [hw, hg]; exact blk_new _ _)
 go_upto_region 10 with (fail)
 simp only [← hg, ← hw]
 clear hg hw hb
 have y0 := blk_cell HN0.out 2
 have y1 := blk_cell HN1.out 2
 have r0 := blk_cell HR.out 0
 have r2 := blk_cell HR.out 2
 have r3 := blk_cell HR.out 3
 simp at y0 y1 r0 r2 r3
 have e0 : x0.f1.f1 = 3 := by rw [HX0.out]; exact l15_nodes.1
 have e1 : x1.f1.f1 = 7 := by rw [HX1.out]; exact l15_nodes.2.2.1
 have e2 : rt.f1.f1 = 10 := by rw [HRT.out]; exact l15_root.1
 have e3 : (rt.f0.size : Int) = 3 := by rw [HRT.out]; exact top_size HKK.out
 rw [e0] at y0
 rw [e1] at y1
 rw [e2] at r2
 clear HX0 HX1 HX2 HRT
 go_wp2_with fail
 refine (account15.calls ⟨#[98]⟩ 5 _).mono ?_
 rintro e w20 ⟨rfl, hb⟩
 have HB20 := aM' (HB19.out.trans (hb.mono HB19.out.size))
 have HO := aM' (HO.out.keep hb)
 clear hb
 go_wp2_with fail
 refine (tSet.calls _ a gl cl VV gs 3 l15 1 (acc15 ⟨#[98]⟩ 5) w20 (HK.out.below HB20.out) HO.out HKK.out HLN.out (acc_ok _ _ (by decide) (by decide)) (by decide)).mono ?_
 rintro e w21 ⟨rfl, hO, hT⟩
 rw [l15_set.1]
 have HOS := aM' hO
 have HBS := aM' (HB20.out.trans ((hT.toBelow (b := w.heap.size) (fun k hk => Nat.le_trans HBASE.out (HO.out.lt k hk).1) HB20.out.size)))
 have HKS := aM' (newI_zero (newI_setL (p := 1) (x := acc15 ⟨#[98]⟩ 5) l15_new) (setL_ok l15_ok (acc_ok _ _ (by decide) (by decide))))
 have Q := aM' (tRoot.calls a _ w21 (HOS.out.readT HKS.out (by rw [setL_len]; decide)))
 unfold rootV at Q
 obtain ⟨rt2, hrt2⟩ : ∃ x, x = topI (treeT 3 (setL 3 l15 1 (acc15 ⟨#[98]⟩ 5))) := ⟨_, rfl⟩
 have e5 : rt2.f1.f1 = 13 := by rw [hrt2]; exact l15_set.2
 rw [← hrt2, e5] at Q
 obtain ⟨hh, hhh⟩ : ∃ h : Int, h = ((treeT 3 (setL 3 l15 1 (acc15 ⟨#[98]⟩ 5))).rows.length : Int) - 1 := ⟨_, rfl⟩
 rw [← hhh] at Q
 clear hhh
 clear hO hT hrt2 y0 y1 r0 r2 r3 e0 e1 e2 e5
 go_wp2_with fail
 refine Q.out.mono ?_
 rintro e wz ⟨rfl, hb⟩
 have HBZ := aM' (HBS.out.trans (hb.mono HBS.out.size))
 clear hb Q
 have hfd := rootTotal rt2.f0 rt2.f1.f0 13 hh wz
 have hfe := u128Lo rt2.f1.f0 13 wz
 go_wp2
 go_ret
 exact ⟨rfl, HBZ.out⟩
end Go.Proofs.YtfcodmdckcihmaaDoor.P
namespace Go.Proofs.YtfcodmdckcihmaaDoor.P
open Go.RowKit Go.Proofs.YtfcodmdckcihmaaDoorW.PrintWords Go.Proofs.YtfcodmdckcihmaaDoorW.PrintLast Go.Proofs.YtfcodmdckcihmaaDoorW.PrintMore
set_option linter.unusedVariables false
set_option linter.unusedSimpArgs false
set_option linter.unnecessarySimpa false
theorem rows_len (wd : Int) (k : List SLeaf) : (treeT wd k).rows.length = k.length.log2 + 1 := by
 have h : (treeT wd k).rows = levelsV wd k.length.log2 (k.map (leafNodeI wd)) := rfl
 rw [h, levelsV_len]
section
variable {b a gl cl : Nat} {VV : Value} {gs : List RowG} {wd : Int} {k : List SLeaf} {V : World}
theorem TreeOwn.rootC {m : Nat} {rt : SNode} (h : TreeOwn b V a (treeT wd k) gl cl VV gs) (hn : NewOk wd k) (hl : k.length ≤ 1024) (hm : m = k.length.log2) (hr : rt = topI (treeT wd k)) :
  Calls Tryd.prog 21 #[ptrT a] V fun e w' => e = .returned (.agg #[.string rt.f0, .int .u64 rt.f1.f0, .int .u64 rt.f1.f1, .int .i64 (m : Int)]) ∧ Below V.heap.size V w' := by
 have q := tRoot.calls a _ V (h.readT hn hl)
 unfold rootV at q
 rw [rows_len, ← hm, ← hr, show ((m + 1 : Nat) : Int) - 1 = (m : Int) by omega] at q
 exact q
theorem TreeOwn.heightC {m : Nat} (h : TreeOwn b V a (treeT wd k) gl cl VV gs) (hn : NewOk wd k) (hl : k.length ≤ 1024) (hm : m = k.length.log2) :
  Calls Tryd.prog 19 #[ptrT a] V fun e w' => e = .returned (.int .i64 (m : Int)) ∧ V = w' := by
 have q := tHeight.calls a _ V (h.readT hn hl)
 rw [rows_len, ← hm, show ((m + 1 : Nat) : Int) - 1 = (m : Int) by omega] at q
 exact q
theorem node_is {m n p q : Nat} {x : SNode} (hn : NewOk wd k) (hm : m = k.length.log2) (hnm : n ≤ m) (hp : p < k.length) (hq : q = p / 2 ^ n) (hx : x = (upV wd n (k.map (leafNodeI wd))).getD q nodeZ) : nodeAtI (treeT wd k) (n : Int) (q : Int) = (x, true) := by
 rw [nodeAt_tree wd _ n (by omega), Int.toNat_natCast, ← hx]
 have hl : (k.map (leafNodeI wd)).length = 2 ^ m := by rw [List.length_map, hm]; exact hn.p
 have h1 := upV_len2 (w := wd) hl n hnm
 have h2 := div_lt (p := p) (K := m) (by rw [List.length_map] at hl; omega) hnm
 rw [h1, hq, decide_eq_true h2]
theorem TreeOwn.nodeC {n q : Nat} {x : SNode} {t : Bool} (h : TreeOwn b V a (treeT wd k) gl cl VV gs) (hn : NewOk wd k) (hl : k.length ≤ 1024) (hx : nodeAtI (treeT wd k) (n : Int) (q : Int) = (x, t)) :
  Calls Tryd.prog 24 #[ptrT a, .int .i64 (n : Int), .int .u64 (q : Int)] V fun e w' => e = .returned (.tuple #[nodeV x, .bool t]) ∧ Below V.heap.size V w' := by
 have z := tNode.calls a _ (n : Int) (q : Int) V (h.readT hn hl) (by omega)
 rw [hx] at z
 exact z
end
end Go.Proofs.YtfcodmdckcihmaaDoor.P
namespace Go.Proofs.YtfcodmdckcihmaaDoor.P
open Go.RowKit Go.Proofs.YtfcodmdckcihmaaDoorW.PrintWords Go.Proofs.YtfcodmdckcihmaaDoorW.PrintLast Go.Proofs.YtfcodmdckcihmaaDoorW.PrintMore
set_option linter.unusedVariables false
set_option linter.unusedSimpArgs false
set_option linter.unnecessarySimpa false
theorem heqRoot (d : Nat) (w : World) (x0 y0 : ByteArray) (x1 y1 : Int) (x2 y2 : Int) (x3 y3 : Int) :
  (Op.equalIn (d + 3) 41 (.agg #[.string x0, .int .u64 x1, .int .u64 x2, .int .i64 x3]) (.agg #[.string y0, .int .u64 y1, .int .u64 y2, .int .i64 y3])).run Tryd.prog w = .ok (x0.toList == y0.toList && ((x1 == y1 && (x2 == y2)) && (x3 == y3))) w := by
 refine eqA_of Tryd.underlying41 (by kernel_rfl) ?_
 refine eqf_cons (by rfl) (by go_simp; rfl) (by go_simp; rfl) (by go_simp) ?_
 refine eqf_cons (by rfl) (by go_simp) (by go_simp) (eqAU128 (d + 0) w _ _ _ _) ?_
 exact eqf_last (by rfl) (by go_simp; rfl) (by go_simp; rfl) (by go_simp)
end Go.Proofs.YtfcodmdckcihmaaDoor.P
namespace Go.Proofs.YtfcodmdckcihmaaDoor.P
open Go.RowKit Go.Proofs.YtfcodmdckcihmaaDoorW.PrintWords Go.Proofs.YtfcodmdckcihmaaDoorW.PrintLast Go.Proofs.YtfcodmdckcihmaaDoorW.PrintMore
set_option linter.unusedVariables false
set_option linter.unusedSimpArgs false
set_option linter.unnecessarySimpa false
theorem rdLeaf_nat (l : List SLeaf) (i : Nat) (h : i < l.length) : rd_TLeaf l (i : Int) = l[i] := by simp [rd_TLeaf, h]
theorem great15_loop (l : List SLeaf) (hl : l.length ≤ 9223372036854775807) : ∀ d i : Nat, i + d = l.length → Ev (fun k => paymasterlaw15_Great.l0 k l (i : Int)) ((l.drop i).any fun n => decide (200 < n.f1.size) || decide (200 < n.f2.size)) := by
 intro d
 induction d with
 | zero =>
  intro i hi
  refine Ev.step (f := fun _ => some false) (fun k => ?_) (ev_eq (Ev.now false) ?_)
  ·
   simp only [paymasterlaw15_Great.l0]; rw [if_neg (by omega)]
  ·
   rw [List.drop_of_length_le (by omega)]; rfl
 | succ d ih =>
  intro i hi
  have hlt : i < l.length := by omega
  rw [any_drop_succ _ l i hlt]
  by_cases hb : 200 < l[i].f1.size
  ·
   refine Ev.step (f := fun _ => some true) (fun k => ?_) (ev_eq (Ev.now true) (by simp [hb]))
   simp only [paymasterlaw15_Great.l0]; rw [if_pos (by omega), if_pos (by omega), rdLeaf_nat l i hlt, if_pos (by omega)]
  ·
   by_cases hc : 200 < l[i].f2.size
   ·
    refine Ev.step (f := fun _ => some true) (fun k => ?_) (ev_eq (Ev.now true) (by simp [hc]))
    simp only [paymasterlaw15_Great.l0]; rw [if_pos (by omega), if_pos (by omega), rdLeaf_nat l i hlt, if_neg (by omega), if_pos (by omega)]
   ·
    refine Ev.step (f := fun k => paymasterlaw15_Great.l0 k l ((i + 1 : Nat) : Int)) (fun k => ?_) (ev_eq (ih (i + 1) (by omega)) (by simp [hb, hc]))
    simp only [paymasterlaw15_Great.l0]; rw [if_pos (by omega), if_pos (by omega), rdLeaf_nat l i hlt, if_neg (by omega), if_neg (by omega), wrap64_id (by omega) (by omega)]; rfl
def greatL (l : List SLeaf) : Bool := decide (70 < l.length) || l.any fun n => decide (200 < n.f1.size) || decide (200 < n.f2.size)
theorem great15_ev (l : List SLeaf) (hl : l.length ≤ 9223372036854775807) : Ev (fun k => paymasterlaw15_Great.f k l) (greatL l) := by
 unfold paymasterlaw15_Great.f greatL
 by_cases h : 70 < l.length
 ·
  exact Ev.some_ (fun k => by rw [if_pos (by omega)]; simp [h])
 ·
  refine Ev.congr (fun k => by rw [if_neg (by omega)]; rfl) (ev_eq (great15_loop l hl l.length 0 (by omega)) (by simp [h]))
end Go.Proofs.YtfcodmdckcihmaaDoor.P
namespace Go.Proofs.YtfcodmdckcihmaaDoor.P
open Go.RowKit Go.Proofs.YtfcodmdckcihmaaDoorW.PrintWords Go.Proofs.YtfcodmdckcihmaaDoorW.PrintLast Go.Proofs.YtfcodmdckcihmaaDoorW.PrintMore
set_option linter.unusedVariables false
set_option linter.unusedSimpArgs false
set_option linter.unnecessarySimpa false
attribute [local go_sem high] eqANode heqRoot eqALeaf
theorem run_copyL (A : Option Addr) (c : Nat) (l : List SLeaf) (W : World) (hr : Kd.C kLeaf W A l.length l) (hn : l.length ≤ 1024) :
  ∃ g cap W', (Builtin.append_ #[22, 22] 22 #[.slice (some ⟨W.heap.size, 0, none⟩) 0 0, .slice A l.length c]).run Tryd.prog (W.alloc (.cells #[] 36 (0, 0))) = .ok (.slice (some ⟨g, 0, none⟩) l.length cap) W' ∧ W'.ownsRow W.heap.size 36 5 (.slice (some ⟨g, 0, none⟩) l.length cap) l.length (cellsL l) ∧ Below W.heap.size W W' := by
 obtain ⟨i0, hi, hz0, hz1, hz2⟩ := info_parts leafInfo
 have hu := Tryd.underlying22
 cases A with
 | some ad =>
  obtain ⟨v', w', h1, h2, h3, h4⟩ := run_append_own (P := Tryd.prog) (w := W.alloc (.cells #[] 36 (0, 0))) W.heap.size 22 22 36 i0 (.agg #[.bool false, .string ⟨#[]⟩, .string ⟨#[]⟩, .int .u64 0, .int .u64 0]) 5 56 hu hi hz0 hz1 hz2 rfl (by decide) _ 0 [] (World.ownsRow_made W #[] 0 (Nat.le_refl _) (by decide) rfl) ad l.length c (cellsL l) (cellsL_len l) (leaves_news (Kd.C_below hr (below_alloc (Below.refl _ _) _))) (oneL l) (by unfold maxLen; omega) (by omega) (by simp)
  rw [Nat.zero_add, List.nil_append] at h2
  have hne : v' ≠ .slice none 0 0 := fun e => by have := (h4.1 e).1; cases this
  rcases h2.2 with ⟨e, _⟩ | ⟨g, cap, cur, e, _⟩
  ·
   exact absurd e hne
  ·
   subst e
   refine ⟨g, cap, w', h1, h2, below_grown (below_alloc (Below.refl _ _) _) h3 (fun r e => ?_)⟩
   have := Option.some.inj e
   dsimp only at this
   omega
 | none =>
  have hl : l.length = 0 := by
   rcases Nat.eq_zero_or_pos l.length with h | h
   ·
    exact h
   ·
    obtain ⟨_, _, h3⟩ := hr
    obtain ⟨a, ha, _⟩ := h3 h
    cases ha
  obtain rfl : l = [] := List.eq_nil_of_length_eq_zero hl
  refine ⟨W.heap.size, 0, W.alloc (.cells #[] 36 (0, 0)), ?_, World.ownsRow_made W #[] 0 (Nat.le_refl _) (by decide) rfl, below_alloc (Below.refl _ _) _⟩
  simp [Builtin.append_, run_underlying hu, sizeOf, typeInfo, hi, Builtin.lenOf, Builtin.firstCells, loadCells, loadCellsFrom, storeCells]
theorem greatL_ok {l : List SLeaf} (h : greatL l = false) : l.length ≤ 70 ∧ ∀ x ∈ l, x.f1.size ≤ 200 ∧ x.f2.size ≤ 200 := by
 unfold greatL at h
 simp only [Bool.or_eq_false_iff, decide_eq_false_iff_not, List.any_eq_false] at h
 refine ⟨by omega, fun x hx => ?_⟩
 have := h.2 x hx
 simp at this
 omega
structure TB (w : World) (a ar : Nat) (wd : Int) (l : List SLeaf) (V : World) : Prop where
 t : TreeR a (treeT wd l) V
 r : RefT ar wd l V
 b : Below w.heap.size w V
theorem TB.below {w : World} {a ar : Nat} {wd : Int} {l : List SLeaf} {V V' : World} (h : TB w a ar wd l V) (hb : Below V.heap.size V V') : TB w a ar wd l V' := ⟨h.t.below hb, h.r.below hb, h.b.trans (hb.mono h.b.size)⟩
structure KB (w V0 : World) (g n : Nat) (V : World) : Prop where
 k : ∀ k, k ≠ g → V.heap[k]? = V0.heap[k]?
 c : ∃ cs, V.heap[g]? = some (.cells cs 36 (0, 0)) ∧ n * 5 ≤ cs.size
 b : Below w.heap.size w V
 s : V.heap.size = V0.heap.size
theorem KB.cell {w V0 V : World} {g n i : Nat} (h : KB w V0 g n V) (hi : i < n) : (∃ v, V.cell? ⟨g, i * 5 + 1, none⟩ = some v) ∧ V.frozen? ⟨g, i * 5 + 1, none⟩ = false := by
 obtain ⟨cs, h1, h2⟩ := h.c
 exact ⟨⟨cs[i * 5 + 1]'(by omega), by rw [blk_cell h1]; simp [show i * 5 + 1 < cs.size by omega]⟩, blk_frozen h1 _⟩
theorem KB.put {w V0 V : World} {g n i : Nat} (h : KB w V0 g n V) (hg : w.heap.size ≤ g) (v : Value) : KB w V0 g n (V.setCell ⟨g, i, none⟩ v) := by
 obtain ⟨cs, h1, h2⟩ := h.c
 exact ⟨fun k hk => (Below.heap_setCell _ _ _ _ hk).trans (h.k k hk), ⟨cs.setIfInBounds i v, blk_put h1 i v rfl, by simpa using h2⟩, below_set h.b hg, by simpa using h.s⟩
theorem KB.start {w V0 : World} {base g n cap : Nat} {xs : List SLeaf} (h : V0.ownsRow base 36 5 (.slice (some ⟨g, 0, none⟩) n cap) n (cellsL xs)) (hB : Below w.heap.size w V0) : KB w V0 g n V0 := by
 rcases h.2 with ⟨e, _⟩ | ⟨g', cap', cur, e, _, h2, h3, _, h5, _⟩
 ·
  cases e
 ·
  cases e
  exact ⟨fun _ _ => rfl, ⟨cur, h2, by rw [h5]; exact Nat.mul_le_mul_right 5 h3⟩, hB, rfl⟩
end Go.Proofs.YtfcodmdckcihmaaDoor.P
namespace Go.Proofs.YtfcodmdckcihmaaDoor.P
open Go.RowKit Go.Proofs.YtfcodmdckcihmaaDoorW.PrintWords Go.Proofs.YtfcodmdckcihmaaDoorW.PrintLast Go.Proofs.YtfcodmdckcihmaaDoorW.PrintMore
set_option linter.unusedVariables false
set_option linter.unusedSimpArgs false
set_option linter.unnecessarySimpa false
attribute [local go_sem high] eqANode heqRoot eqALeaf
/-! The law TreeBack, walked. -/
/-- A leaf's cells. -/
structure LeafC (V : World) (ap : Addr) (y : SLeaf) : Prop where
  p0 : V.cell? ap = some (.bool y.f0)
  p1 : V.cell? ⟨ap.block, ap.off + 1, none⟩ = some (.string y.f1)
  p2 : V.cell? ⟨ap.block, ap.off + 2, none⟩ = some (.string y.f2)
  p3 : V.cell? ⟨ap.block, ap.off + 3, none⟩ = some (.int .u64 y.f3.f0)
  p4 : V.cell? ⟨ap.block, ap.off + 4, none⟩ = some (.int .u64 y.f3.f1)
theorem leafC_at {V : World} {A : Option Addr} {l : List SLeaf} {p : Nat} (h : Kd.C kLeaf V A l.length l) (hp : p < l.length) (hn : l.length ≤ 1024) : ∃ ad, A = some ad ∧ LeafC V (ad.add (p * 5)) l[p] := by
  obtain ⟨ad, e1, p0, p1, p2, p3, p4⟩ := at_TLeaf h (p : Int) (by omega) (by omega)
  have e3 : rd_TLeaf l (p : Int) = l[p] := by rw [rd_TLeaf, Int.toNat_natCast]; simp [List.getD_eq_getElem?_getD, hp]
  rw [e3, Int.toNat_natCast] at p0 p1 p2 p3 p4
  exact ⟨ad, e1, ⟨p0, p1, p2, p3, p4⟩⟩
theorem LeafC.below {V V' : World} {ap : Addr} {y : SLeaf} (h : LeafC V ap y) (hb : Below V.heap.size V V') : LeafC V' ap y := ⟨pw_cell_below hb h.p0, pw_cell_below hb h.p1, pw_cell_below hb h.p2, pw_cell_below hb h.p3, pw_cell_below hb h.p4⟩
/-- A root's box, a leaf's box, a leaf's cells. -/
structure At18 (w w' : World) (g12 g17 : Nat) (rt : SNode) (m : Int) (ap : Addr) (y : SLeaf) : Prop where
  b : Below w.heap.size w w'
  r : w'.heap[g12]? = some (.cells #[.string rt.f0, .int .u64 rt.f1.f0, .int .u64 rt.f1.f1, .int .i64 m] 41 (0, 0))
  k : w'.heap[g17]? = some (.cells #[.bool y.f0, .string y.f1, .string y.f2, .int .u64 y.f3.f0, .int .u64 y.f3.f1] 36 (0, 0))
  l : LeafC w' ap y
theorem At18.of {w W : World} {g12 g17 : Nat} {rt : SNode} {m : Int} {ap : Addr} {y : SLeaf} {C : Prop} (h : C ∧ At18 w W g12 g17 rt m ap y) : At18 w W g12 g17 rt m ap y := h.2
theorem At18.keep {w W w' : World} {g12 g17 : Nat} {rt : SNode} {m : Int} {ap : Addr} {y : SLeaf} (k : Below W.heap.size W w') (h : At18 w W g12 g17 rt m ap y) : At18 w w' g12 g17 rt m ap y := ⟨h.b.trans (k.mono h.b.size), blk_below h.r k, blk_below h.k k, h.l.below k⟩
theorem At18.cells {w w' : World} {g12 g17 : Nat} {rt : SNode} {m : Int} {ap : Addr} {y : SLeaf} (h : At18 w w' g12 g17 rt m ap y) : ((w'.cell? ⟨g12, 0, none⟩ = some (.string rt.f0) ∧ w'.cell? ⟨g12, 1, none⟩ = some (.int .u64 rt.f1.f0) ∧ w'.cell? ⟨g12, 2, none⟩ = some (.int .u64 rt.f1.f1) ∧ w'.cell? ⟨g12, 3, none⟩ = some (.int .i64 m)) ∧ (w'.cell? ⟨g17, 0, none⟩ = some (.bool y.f0) ∧ w'.cell? ⟨g17, 1, none⟩ = some (.string y.f1) ∧ w'.cell? ⟨g17, 2, none⟩ = some (.string y.f2) ∧ w'.cell? ⟨g17, 3, none⟩ = some (.int .u64 y.f3.f0) ∧ w'.cell? ⟨g17, 4, none⟩ = some (.int .u64 y.f3.f1)) ∧ (w'.cell? ap = some (.bool y.f0) ∧ w'.cell? ⟨ap.block, ap.off + 1, none⟩ = some (.string y.f1) ∧ w'.cell? ⟨ap.block, ap.off + 2, none⟩ = some (.string y.f2) ∧ w'.cell? ⟨ap.block, ap.off + 3, none⟩ = some (.int .u64 y.f3.f0) ∧ w'.cell? ⟨ap.block, ap.off + 4, none⟩ = some (.int .u64 y.f3.f1))) ∧ At18 w w' g12 g17 rt m ap y :=
  ⟨⟨⟨(blk_cell h.r 0).trans rfl, (blk_cell h.r 1).trans rfl, (blk_cell h.r 2).trans rfl, (blk_cell h.r 3).trans rfl⟩, ⟨(blk_cell h.k 0).trans rfl, (blk_cell h.k 1).trans rfl, (blk_cell h.k 2).trans rfl, (blk_cell h.k 3).trans rfl, (blk_cell h.k 4).trans rfl⟩, ⟨h.l.p0, h.l.p1, h.l.p2, h.l.p3, h.l.p4⟩⟩, h⟩
/-- A root's box, a leaf's cells. -/
structure At28 (w w' : World) (g12 : Nat) (rt : SNode) (m : Int) (ap : Addr) (y : SLeaf) : Prop where
  b : Below w.heap.size w w'
  r : w'.heap[g12]? = some (.cells #[.string rt.f0, .int .u64 rt.f1.f0, .int .u64 rt.f1.f1, .int .i64 m] 41 (0, 0))
  l : LeafC w' ap y
theorem At28.of {w W : World} {g12 : Nat} {rt : SNode} {m : Int} {ap : Addr} {y : SLeaf} {C : Prop} (h : C ∧ At28 w W g12 rt m ap y) : At28 w W g12 rt m ap y := h.2
theorem At28.keep {w W w' : World} {g12 : Nat} {rt : SNode} {m : Int} {ap : Addr} {y : SLeaf} (k : Below W.heap.size W w') (h : At28 w W g12 rt m ap y) : At28 w w' g12 rt m ap y := ⟨h.b.trans (k.mono h.b.size), blk_below h.r k, h.l.below k⟩
theorem At28.cells {w w' : World} {g12 : Nat} {rt : SNode} {m : Int} {ap : Addr} {y : SLeaf} (h : At28 w w' g12 rt m ap y) : ((w'.cell? ⟨g12, 0, none⟩ = some (.string rt.f0) ∧ w'.cell? ⟨g12, 1, none⟩ = some (.int .u64 rt.f1.f0) ∧ w'.cell? ⟨g12, 2, none⟩ = some (.int .u64 rt.f1.f1) ∧ w'.cell? ⟨g12, 3, none⟩ = some (.int .i64 m)) ∧ (w'.cell? ap = some (.bool y.f0) ∧ w'.cell? ⟨ap.block, ap.off + 1, none⟩ = some (.string y.f1) ∧ w'.cell? ⟨ap.block, ap.off + 2, none⟩ = some (.string y.f2) ∧ w'.cell? ⟨ap.block, ap.off + 3, none⟩ = some (.int .u64 y.f3.f0) ∧ w'.cell? ⟨ap.block, ap.off + 4, none⟩ = some (.int .u64 y.f3.f1))) ∧ At28 w w' g12 rt m ap y :=
  ⟨⟨⟨(blk_cell h.r 0).trans rfl, (blk_cell h.r 1).trans rfl, (blk_cell h.r 2).trans rfl, (blk_cell h.r 3).trans rfl⟩, ⟨h.l.p0, h.l.p1, h.l.p2, h.l.p3, h.l.p4⟩⟩, h⟩
theorem setI_back {wd : Int} {l : List SLeaf} {p : Nat} {x y : SLeaf} (h0 : newI wd l = 0) (h1 : newI wd (l.set p x) = 0) (hp : p < l.length) (hy : y = l[p]) : setI wd (l.set p x) p y = 0 ∧ setL wd (l.set p x) p y = l := by
  have e : (l.set p x).set p y = l := by
    rw [List.set_set, hy]; exact List.set_getElem_self hp
  have h2 := newI_set (x := y) h1 (by rw [List.length_set]; exact hp)
  rw [e, h0] at h2
  refine ⟨h2.symm, ?_⟩
  unfold setL
  rw [if_pos h2.symm, e]
set_option maxRecDepth 100000 in
set_option maxHeartbeats 8000000 in
theorem lawTBack.calls (wd : Int) (A : Option Addr) (c : Nat) (l : List SLeaf) (pos : Int) (x : SLeaf) (w : World) (hK : LaidT w) (hr : Kd.C kLeaf w A l.length l) (hc : l.length ≤ c) (hub : ∀ x ∈ l, OkU x.f3) (hxu : OkU x.f3) (hll : l.length ≤ 9223372036854775807) (hpos : 0 ≤ pos ∧ pos < 65536) :
    Calls Tryd.prog 4 #[.int .i64 wd, .slice A l.length c, .int .u16 pos, leafV x] w fun e w' => e = .returned (.bool true) ∧ Below w.heap.size w w' := by
  have HK := Aside0.mk hK
  have HR := Aside0.mk hr
  have HC := Aside0.mk hc
  have HPOS := Aside0.mk hpos
  have HUB := Aside0.mk (And.intro hub hxu)
  obtain ⟨kg, hkg⟩ := (great15_ev l hll).rounds
  obtain ⟨kx, hkx⟩ := (great15_ev [x] (by simp)).rounds
  have HKX := Aside0.mk hkx
  obtain ⟨gr, hgr⟩ : ∃ g, g = greatL l := ⟨_, rfl⟩
  obtain ⟨gx, hgx⟩ : ∃ g, g = greatL [x] := ⟨_, rfl⟩
  rw [← hgr] at hkg
  have HG := Aside0.mk hkg
  have HGR := Aside0.mk hgr
  have HGX := Aside0.mk hgx
  obtain ⟨W0, hW0⟩ : ∃ V, V = w.alloc (.cells (acL x) 36) := ⟨_, rfl⟩
  have HB0 := Aside0.mk (show Below w.heap.size w W0 by rw [hW0]; exact below_alloc (Below.refl _ _) _)
  have HX0 := Aside0.mk (show W0.heap[w.heap.size]? = some (.cells (acL x) 36 (0, 0)) by rw [hW0]; exact blk_new _ _)
  clear hK hr hc hub hxu hll hpos hkg hgr hgx hkx
  go_enter Tryd.func4, Tryd.ntmps4
  go_wp2_with fail
  rw [← hW0]
  clear hW0
  refine (awake15.calls W0 (HK.out.below HB0.out)).mono ?_
  rintro e w1 ⟨rfl, hb⟩
  have HB1 := Aside0.mk (HB0.out.trans (hb.mono HB0.out.size))
  have HX1 := Aside0.mk (blk_below HX0.out hb)
  clear hb
  go_wp2_with fail
  refine (paymasterlaw15_Great.calls kg A c l gr _ (Kd.C_below HR.out HB1.out) HC.out HG.out).mono ?_
  rintro e w2 ⟨rfl, hd⟩
  obtain ⟨nd, rfl⟩ := hd
  obtain ⟨W2, hW2⟩ : ∃ V, V = w1.drewN nd := ⟨_, rfl⟩
  have HB2 := Aside0.mk (show Below w.heap.size w W2 by rw [hW2]; exact pw_below_drewN HB1.out nd)
  have HX2 := Aside0.mk (show W2.heap[w.heap.size]? = some (.cells (acL x) 36 (0, 0)) by rw [hW2]; exact blk_drewN HX1.out nd)
  rw [← hW2]
  clear hW2
  cases gr with
  | true =>
    go_wp2
    go_ret
    exact ⟨rfl, HB2.out⟩
  | false =>
    have x0 := blk_cell HX2.out 0
    have x1 := blk_cell HX2.out 1
    have x2 := blk_cell HX2.out 2
    have x3 := blk_cell HX2.out 3
    have x4 := blk_cell HX2.out 4
    simp at x0 x1 x2 x3 x4
    obtain ⟨W3, hW3⟩ : ∃ V, V = W2.alloc (.cells #[.bool x.f0, .string x.f1, .string x.f2, .int .u64 x.f3.f0, .int .u64 x.f3.f1] 36) := ⟨_, rfl⟩
    have HB3 := Aside0.mk (show Below w.heap.size w W3 by rw [hW3]; exact below_alloc HB2.out _)
    have HX3 := Aside0.mk (show W3.heap[w.heap.size]? = some (.cells (acL x) 36 (0, 0)) by rw [hW3]; exact blk_alloc HX2.out _)
    have hz := hW3 ▸ blk_new W2 (.cells #[.bool x.f0, .string x.f1, .string x.f2, .int .u64 x.f3.f0, .int .u64 x.f3.f1] 36)
    have HCX := Aside0.mk (litL_C (xs := [x]) hz rfl (by simp))
    clear hz
    go_wp2_with fail
    rw [← hW3]
    clear hW3 x0 x1 x2 x3 x4
    refine (paymasterlaw15_Great.calls kx (some ⟨W2.heap.size, 0, none⟩) 1 [x] gx W3 HCX.out (by simp) (by rw [HGX.out]; exact HKX.out)).mono ?_
    rintro e w4 ⟨rfl, hd⟩
    obtain ⟨nd, rfl⟩ := hd
    obtain ⟨W4, hW4⟩ : ∃ V, V = W3.drewN nd := ⟨_, rfl⟩
    have HB4 := Aside0.mk (show Below w.heap.size w W4 by rw [hW4]; exact pw_below_drewN HB3.out nd)
    have HX4 := Aside0.mk (show W4.heap[w.heap.size]? = some (.cells (acL x) 36 (0, 0)) by rw [hW4]; exact blk_drewN HX3.out nd)
    rw [← hW4]
    clear hW4
    cases gx with
    | true =>
      go_wp2
      go_ret
      exact ⟨rfl, HB4.out⟩
    | false =>
      obtain ⟨h70, hsz⟩ := greatL_ok HGR.out.symm
      obtain ⟨-, hsx⟩ := greatL_ok HGX.out.symm
      have HOK := Aside0.mk (show ∀ y ∈ l, OkL y from fun y hy => ⟨by have := (hsz y hy).1; omega, by have := (hsz y hy).2; omega, HUB.out.1 y hy⟩)
      have HOX := Aside0.mk (show OkL x from ⟨by have := (hsx x (by simp)).1; omega, by have := (hsx x (by simp)).2; omega, HUB.out.2⟩)
      have H70 := Aside0.mk h70
      clear h70 hsz hsx
      go_wp2_with fail
      refine (treeNew.calls wd A c l W4 (HK.out.below HB4.out) (Kd.C_below HR.out HB4.out) HC.out (by have := H70.out; omega) HOK.out).mono ?_
      rintro e w5 ⟨hb, h⟩
      have HB5 := Aside0.mk (HB4.out.trans (hb.mono HB4.out.size))
      have HX5 := Aside0.mk (blk_below HX4.out hb)
      rcases h with ⟨hz, a, gl, cl, VV, gs, rfl, hO⟩ | ⟨hnz, rfl⟩
      case inr =>
        have b0 : (newI wd l == 0) = false := by simp [hnz]
        have HNZ := Aside0.mk hnz
        clear hb hnz
        generalize newI wd l = er at b0 HNZ
        go_wp2
        go_ret
        exact ⟨rfl, HB5.out⟩
      case inl =>
        have HZ := Aside0.mk hz
        have HO5 := Aside0.mk hO
        have HBASE := Aside0.mk HB4.out.size
        have HKK := Aside0.mk (newI_zero hz HOK.out)
        clear hb hz hO
        have hpos1 := (levels_ok HKK.out (by have := H70.out; omega)).2.2
        obtain ⟨p, hp⟩ : ∃ p : Nat, (p : Int) = pos % (l.length : Int) := ⟨(pos % (l.length : Int)).toNat, by rw [Int.toNat_of_nonneg (Int.emod_nonneg _ (by omega))]⟩
        have hpl : p < l.length := by have := Int.emod_lt_of_pos pos (show (0 : Int) < (l.length : Int) by omega); omega
        have HPL := Aside0.mk hpl
        have hw0 : IntKind.i64.wrap pos = pos := IntWalk.i64_in _ (by have := HPOS.out; omega)
        have hrem : Int.tmod pos (l.length : Int) = (p : Int) := by rw [hp]; exact Int.tmod_eq_emod_of_nonneg HPOS.out.1
        have hwp : IntKind.u64.wrap (p : Int) = (p : Int) := wrapu64_id (by omega) (by have := H70.out; omega)
        have hne : ((l.length : Nat) : Int) ≠ 0 := by omega
        obtain ⟨m, hm⟩ : ∃ m, m = l.length.log2 := ⟨_, rfl⟩
        have HMM := Aside0.mk hm
        obtain ⟨rt, hrt⟩ : ∃ r, r = topI (treeT wd l) := ⟨_, rfl⟩
        have HRT := Aside0.mk hrt
        have HL1024 := Aside0.mk (show l.length ≤ 1024 by have := H70.out; omega)
        clear hm hp hpl hpos1 hrt
        go_wp2_with fail
        refine (HO5.out.rootC HKK.out HL1024.out HMM.out HRT.out).mono ?_
        rintro e w6 ⟨rfl, hb⟩
        obtain ⟨g12, hg12⟩ : ∃ g, g = w6.heap.size := ⟨_, rfl⟩
        obtain ⟨W7, hW7⟩ : ∃ V, V = w6.alloc (.cells #[.string rt.f0, .int .u64 rt.f1.f0, .int .u64 rt.f1.f1, .int .i64 (m : Int)] 41) := ⟨_, rfl⟩
        have hb7 : Below w5.heap.size w5 W7 := by rw [hW7]; exact below_alloc hb _
        have HB7 := Aside0.mk (HB5.out.trans (hb7.mono HB5.out.size))
        have HX7 := Aside0.mk (blk_below HX5.out hb7)
        have HO7 := Aside0.mk (HO5.out.keep hb7)
        have HG12 := Aside0.mk (show w5.heap.size ≤ g12 by rw [hg12]; exact hb.size)
        have HR12 := Aside0.mk (show W7.heap[g12]? = some (.cells #[.string rt.f0, .int .u64 rt.f1.f0, .int .u64 rt.f1.f1, .int .i64 (m : Int)] 41 (0, 0)) by rw [hW7, hg12]; exact blk_new _ _)
        go_upto_region 10 with (fail)
        simp only [← hg12, ← hW7]
        clear hg12 hW7 hb7 hb hw0 hrem
        have x0 := blk_cell HX7.out 0
        have x1 := blk_cell HX7.out 1
        have x2 := blk_cell HX7.out 2
        have x3 := blk_cell HX7.out 3
        have x4 := blk_cell HX7.out 4
        simp at x0 x1 x2 x3 x4
        go_wp2_with fail
        refine (tSet.calls _ a gl cl VV gs wd l p x W7 (HK.out.below HB7.out) HO7.out HKK.out (by have := H70.out; omega) HOX.out (by have := HPL.out; have := H70.out; omega)).mono ?_
        rintro e w8 ⟨rfl, hO, hT⟩
        have HO8 := Aside0.mk hO
        have HS8 := Aside0.mk hT.size
        have HK8 := Aside0.mk (show ∀ k, k < W7.heap.size → (k < W4.heap.size ∨ w5.heap.size ≤ k) → w8.heap[k]? = W7.heap[k]? from fun k hk ho => hT.block k hk (fun hm => by have := HO5.out.lt k hm; omega))
        have HB8 := Aside0.mk (HB7.out.trans (hT.toBelow (b := w.heap.size) (fun k hk => Nat.le_trans HBASE.out (HO5.out.lt k hk).1) HB7.out.size))
        have HX8 := Aside0.mk ((HK8.out _ (blk_lt HX7.out) (.inl (by have := blk_lt HX4.out; exact this))).trans HX7.out)
        have HR8 := Aside0.mk ((HK8.out _ (blk_lt HR12.out) (.inr HG12.out)).trans HR12.out)
        have HNI := Aside0.mk (newI_set (x := x) HZ.out HPL.out)
        obtain ⟨f, hf⟩ : ∃ f, f = setI wd l p x := ⟨_, rfl⟩
        simp only [← hf]
        have HF := Aside0.mk hf
        rw [← hf] at HNI
        clear hO hT hf x0 x1 x2 x3 x4
        obtain ⟨gm, cm, W9, hrun, hown, hb9⟩ := run_copyL A c l w8 (Kd.C_below HR.out HB8.out) (by have := H70.out; omega)
        have HOWN := Aside0.mk hown
        have HB9 := Aside0.mk (HB8.out.trans (hb9.mono HB8.out.size))
        have HO9 := Aside0.mk (HO8.out.keep hb9)
        have HX9 := Aside0.mk (blk_below HX8.out hb9)
        have HR9 := Aside0.mk (blk_below HR8.out hb9)
        have HG9 := Aside0.mk (show w8.heap.size ≤ gm from (hown.lt gm rfl).1)
        clear hown
        obtain ⟨cs, hcs, hcz⟩ := ownBlk HOWN.out
        have hcz2 : p * 5 + 4 < cs.size := by have := HPL.out; have : l.length * 5 ≤ cs.size := hcz; omega
        have c0 := blk_cell hcs (p * 5)
        have c1 := blk_cell hcs (p * 5 + 1)
        have c2 := blk_cell hcs (p * 5 + 2)
        have c3 := blk_cell hcs (p * 5 + 3)
        have c4 := blk_cell hcs (p * 5 + 4)
        have cf := fun i => blk_frozen hcs i
        rw [Array.getElem?_eq_getElem (by omega)] at c0 c1 c2 c3 c4
        generalize cs[p * 5]'_ = v0 at c0
        generalize cs[p * 5 + 1]'_ = v1 at c1
        generalize cs[p * 5 + 2]'_ = v2 at c2
        generalize cs[p * 5 + 3]'_ = v3 at c3
        generalize cs[p * 5 + 4]'_ = v4 at c4
        have x0 := blk_cell HX9.out 0
        have x1 := blk_cell HX9.out 1
        have x2 := blk_cell HX9.out 2
        have x3 := blk_cell HX9.out 3
        have x4 := blk_cell HX9.out 4
        simp at x0 x1 x2 x3 x4
        have hpl2 : (p : Int) < (l.length : Int) := by have := HPL.out; omega
        have hpl3 : p < l.length := HPL.out
        have hown2 := own_put (own_put (own_put (own_put (own_put HOWN.out (p * 5) (.bool x.f0)) (p * 5 + 1) (.string x.f1)) (p * 5 + 2) (.string x.f2)) (p * 5 + 3) (.int .u64 x.f3.f0)) (p * 5 + 4) (.int .u64 x.f3.f1)
        rw [cellsL_set x _ p hpl3] at hown2
        obtain ⟨W10, hW10⟩ : ∃ V, V = ((((W9.setCell ⟨gm, p * 5, none⟩ (.bool x.f0)).setCell ⟨gm, p * 5 + 1, none⟩ (.string x.f1)).setCell ⟨gm, p * 5 + 2, none⟩ (.string x.f2)).setCell ⟨gm, p * 5 + 3, none⟩ (.int .u64 x.f3.f0)).setCell ⟨gm, p * 5 + 4, none⟩ (.int .u64 x.f3.f1) := ⟨_, rfl⟩
        rw [← hW10] at hown2
        have hk10 : ∀ k, k ≠ gm → W10.heap[k]? = W9.heap[k]? := fun k hk => by
          rw [hW10]
          exact (Below.heap_setCell _ _ _ _ hk).trans ((Below.heap_setCell _ _ _ _ hk).trans ((Below.heap_setCell _ _ _ _ hk).trans ((Below.heap_setCell _ _ _ _ hk).trans (Below.heap_setCell _ _ _ _ hk))))
        have hwg : w.heap.size ≤ gm := Nat.le_trans HB8.out.size HG9.out
        have HB10 := Aside0.mk (show Below w.heap.size w W10 by rw [hW10]; exact below_set (below_set (below_set (below_set (below_set HB9.out hwg) hwg) hwg) hwg) hwg)
        have HX10 := Aside0.mk ((hk10 _ (fun e => by have := blk_lt HX8.out; have := HG9.out; omega)).trans HX9.out)
        have HR10 := Aside0.mk ((hk10 _ (fun e => by have := blk_lt HR8.out; have := HG9.out; omega)).trans HR9.out)
        have HO10 := Aside0.mk (HO8.out.far (W' := W10) (fun k _ hk => (hk10 k (fun e => by have := HG9.out; omega)).trans (hb9.block k hk)))
        have hlm := ownLeaves_C hown2
        have HLM := Aside0.mk hlm
        clear hb9 hcs hcz hcz2 hown2 hk10 hwg hlm
        have Q := treeNew.calls wd (some ⟨gm, 0, none⟩) cm (l.set p x) W10 (HK.out.below HB10.out) (by rw [List.length_set]; exact HLM.out.2.2) (by rw [List.length_set]; exact HLM.out.2.1) (by rw [List.length_set]; have := H70.out; omega) (fun y hy => by
          rcases List.mem_or_eq_of_mem_set hy with h | rfl
          · exact HOK.out y h
          · exact HOX.out)
        rw [List.length_set] at Q
        have HQ := Aside0.mk Q
        clear Q
        go_wp2_with (at_builtin; refine Lib.wpList_append_run _ rfl _ _ _ _ rfl _ _ rfl rfl _ _ hrun ?_)
        rw [← hW10]
        clear hrun hW10 c0 c1 c2 c3 c4 cf x0 x1 x2 x3 x4 hpl2
        refine HQ.out.mono ?_
        rintro e w11 ⟨hb, h⟩
        have HB11 := Aside0.mk (HB10.out.trans (hb.mono HB10.out.size))
        have HR11 := Aside0.mk (blk_below HR10.out hb)
        have HO11 := Aside0.mk (HO10.out.keep hb)
        have u0 : (f == f) = true := by simp
        obtain ⟨y, hy⟩ : ∃ y, y = l[p]'HPL.out := ⟨_, rfl⟩
        have HY := Aside0.mk hy
        obtain ⟨ad, had, -⟩ := leafC_at HR.out HPL.out (by have := H70.out; omega)
        subst had
        have HLC := Aside0.mk (show ∀ V : World, Below w.heap.size w V → LeafC V (ad.add (p * 5)) y from fun V hV => by
          obtain ⟨ad', e, h⟩ := leafC_at (Kd.C_below HR.out hV) HPL.out (by have := H70.out; omega)
          cases e
          rw [hy]; exact h)
        rcases h with ⟨hz2, a2, gl2, cl2, VV2, gs2, rfl, hO2⟩ | ⟨hn2, rfl⟩
        case inr =>
          rw [HNI.out] at hn2 ⊢
          have b0 : (f == 0) = false := by simp [hn2]
          have hs : setL wd l p x = l := by unfold setL; rw [if_neg (by rw [← HF.out]; exact hn2)]
          rw [hs] at HO11
          clear hb hn2 hs hy
          have q := tLeaf.calls a _ (p : Int) w11 (HO11.out.readT HKK.out (by have := H70.out; omega)) (by omega)
          have hl : leafAtI (treeT wd l) (p : Int) = (y, true) := by
            unfold leafAtI
            rw [Int.toNat_natCast, HY.out]
            have : p < l.length := HPL.out
            simp [treeT, List.getD_eq_getElem?_getD, this]
          rw [hl] at q
          have HQ2 := Aside0.mk q
          clear q hl
          go_wp2_with fail
          refine HQ2.out.mono ?_
          rintro e w12 ⟨rfl, hb⟩
          obtain ⟨g17, hg17⟩ : ∃ g, g = w12.heap.size := ⟨_, rfl⟩
          obtain ⟨W13, hW13⟩ : ∃ V, V = w12.alloc (.cells #[.bool y.f0, .string y.f1, .string y.f2, .int .u64 y.f3.f0, .int .u64 y.f3.f1] 36) := ⟨_, rfl⟩
          have hb13 : Below w11.heap.size w11 W13 := by rw [hW13]; exact below_alloc hb _
          have HB13 := Aside0.mk (HB11.out.trans (hb13.mono HB11.out.size))
          have HR13 := Aside0.mk (blk_below HR11.out hb13)
          have HO13 := Aside0.mk (HO11.out.keep hb13)
          have HY13 := Aside0.mk (show W13.heap[g17]? = some (.cells #[.bool y.f0, .string y.f1, .string y.f2, .int .u64 y.f3.f0, .int .u64 y.f3.f1] 36 (0, 0)) by rw [hW13, hg17]; exact blk_new _ _)
          go_upto_region 18 with (fail)
          simp only [← hg17, ← hW13]
          clear hg17 hW13 hb hb13
          obtain ⟨ap, hap⟩ : ∃ ap, ap = ad.add (p * 5) := ⟨_, rfl⟩
          have HS := Aside0.mk (show At18 w W13 g12 g17 rt (m : Int) ap y from ⟨HB13.out, HR13.out, HY13.out, by rw [hap]; exact HLC.out _ HB13.out⟩)
          have HSD := Aside0.mk (HS.out.keep (below_drew (Below.refl _ _)))
          have CQ := Aside0.mk ((HO13.out.keep (below_drew (Below.refl _ _))).rootC HKK.out HL1024.out HMM.out HRT.out)
          have hpl2 : (p : Int) < (l.length : Int) := by have := HPL.out; omega
          have hpl3 : p < l.length := HPL.out
          have hap2 := hap.symm
          clear hap
          go_region_held3 (fun w' => ((w'.cell? ⟨g12, 0, none⟩ = some (.string rt.f0) ∧ w'.cell? ⟨g12, 1, none⟩ = some (.int .u64 rt.f1.f0) ∧ w'.cell? ⟨g12, 2, none⟩ = some (.int .u64 rt.f1.f1) ∧ w'.cell? ⟨g12, 3, none⟩ = some (.int .i64 (m : Int))) ∧ (w'.cell? ⟨g17, 0, none⟩ = some (.bool y.f0) ∧ w'.cell? ⟨g17, 1, none⟩ = some (.string y.f1) ∧ w'.cell? ⟨g17, 2, none⟩ = some (.string y.f2) ∧ w'.cell? ⟨g17, 3, none⟩ = some (.int .u64 y.f3.f0) ∧ w'.cell? ⟨g17, 4, none⟩ = some (.int .u64 y.f3.f1)) ∧ (w'.cell? ap = some (.bool y.f0) ∧ w'.cell? ⟨ap.block, ap.off + 1, none⟩ = some (.string y.f1) ∧ w'.cell? ⟨ap.block, ap.off + 2, none⟩ = some (.string y.f2) ∧ w'.cell? ⟨ap.block, ap.off + 3, none⟩ = some (.int .u64 y.f3.f0) ∧ w'.cell? ⟨ap.block, ap.off + 4, none⟩ = some (.int .u64 y.f3.f1))) ∧ At18 w w' g12 g17 rt (m : Int) ap y) (first | exact HSD.out.cells | exact (At18.keep (by assumption) (At18.of (by assumption))).cells) (first | (go_at_call 21; (with_reducible refine CQ.out.mono ?_); rintro e w' ⟨rfl, hb⟩))
          all_goals
            go_wp2
            go_ret
            exact ⟨by simp, (At18.of (by assumption)).b⟩
        case inl =>
          have h0 : f = 0 := by rw [← HNI.out]; exact hz2
          have hs : setL wd l p x = l.set p x := by unfold setL; rw [if_pos (by rw [← HF.out]; exact h0)]
          rw [hs] at HO11
          have HO2 := Aside0.mk hO2
          have HZ2 := Aside0.mk hz2
          have HKK2 := Aside0.mk (newI_zero hz2 (fun y hy => by
            rcases List.mem_or_eq_of_mem_set hy with h | rfl
            · exact HOK.out y h
            · exact HOX.out))
          subst h0
          clear hz2 hO2 hb hs hy
          obtain ⟨rn, hrn⟩ : ∃ r, r = topI (treeT wd (l.set p x)) := ⟨_, rfl⟩
          have HRN := Aside0.mk hrn
          have HLS := Aside0.mk (show (l.set p x).length ≤ 1024 by rw [List.length_set]; exact HL1024.out)
          have HMS := Aside0.mk (show m = (l.set p x).length.log2 by rw [List.length_set]; exact HMM.out)
          clear hrn
          go_wp2_with fail
          refine (HO11.out.rootC HKK2.out HLS.out HMS.out HRN.out).mono ?_
          rintro e w12 ⟨rfl, hb⟩
          have HB12 := Aside0.mk (HB11.out.trans (hb.mono HB11.out.size))
          have HR12' := Aside0.mk (blk_below HR11.out hb)
          have HO12 := Aside0.mk (HO11.out.keep hb)
          have HP12 := Aside0.mk (HO2.out.keep hb)
          clear hb
          go_wp2_with fail
          refine (HP12.out.rootC HKK2.out HLS.out HMS.out HRN.out).mono ?_
          rintro e w13 ⟨rfl, hb⟩
          have HB13 := Aside0.mk (HB12.out.trans (hb.mono HB12.out.size))
          have HR13 := Aside0.mk (blk_below HR12'.out hb)
          have HO13 := Aside0.mk (HO12.out.keep hb)
          have HP13 := Aside0.mk (HP12.out.keep hb)
          clear hb
          go_wp2
          go_loopw [19] (fun v19 wr => ∃ n : Nat, v19 = .int .i64 (n : Int) ∧ Aside0 (n ≤ m + 1) ∧ Aside0 (Below w13.heap.size w13 wr)) (fun v19 _ => m + 1 - (intOf v19).toNat)
          case atStart => exact ⟨0, rfl, ⟨Nat.zero_le _⟩, ⟨Below.refl _ _⟩⟩
          case round =>
            obtain ⟨n, rfl, HN, HBR⟩ := hrel
            have hm6 : m ≤ 6 := by
              rcases Nat.lt_or_ge 6 m with h1 | h1
              · have h2 := Nat.pow_le_pow_right (n := 2) (by decide) (show 7 ≤ m by omega)
                have h3 := HKK.out.p
                rw [← HMM.out] at h3
                have := H70.out
                omega
              · exact h1
            have hn7 : n ≤ 7 := by have := HN.out; omega
            by_cases hle : n ≤ m
            · have b1 : decide ((n : Int) ≤ (m : Int)) = true := decide_eq_true (by omega)
              have b2 : decide (n ≤ m) = true := decide_eq_true hle
              obtain ⟨q, hq⟩ : ∃ q, q = p / 2 ^ n := ⟨_, rfl⟩
              have hsh : (p : Int) / 2 ^ n = (q : Int) := by rw [hq]; simp
              have hwn : IntKind.u64.wrap (n : Int) = (n : Int) := wrapu64_id (by omega) (by omega)
              obtain ⟨nx, hnx⟩ : ∃ y, y = (upV wd n ((l.set p x).map (leafNodeI wd))).getD q nodeZ := ⟨_, rfl⟩
              have HNX := Aside0.mk (node_is HKK2.out HMS.out hle (by rw [List.length_set]; exact HPL.out) hq hnx)
              clear hq hnx
              go_wp2_with fail
              refine ((HO13.out.keep HBR.out).heightC HKK2.out HLS.out HMS.out).mono ?_
              rintro e _ ⟨rfl, rfl⟩
              go_wp2_with fail
              refine ((HO13.out.keep HBR.out).nodeC HKK2.out HLS.out HNX.out).mono ?_
              rintro e w15 ⟨rfl, hb⟩
              obtain ⟨g20, hg20⟩ : ∃ g, g = w15.heap.size := ⟨_, rfl⟩
              obtain ⟨W16, hW16⟩ : ∃ V, V = w15.alloc (.cells #[.string nx.f0, .int .u64 nx.f1.f0, .int .u64 nx.f1.f1] 46) := ⟨_, rfl⟩
              have HB16 := Aside0.mk (show Below w13.heap.size w13 W16 by rw [hW16]; exact below_alloc (HBR.out.trans (hb.mono HBR.out.size)) _)
              have H20 := Aside0.mk (show W16.heap[g20]? = some (.cells #[.string nx.f0, .int .u64 nx.f1.f0, .int .u64 nx.f1.f1] 46 (0, 0)) by rw [hW16, hg20]; exact blk_new _ _)
              go_upto_region 25 with (fail)
              simp only [← hg20, ← hW16]
              clear hg20 hW16 hb b1 b2
              go_wp2_with fail
              refine ((HP13.out.keep HB16.out).nodeC HKK2.out HLS.out HNX.out).mono ?_
              rintro e w17 ⟨rfl, hb⟩
              have HB17 := Aside0.mk (HB16.out.trans (hb.mono HB16.out.size))
              have H20b := Aside0.mk (blk_below H20.out hb)
              have z0 := blk_cell (blk_alloc H20b.out (.cells #[.string nx.f0, .int .u64 nx.f1.f0, .int .u64 nx.f1.f1] 46)) 0
              have z1 := blk_cell (blk_alloc H20b.out (.cells #[.string nx.f0, .int .u64 nx.f1.f0, .int .u64 nx.f1.f1] 46)) 1
              have z2 := blk_cell (blk_alloc H20b.out (.cells #[.string nx.f0, .int .u64 nx.f1.f0, .int .u64 nx.f1.f1] 46)) 2
              simp at z0 z1 z2
              clear hb
              go_wp2
              go_roundw
              case rel => exact ⟨n + 1, by go_num, ⟨by omega⟩, ⟨below_alloc HB17.out _⟩⟩
              case measure => simp [intOf]; omega
            · have b1 : decide ((n : Int) ≤ (m : Int)) = false := decide_eq_false (by omega)
              have b2 : decide (n ≤ m) = false := decide_eq_false hle
              go_wp2_with fail
              refine ((HO13.out.keep HBR.out).heightC HKK2.out HLS.out HMS.out).mono ?_
              rintro e _ ⟨rfl, rfl⟩
              go_upto_region 28 with (fail)
              obtain ⟨ap, hap⟩ : ∃ ap, ap = ad.add (p * 5) := ⟨_, rfl⟩
              have HBW := Aside0.mk (HB13.out.trans (HBR.out.mono HB13.out.size))
              have HAP := Aside0.mk hap
              have HSD := Aside0.mk (show At28 w wr.drew g12 rt (m : Int) ap y from ⟨below_drew HBW.out, blk_drew (blk_below HR13.out HBR.out), by rw [hap]; exact HLC.out _ (below_drew HBW.out)⟩)
              have HOD := Aside0.mk ((HO13.out.keep HBR.out).keep (below_drew (Below.refl _ _)))
              have hbk := setI_back HZ.out HZ2.out HPL.out HY.out
              have HBK := Aside0.mk hbk
              have HOY := Aside0.mk (HOK.out y (by rw [HY.out]; exact List.getElem_mem _))
              have q := tSet.calls _ a gl cl VV gs wd (l.set p x) p y wr.drew (HK.out.below (below_drew HBW.out)) HOD.out HKK2.out HLS.out HOY.out (by have := HPL.out; have := H70.out; omega)
              unfold SetPost at q
              rw [hbk.1, hbk.2] at q
              have CS := Aside0.mk q
              have HG12R := Aside0.mk (show ∀ k ∈ parts gl gs, w.heap.size ≤ k ∧ k < w5.heap.size from fun k hk => ⟨Nat.le_trans HBASE.out (HO5.out.lt k hk).1, (HO5.out.lt k hk).2⟩)
              have hpl2 : (p : Int) < (l.length : Int) := by have := HPL.out; omega
              have hpl3 : p < l.length := HPL.out
              have hap2 := hap.symm
              clear hap hbk q b1 b2 hm6 hn7
              go_region_held3 (fun w' => ((w'.cell? ⟨g12, 0, none⟩ = some (.string rt.f0) ∧ w'.cell? ⟨g12, 1, none⟩ = some (.int .u64 rt.f1.f0) ∧ w'.cell? ⟨g12, 2, none⟩ = some (.int .u64 rt.f1.f1) ∧ w'.cell? ⟨g12, 3, none⟩ = some (.int .i64 (m : Int))) ∧ (w'.cell? ap = some (.bool y.f0) ∧ w'.cell? ⟨ap.block, ap.off + 1, none⟩ = some (.string y.f1) ∧ w'.cell? ⟨ap.block, ap.off + 2, none⟩ = some (.string y.f2) ∧ w'.cell? ⟨ap.block, ap.off + 3, none⟩ = some (.int .u64 y.f3.f0) ∧ w'.cell? ⟨ap.block, ap.off + 4, none⟩ = some (.int .u64 y.f3.f1))) ∧ At28 w w' g12 rt (m : Int) ap y) (first | exact HSD.out.cells | exact HS15.out.cells | exact (At28.keep (by assumption) (At28.of (by assumption))).cells) (first | (go_at_call 27; (with_reducible refine CS.out.mono ?_); rintro e w15 ⟨rfl, hO, hT⟩; have HO15 := Aside0.mk hO; have HB15 := Aside0.mk ((below_drew HBW.out).trans (hT.toBelow (b := w.heap.size) (fun k hk => (HG12R.out k hk).1) (below_drew HBW.out).size)); have HS15 := Aside0.mk (show At28 w w15 g12 rt (m : Int) ap y from ⟨HB15.out, (hT.block g12 (blk_lt HSD.out.r) (fun hm => by have := (HG12R.out g12 hm).2; have := HG12.out; omega)).trans HSD.out.r, by rw [HAP.out]; exact HLC.out _ HB15.out⟩); clear hO hT) | (go_at_call 21; (with_reducible refine (HO15.out.rootC HKK.out HL1024.out HMM.out HRT.out).mono ?_); rintro e w16 ⟨rfl, hb⟩))
              all_goals
                go_wp2
                go_ret
                exact ⟨by simp, (At28.of (by assumption)).b⟩
def law15_TreeBack.f (wd : Int) (l : List SLeaf) (pos : Int) (x0 : Bool) (x1 x2 : ByteArray) (x3 x4 : Int) : Option Bool := if ((0 ≤ pos ∧ pos < 65536) ∧ l.length ≤ 9223372036854775807) ∧ (∀ x ∈ l, (0 ≤ x.f3.f0 ∧ x.f3.f0 < 18446744073709551616) ∧ 0 ≤ x.f3.f1 ∧ x.f3.f1 < 18446744073709551616) ∧ (0 ≤ x3 ∧ x3 < 18446744073709551616) ∧ 0 ≤ x4 ∧ x4 < 18446744073709551616 then some true else none
theorem law15_TreeBack.calls (wd : Int) (A : Option Addr) (c : Nat) (l : List SLeaf) (pos : Int) (x0 : Bool) (x1 x2 : ByteArray) (x3 x4 : Int) (r : Bool) (w : World) (hK : LaidT w) (hr : Kd.C kLeaf w A l.length l) (hc : l.length ≤ c) (h : law15_TreeBack.f wd l pos x0 x1 x2 x3 x4 = some r) :
    Calls Tryd.prog 4 #[.int .i64 wd, .slice A l.length c, .int .u16 pos, .agg #[.bool x0, .string x1, .string x2, .int .u64 x3, .int .u64 x4]] w fun e w' => e = .returned (.bool r) ∧ Below w.heap.size w w' := by
  unfold law15_TreeBack.f at h
  split at h
  · next hh =>
    cases h
    exact lawTBack.calls wd A c l pos ⟨x0, x1, x2, ⟨x3, x4⟩⟩ w hK hr hc (fun x hx => by obtain ⟨h1, h2⟩ := hh.2.1 x hx; exact ⟨h1, h2⟩) ⟨hh.2.2.1, hh.2.2.2⟩ hh.1.2 hh.1.1
  · cases h
end Go.Proofs.YtfcodmdckcihmaaDoor.P
namespace Go.Proofs.YtfcodmdckcihmaaDoor.P
open Go.RowKit Go.Proofs.YtfcodmdckcihmaaDoorW.PrintWords Go.Proofs.YtfcodmdckcihmaaDoorW.PrintLast Go.Proofs.YtfcodmdckcihmaaDoorW.PrintMore
set_option linter.unusedVariables false
set_option linter.unusedSimpArgs false
set_option linter.unnecessarySimpa false
theorem wf_u16 {n : Int} (h : (Lit.int .u16 n).wf = true) : 0 ≤ n ∧ n < 65536 := by
 simp [Lit.wf, IntKind.min, IntKind.max, IntKind.signed, IntKind.bits] at h
 omega
theorem pure_TreeBack : ∀ (y0 : Int) (y1 : (List SLeaf)) (y2 : Int) (y3 : SLeaf), (Lit.int .i64 y0).wf = true → (y1.length ≤ 140737488355328 ∧ ∀ q0 ∈ y1, wfLeaf q0) → (Lit.int .u16 y2).wf = true → wfLeaf y3 → law15_TreeBack.f y0 y1 y2 y3.f0 y3.f1 y3.f2 y3.f3.f0 y3.f3.f1 = some true := fun _ _ _ _ _ hl h2 h3 => by
 unfold law15_TreeBack.f
 rw [if_pos ⟨⟨wf_u16 h2, by omega⟩, fun x hx => ⟨wf_u64 (hl.2 x hx).2.2.2.1, wf_u64 (hl.2 x hx).2.2.2.2⟩, wf_u64 h3.2.2.2.1, wf_u64 h3.2.2.2.2⟩]
end Go.Proofs.YtfcodmdckcihmaaDoor.P
namespace Go.Proofs.YtfcodmdckcihmaaDoor.treeBack
open Go.Proofs.YtfcodmdckcihmaaDoor.P Go.ChangeShapes Go.WideShapes Go.ChangeAt Go.RowKit
open Go.ChangeMaps (open_string shut_string)
open Go.Proofs.YtfcodmdckcihmaaDoorW.PrintWords Go.Proofs.YtfcodmdckcihmaaDoorW.PrintLast Go.Proofs.YtfcodmdckcihmaaDoorW.PrintMore
set_option linter.unusedVariables false
set_option linter.unusedSimpArgs false
theorem own : ownKnob Tryd.prog.godebug = none := by kernel_rfl
theorem laidOut : laidOutB Tryd.prog = true := by kernel_rfl
set_option maxRecDepth 100000 in
theorem lifted (os : Os) (started : os.Started) (H : Type) (enc : TypeId × Value → H) :
    ReturnsInHanded {} Tryd.checked os 4 .any (fun w args => (Rows.treeBackSpec.pre enc Tryd.prog Tryd.f4 [] false w args ∧ laidMetH Tryd.prog Rows.treeBackRow.laid w) ∧ sizedMet enc Tryd.prog Tryd.f4 (OpenSpec.ofChange Rows.treeBackSpec) false w args)
      (Rows.treeBackSpec.post enc Tryd.prog Tryd.f4 false true false false) := by
  refine returnsInHanded_of_change_and (C := Tryd.checked) (X := fun w _ => laidMetH Tryd.prog Rows.treeBackRow.laid w) (fun _ _ _ hh h => h.of_heap hh) own started (by kernel_rfl) Tryd.func4
    (ChangeSpec.witness_at (enc := enc) (C := Tryd.checked) (os := os) (X := fun w _ => laidMetH Tryd.prog Rows.treeBackRow.laid w) false (P.laidWorldT os) #[.int .i64 0, .slice none 0 0, .int .u16 0, .agg #[.bool false, .string ByteArray.empty, .string ByteArray.empty, .int .u64 0, .int .u64 0]] 8 rfl (by kernel_rfl) (by kernel_rfl) (by kernel_rfl) (by kernel_rfl) (by kernel_rfl) (P.laidWorldT_met os _)) ?_
  intro W base args ds gs before hval0 hW _ hsz0 hL _
  have hval : ∀ (j : Nat) t v, Tryd.f4.params[j]? = some t → args[j]? = some v → Value.okWide Tryd.prog W .any base t v := hval0
  have hW' := hW
  obtain ⟨p, q, hA0, hV, rfl, hfz, hnd⟩ := hW
  have hA : DataW.TrodAll enc Tryd.prog W 0 (fun _ => true) true Tryd.f4.params.toList args.toList ds p := hA0
  rw [Tryd.params4] at hA hval
  obtain ⟨v0, vs0, d0, ds0, p0, q0, hargs, rfl, rfl, h0, r0⟩ := trodAll_cons hA
  obtain ⟨v1, vs1, d1, ds1, p1, q1, rfl, rfl, rfl, h1, r1⟩ := trodAll_cons r0
  obtain ⟨v2, vs2, d2, ds2, p2, q2, rfl, rfl, rfl, h2, r2⟩ := trodAll_cons r1
  obtain ⟨v3, vs3, d3, ds3, p3, q3, rfl, rfl, rfl, h3, r3⟩ := trodAll_cons r2
  obtain ⟨rfl, rfl, rfl⟩ := trodAll_nil r3
  obtain rfl : args = #[v0, v1, v2, v3] := by cases args; simp_all
  obtain ⟨rfl, rfl⟩ := trodVars_none hV
  have hz0 : Sized Tryd.prog 3 d0 := Sized.each hsz0 (j := 0) rfl rfl
  have hz1 : Sized Tryd.prog 22 d1 := Sized.each hsz0 (j := 1) rfl rfl
  have hz2 : Sized Tryd.prog 50 d2 := Sized.each hsz0 (j := 2) rfl rfl
  have hz3 : Sized Tryd.prog 36 d3 := Sized.each hsz0 (j := 3) rfl rfl
  have k0 := h0
  have lt0 : ∀ x ∈ p0, x.block < W.heap.size := by obtain ⟨m, hm⟩ := k0; exact DataW.trod_lt m _ _ _ hm
  obtain ⟨y0, rfl, rfl, rfl, w0⟩ := open_int Tryd.underlying3 (hval 0 3 v0 rfl rfl) h0
  have k1 := h1
  have lt1 : ∀ x ∈ p1, x.block < W.heap.size := by obtain ⟨m, hm⟩ := k1; exact DataW.trod_lt m _ _ _ hm
  obtain ⟨a1, len1, cap1, rfl⟩ := okWide_slice Tryd.underlying22 (hval 1 22 v1 rfl rfl)
  obtain ⟨y1, hk1, w1⟩ := (Rd.slice Tryd.underlying22 (by kernel_rfl) (of_decide_eq_true (by kernel_rfl)) rdLeaf).cell rfl h1 hz1
  obtain ⟨A1, c1, e1, l1, g1⟩ := hk1
  rw [List.cons.injEq] at e1
  obtain ⟨e1, -⟩ := e1
  injection e1 with ea1 el1 ec1
  subst ea1 el1 ec1
  have k2 := h2
  have lt2 : ∀ x ∈ p2, x.block < W.heap.size := by obtain ⟨m, hm⟩ := k2; exact DataW.trod_lt m _ _ _ hm
  obtain ⟨y2, rfl, rfl, rfl, w2⟩ := open_int Tryd.underlying50 (hval 2 50 v2 rfl rfl) h2
  have k3 := h3
  have lt3 : ∀ x ∈ p3, x.block < W.heap.size := by obtain ⟨m, hm⟩ := k3; exact DataW.trod_lt m _ _ _ hm
  obtain ⟨y3, cs3, rfl, hk3, w3⟩ := rdLeaf.agg Tryd.underlying36 (hval 3 36 v3 rfl rfl) h3 hz3
  obtain ⟨cl3, rfl⟩ : ∃ l : List Value, cs3 = l.toArray := ⟨cs3.toList, by simp⟩
  simp only [List.toList_toArray] at hk3
  obtain rfl := kLeaf_open hk3
  clear hA0 hval0 hsz0
  have h := pure_TreeBack y0 y1 y2 y3 w0 w1 w2 w3
  refine (law15_TreeBack.calls y0 _ _ y1 y2 y3.f0 y3.f1 y3.f2 y3.f3.f0 y3.f3.f1 true W (P.laidT_of_met hL) g1 l1 h).mono fun e W' ⟨he, bel0⟩ => ?_
  have bel := bel0
  subst he
  exact ⟨_, rfl, _, _, _, [], _, [], hW', trodAll_mk1 (shut_bool Tryd.underlying4 _), (trodAll_cons_mk (Below.trod laidOut (by kernel_rfl) (of_decide_eq_true (by kernel_rfl)) k0 bel lt0) (trodAll_cons_mk (Below.trod laidOut (by kernel_rfl) (of_decide_eq_true (by kernel_rfl)) k1 bel lt1) (trodAll_cons_mk (Below.trod laidOut (by kernel_rfl) (of_decide_eq_true (by kernel_rfl)) k2 bel lt2) (trodAll_cons_mk (Below.trod laidOut (by kernel_rfl) (of_decide_eq_true (by kernel_rfl)) k3 bel lt3) trodAll_mk0)))), rfl, bel.frame _, fun h => by cases h⟩
theorem over : Rows.treeBackRow.holds Tryd.pinned (OpenSpec.ofChange Rows.treeBackSpec) :=
  OpenClaim.holds_of_wide 4 Tryd.f4 rfl rfl rfl rfl rfl rfl rfl ⟨rfl, rfl, rfl, rfl, rfl⟩ rfl rfl rfl rfl rfl (by kernel_rfl) Tryd.func4 (by kernel_rfl)
    (of_decide_eq_true (by kernel_rfl)) (by unfold Func.isWrapper; first | (rw [if_pos (by decide +kernel)]; kernel_rfl) | (rw [if_neg (by decide +kernel)]; exact ⟨rfl, rfl⟩))
    (fun os started H enc _ => lifted os started H enc)
set_option maxRecDepth 100000 in
theorem proved : Rows.TreeBackCardSaid :=
  Claim7.holds_tied_plain_at .later [] [.data, .data, .pinned] true (true, "4f2cffd12862c0dd414eb8a94792080809aa0e0cec70df79135b296e27b5c26d") false
    over (fun _ h => by cases h) (by kernel_rfl) (fun _ h => by cases h) treeBack_row_tie rfl ⟨rfl, rfl⟩ (by kernel_rfl) rfl
    (fun f fn hf hfn => by
      obtain rfl : f = 4 := Option.some.inj ((show Tryd.prog.funcNamed "paymaster/paymasterlaw15.TreeBack" = some 4 by kernel_rfl).symm.trans hf) |>.symm
      obtain rfl : fn = Tryd.f4 := (Option.some.inj (Tryd.func4.symm.trans hfn)).symm
      exact ⟨by kernel_rfl, fun j t ht => by
        rw [Tryd.params4] at ht
        have h3 : t ∈ [3, 22, 50, 36] := by
          have := List.mem_of_getElem? (l := [3, 22, 50, 36]) (i := j) (a := t) (by simpa using ht)
          exact this
        simp only [List.mem_cons, List.not_mem_nil, or_false] at h3
        rcases h3 with rfl | rfl | rfl | rfl
        · exact (show Tryd.prog.wantsStandIn 3 = false by kernel_rfl)
        · exact (show Tryd.prog.wantsStandIn 22 = false by kernel_rfl)
        · exact (show Tryd.prog.wantsStandIn 50 = false by kernel_rfl)
        · exact (show Tryd.prog.wantsStandIn 36 = false by kernel_rfl)
      ⟩)
    (by kernel_rfl)
#print axioms proved
end Go.Proofs.YtfcodmdckcihmaaDoor.treeBack
namespace Go.Proofs.YtfcodmdckcihmaaDoor
/-- The row, under a short name, for the claim. -/
theorem treeBack_holds : Rows.TreeBackCardSaid := treeBack.proved
end Go.Proofs.YtfcodmdckcihmaaDoor
