/- PROVED HERE: the Go function paymasterlaw16.ProofChanges returns true for every input that the given statement speaks of, and each argument reads behind the call as it read before. Conditions: none beyond the given statement's own (the laid table of constants, tied by the card). -/
-- Several texts of this workplace as one.
import Derived.Test.YtfcodmdckcihmaaDoorZProofChanges2
import Derived.Test.YtfcodmdckcihmaaDoorProg
import Derived.Deep.OwnRows
import Derived.Laws.Rows
import Derived.Test.YtfcodmdckcihmaaDoorRows
import Derived.Test.YtfcodmdckcihmaaDoorCards
import Derived.Test.YtfcodmdckcihmaaDoorTie
namespace Go.Proofs.YtfcodmdckcihmaaDoor.P
open Go.RowKit Go.Proofs.YtfcodmdckcihmaaDoorW.PrintWords Go.Proofs.YtfcodmdckcihmaaDoorW.PrintLast Go.Proofs.YtfcodmdckcihmaaDoorW.PrintMore
set_option linter.unusedVariables false
set_option linter.unusedSimpArgs false
set_option linter.unnecessarySimpa false
attribute [local go_sem] sel_true
def SetPost (base a gl cl : Nat) (VV : Value) (gs : List RowG) (wd : Int) (ls : List SLeaf) (p : Nat) (x : SLeaf) (w : World) (e : Ending) (w' : World) : Prop :=
  e = .returned (.int .i64 (setI wd ls p x)) ∧ TreeOwn base w' a (treeT wd (setL wd ls p x)) gl cl VV gs ∧ Tch (parts gl gs) w w'
theorem SetPost.err {base a gl cl : Nat} {VV : Value} {gs : List RowG} {wd : Int} {ls : List SLeaf} {p : Nat} {x : SLeaf} {w w' : World} {e : Int} (hI : setI wd ls p x = e) (h0 : e ≠ 0) (hT : TreeOwn base w a (treeT wd ls) gl cl VV gs) (hB : Below w.heap.size w w') : SetPost base a gl cl VV gs wd ls p x w (.returned (.int .i64 e)) w' :=
  ⟨by rw [hI], by unfold setL; rw [if_neg (by rw [hI]; exact h0)]; exact hT.keep hB, .of hB⟩
theorem leafNode_k {wd : Int} {x : SLeaf} (hw : 1 ≤ wd ∧ wd ≤ 32) (hm : mayLeafI x = true) (hx : OkL x) : NodeK wd (leafNodeI wd x) := by
  refine ⟨?_, leafNodeI_ok wd x hx.ub⟩
  unfold leafNodeI
  rw [if_pos ⟨⟨by omega, by omega⟩, hm⟩]
  have e : ((dgI wd (leafTextI x)).size : Int) = wd := by rw [dgI_size _ _ (by omega) (by omega)]; omega
  simp only [nodeOf, e]
  simp
  omega
def waysL (wd : Int) (ls : List SLeaf) (p : Nat) (x : SLeaf) (n : Nat) : List SNode := (List.range n).map (wayV wd (ls.map (leafNodeI wd)) p (leafNodeI wd x))
theorem waysL_succ (wd : Int) (ls : List SLeaf) (p : Nat) (x : SLeaf) (n : Nat) : waysL wd ls p x (n + 1) = waysL wd ls p x n ++ [wayV wd (ls.map (leafNodeI wd)) p (leafNodeI wd x) n] := by
  unfold waysL; rw [List.range_succ, List.map_append]; rfl
theorem waysL_len (wd : Int) (ls : List SLeaf) (p : Nat) (x : SLeaf) (n : Nat) : (waysL wd ls p x n).length = n := by unfold waysL; simp
theorem treeR_of {base a gl cl gv cv K : Nat} {gs : List RowG} {wd : Int} {ls : List SLeaf} {V : World} (h : TreeOwn base V a (treeT wd ls) gl cl (.slice (some ⟨gv, 0, none⟩) (K + 1) cv) gs) (hr : (treeT wd ls).rows.length = K + 1) (hk : NewOk wd ls) (hn : ls.length ≤ 1024) : TreeR a (treeT wd ls) V := h.readT hk hn
structure StL (base a gl cl : Nat) (VV : Value) (gs : List RowG) (wd : Int) (ls : List SLeaf) (p : Nat) (x : SLeaf) (w : World) (i : Nat) (way : Value) (V : World) : Prop where
  b : Below w.heap.size w V
  t : TreeOwn base V a (treeT wd ls) gl cl VV gs
  o : V.ownsRow (w.heap.size + 1) 46 3 way (i + 1) (cellsN (waysL wd ls p x (i + 1)))
  k : ∀ j, j ≤ i → NodeK wd (wayV wd (ls.map (leafNodeI wd)) p (leafNodeI wd x) j)
  l : V.heap[w.heap.size]? = some (.cells (acL x) 36 (0, 0))
theorem StL.below {base a gl cl : Nat} {VV : Value} {gs : List RowG} {wd : Int} {ls : List SLeaf} {p : Nat} {x : SLeaf} {w : World} {i : Nat} {way : Value} {V V' : World} (h : StL base a gl cl VV gs wd ls p x w i way V) (hb : Below V.heap.size V V') : StL base a gl cl VV gs wd ls p x w i way V' :=
  ⟨h.b.trans (hb.mono h.b.size), h.t.keep hb, ownB h.o hb, h.k, blk_below h.l hb⟩
structure St12 (V W : World) (wn sn : SNode) (l : Nat → Bool) (γ δ : Nat) : Prop where
  b : Below V.heap.size V W
  h12 : l 12 = true → V.heap.size ≤ γ ∧ W.heap[γ]? = some (.cells (if l 14 = true then nodeA wn else nodeA nodeZ) 46 (0, 0))
  h13 : l 13 = true → V.heap.size ≤ δ ∧ W.heap[δ]? = some (.cells (if l 15 = true then nodeA sn else nodeA nodeZ) 46 (0, 0))
  ne : l 12 = true → l 13 = true → γ ≠ δ
  o14 : l 14 = true → l 12 = true
  o15 : l 15 = true → l 13 = true
section
variable {V W : World} {wn sn : SNode} {l : Nat → Bool} {γ δ : Nat}
theorem St12.start (V : World) (wn sn : SNode) : St12 V V.drew wn sn (fun _ => false) 0 0 := ⟨below_drew (Below.refl _ _), (fun h => by cases h), (fun h => by cases h), (fun h => by cases h), (fun h => by cases h), (fun h => by cases h)⟩
theorem St12.same (h : St12 V W wn sn l γ δ) (i : Nat) (hi : i < 12) : St12 V W wn sn (upd l i) γ δ := by
  have e12 : upd l i 12 = l 12 := upd_no (by omega)
  have e13 : upd l i 13 = l 13 := upd_no (by omega)
  have e14 : upd l i 14 = l 14 := upd_no (by omega)
  have e15 : upd l i 15 = l 15 := upd_no (by omega)
  exact ⟨h.b, by rw [e12, e14]; exact h.h12, by rw [e13, e15]; exact h.h13, by rw [e12, e13]; exact h.ne, by rw [e14, e12]; exact h.o14, by rw [e15, e13]; exact h.o15⟩
theorem St12.no12 (h : St12 V W wn sn l γ δ) (hl : l 12 = false) : l 14 = false := by
  cases hx : l 14 with
  | false => rfl
  | true => rw [h.o14 hx] at hl; cases hl
theorem St12.no13 (h : St12 V W wn sn l γ δ) (hl : l 13 = false) : l 15 = false := by
  cases hx : l 15 with
  | false => rfl
  | true => rw [h.o15 hx] at hl; cases hl
theorem St12.made12 (h : St12 V W wn sn l γ δ) (hl : l 12 = false) : St12 V (W.alloc (.cells #[.string ⟨#[]⟩, .int .u64 0, .int .u64 0] 46)) wn sn (upd l 12) W.heap.size δ := by
  have h14 : upd l 12 14 = false := h.no12 hl
  refine ⟨below_alloc h.b _, fun _ => ⟨h.b.size, ?_⟩, fun hx => ⟨(h.h13 hx).1, blk_alloc (h.h13 hx).2 _⟩, fun _ hx => ?_, (fun hx => by rw [h14] at hx; cases hx), h.o15⟩
  · rw [if_neg (by rw [h14]; decide)]; exact blk_new W _
  · have := blk_lt (h.h13 hx).2; omega
theorem St12.made13 (h : St12 V W wn sn l γ δ) (hl : l 13 = false) : St12 V (W.alloc (.cells #[.string ⟨#[]⟩, .int .u64 0, .int .u64 0] 46)) wn sn (upd l 13) γ W.heap.size := by
  have h15 : upd l 13 15 = false := h.no13 hl
  refine ⟨below_alloc h.b _, fun hx => ⟨(h.h12 hx).1, blk_alloc (h.h12 hx).2 _⟩, fun _ => ⟨h.b.size, ?_⟩, fun hx _ => ?_, h.o14, (fun hx => by rw [h15] at hx; cases hx)⟩
  · rw [if_neg (by rw [h15]; decide)]; exact blk_new W _
  · have := blk_lt (h.h12 hx).2; omega
theorem St12.stored14 (h : St12 V W wn sn l γ δ) (hl : l 14 = false) (h12 : l 12 = true) : St12 V (((W.setCell ⟨γ, 0, none⟩ (.string wn.f0)).setCell ⟨γ, 1, none⟩ (.int .u64 wn.f1.f0)).setCell ⟨γ, 2, none⟩ (.int .u64 wn.f1.f1)) wn sn (upd l 14) γ δ := by
  have hz := h.h12 h12
  rw [if_neg (by rw [hl]; decide)] at hz
  refine ⟨below_set (below_set (below_set h.b hz.1) hz.1) hz.1, fun _ => ⟨hz.1, ?_⟩, fun hx => ⟨(h.h13 hx).1, ?_⟩, h.ne, fun _ => h12, h.o15⟩
  · rw [if_pos (show upd l 14 14 = true from rfl)]; exact blk_put (blk_put (blk_put hz.2 0 _ rfl) 1 _ rfl) 2 _ rfl
  · have hne : δ ≠ γ := fun e => h.ne h12 hx e.symm
    exact blk_far (blk_far (blk_far (h.h13 hx).2 (by exact hne) _) (by exact hne) _) (by exact hne) _
theorem St12.stored15 (h : St12 V W wn sn l γ δ) (hl : l 15 = false) (h13 : l 13 = true) : St12 V (((W.setCell ⟨δ, 0, none⟩ (.string sn.f0)).setCell ⟨δ, 1, none⟩ (.int .u64 sn.f1.f0)).setCell ⟨δ, 2, none⟩ (.int .u64 sn.f1.f1)) wn sn (upd l 15) γ δ := by
  have hz := h.h13 h13
  rw [if_neg (by rw [hl]; decide)] at hz
  refine ⟨below_set (below_set (below_set h.b hz.1) hz.1) hz.1, fun hx => ⟨(h.h12 hx).1, ?_⟩, fun _ => ⟨hz.1, ?_⟩, h.ne, h.o14, fun _ => h13⟩
  · have hne : γ ≠ δ := fun e => h.ne hx h13 e
    exact blk_far (blk_far (blk_far (h.h12 hx).2 (by exact hne) _) (by exact hne) _) (by exact hne) _
  · rw [if_pos (show upd l 15 15 = true from rfl)]; exact blk_put (blk_put (blk_put hz.2 0 _ rfl) 1 _ rfl) 2 _ rfl
theorem St12.done (h : St12 V W wn sn l γ δ) (h12 : l 12 = true) (h13 : l 13 = true) (h14 : l 14 = true) (h15 : l 15 = true) : (V.heap.size ≤ γ ∧ W.heap[γ]? = some (.cells (nodeA wn) 46 (0, 0))) ∧ (V.heap.size ≤ δ ∧ W.heap[δ]? = some (.cells (nodeA sn) 46 (0, 0))) ∧ γ ≠ δ := by
  have a := h.h12 h12
  have b := h.h13 h13
  rw [if_pos h14] at a
  rw [if_pos h15] at b
  exact ⟨a, b, h.ne h12 h13⟩
end
theorem StL.next {base a gl cl : Nat} {VV : Value} {gs : List RowG} {wd : Int} {ls : List SLeaf} {p : Nat} {x : SLeaf} {w : World} {i : Nat} {way v' : Value} {V V' : World} {jn : SNode} (h : StL base a gl cl VV gs wd ls p x w i way V) (hT : TreeOwn base w a (treeT wd ls) gl cl VV gs) (hgr : V.grownBy V' way.ownBlock)
    (hown : V'.ownsRow (w.heap.size + 1) 46 3 v' (i + 1 + 1) (cellsN (waysL wd ls p x (i + 1)) ++ [.string jn.f0, .int .u64 jn.f1.f0, .int .u64 jn.f1.f1])) (hj : jn = wayV wd (ls.map (leafNodeI wd)) p (leafNodeI wd x) (i + 1)) (hk : NodeK wd jn) : StL base a gl cl VV gs wd ls p x w (i + 1) v' V' := by
  have hb := below_grown h.b hgr (fun r e => by have := (h.o.lt r e).1; omega)
  refine ⟨hb, hT.keep hb, ?_, fun j hj2 => ?_, (hgr.block _ (blk_lt h.l) (fun e => by have := (h.o.lt _ e.symm).1; omega)).trans h.l⟩
  · rw [waysL_succ, cellsN_append, ← hj]; exact hown
  · rcases Nat.lt_or_ge i j with h1 | h1
    · obtain rfl : j = i + 1 := by omega
      rw [← hj]; exact hk
    · exact h.k j h1
theorem ownBlk {w : World} {base g n cap size : Nat} {e : TypeId} {xs : List Value} (h : w.ownsRow base e size (.slice (some ⟨g, 0, none⟩) n cap) n xs) : ∃ cs, w.heap[g]? = some (.cells cs e (0, 0)) ∧ n * size ≤ cs.size := by
  rcases h.2 with ⟨h1, _⟩ | ⟨g', cap', cur, h1, _, h2, h3, _, h5, _⟩
  · cases h1
  · cases h1
    exact ⟨cur, h2, by rw [h5]; exact Nat.mul_le_mul_right _ h3⟩
theorem StL.zero {base a gl cl K : Nat} {VV : Value} {gs : List RowG} {wd : Int} {ls : List SLeaf} {p : Nat} {x : SLeaf} {w : World} {way : Value} {V : World} (h : StL base a gl cl VV gs wd ls p x w K way V) (hT : TreeOwn base w a (treeT wd ls) gl cl VV gs) (hK : ls.length = 2 ^ K) (hk : NewOk wd ls) (hp : p < ls.length) (hx : OkL x) (hm : mayLeafI x = true) : setI wd ls p x = 0 := by
  have hl : (ls.map (leafNodeI wd)).length = 2 ^ K := by rw [List.length_map]; exact hK
  have h1 := upV_set wd hl (p := p) (by omega) (leafNodeI wd x) K (Nat.le_refl _)
  have h2 := upV_tot wd (K := K) (l := (ls.map (leafNodeI wd)).set p (leafNodeI wd x)) (by rw [List.length_set]; exact hl) K (Nat.le_refl _)
  have h3 : (upV wd K (ls.map (leafNodeI wd))).length = 1 := by rw [upV_len2 hl K (Nat.le_refl _), Nat.sub_self]
  rw [Nat.div_eq_of_lt (by omega)] at h1
  have h4 := valU_lt (h.k K (Nat.le_refl _)).u
  rw [h1] at h2
  match e : upV wd K (ls.map (leafNodeI wd)), h3 with
  | [y], _ =>
    rw [e, List.set_cons_zero] at h2
    unfold setI
    rw [if_neg (show ¬ ls.length ≤ p by omega), if_neg (by rw [hm]; decide), List.map_set, ← h2, totL, totL, if_pos (by omega)]
def rowsM (wd : Int) (ls : List SLeaf) (p : Nat) (x : SLeaf) (j : Nat) : List (List SNode) := (treeT wd (ls.set p x)).rows.take j ++ (treeT wd ls).rows.drop j
structure StP (base a gl cl : Nat) (VV : Value) (gs : List RowG) (wd : Int) (ls : List SLeaf) (p : Nat) (x : SLeaf) (w : World) (K : Nat) (way : Value) (j : Nat) (V : World) : Prop where
  c : Tch (parts gl gs) w V
  t : TreeOwn base V a ⟨wd, ls.set p x, rowsM wd ls p x j⟩ gl cl VV gs
  o : V.ownsRow (w.heap.size + 1) 46 3 way (K + 1) (cellsN (waysL wd ls p x (K + 1)))
section
variable {base a gl cl : Nat} {VV : Value} {gs : List RowG} {wd : Int} {ls : List SLeaf} {p : Nat} {x : SLeaf} {w : World} {K : Nat} {way : Value} {j : Nat} {V V' : World}
theorem StP.below (h : StP base a gl cl VV gs wd ls p x w K way j V) (hb : Below V.heap.size V V') : StP base a gl cl VV gs wd ls p x w K way j V' := ⟨h.c.below hb, h.t.keep hb, ownB h.o hb⟩
theorem StP.start (h : StL base a gl cl VV gs wd ls p x w K way V) (hT : TreeOwn base w a (treeT wd ls) gl cl VV gs) (hp : p < ls.length) :
    StP base a gl cl VV gs wd ls p x w K way 0 (((((V.setCell ⟨gl, p * 5, none⟩ (.bool x.f0)).setCell ⟨gl, p * 5 + 1, none⟩ (.string x.f1)).setCell ⟨gl, p * 5 + 2, none⟩ (.string x.f2)).setCell ⟨gl, p * 5 + 3, none⟩ (.int .u64 x.f3.f0)).setCell ⟨gl, p * 5 + 4, none⟩ (.int .u64 x.f3.f1)).drew := by
  have hm : gl ∈ parts gl gs := List.mem_cons_self ..
  have hg := (hT.lt gl hm).2
  have hk : ∀ k, way.ownBlock = some k → k ≠ gl := fun k e => by have := (h.o.lt k e).1; omega
  refine StP.below ⟨(((((Tch.of h.b).set _ (.inl hm)).set _ (.inl hm)).set _ (.inl hm)).set _ (.inl hm)).set _ (.inl hm), h.t.putLeaf x hp, ?_⟩ (below_drew (Below.refl _ _))
  exact ownAny_keep h.o (fun g e => (Below.heap_setCell _ _ _ _ (hk g e)).trans ((Below.heap_setCell _ _ _ _ (hk g e)).trans ((Below.heap_setCell _ _ _ _ (hk g e)).trans ((Below.heap_setCell _ _ _ _ (hk g e)).trans (Below.heap_setCell _ _ _ _ (hk g e))))))
theorem rowsM_get (hn : (treeT wd ls).rows.length = K + 1) (hn2 : (treeT wd (ls.set p x)).rows.length = K + 1) (hj : j < K + 1) : (rowsM wd ls p x j)[j]? = (treeT wd ls).rows[j]? := by
  unfold rowsM
  rw [List.getElem?_append_right (by rw [List.length_take]; omega), List.length_take, List.getElem?_drop]
  congr 1
  omega
theorem rowsM_len (hn : (treeT wd ls).rows.length = K + 1) (hn2 : (treeT wd (ls.set p x)).rows.length = K + 1) (hj : j ≤ K + 1) : (rowsM wd ls p x j).length = K + 1 := by
  unfold rowsM
  rw [List.length_append, List.length_take, List.length_drop]
  omega
theorem rowsM_set {r : List SNode} (hn : (treeT wd ls).rows.length = K + 1) (hn2 : (treeT wd (ls.set p x)).rows.length = K + 1) (hj : j < K + 1) (hr : (treeT wd (ls.set p x)).rows[j]? = some r) : (rowsM wd ls p x j).set j r = rowsM wd ls p x (j + 1) := by
  unfold rowsM
  have e : ((treeT wd (ls.set p x)).rows.take j).length = j := by rw [List.length_take]; omega
  have hd : (treeT wd ls).rows.drop j = (treeT wd ls).rows[j]'(by omega) :: (treeT wd ls).rows.drop (j + 1) := List.drop_eq_getElem_cons (by omega)
  rw [List.set_append_right _ _ (by omega), e, Nat.sub_self, hd, List.set_cons_zero]
  have ht : (treeT wd (ls.set p x)).rows.take (j + 1) = (treeT wd (ls.set p x)).rows.take j ++ [r] := by
    rw [List.take_add_one, hr]; rfl
  rw [ht, List.append_assoc]; rfl
theorem StP.put {pr : RowG} {q : Nat} {r : List SNode} {n : SNode} (h : StP base a gl cl VV gs wd ls p x w K way j V) (hT : TreeOwn base w a (treeT wd ls) gl cl VV gs) (hn : (treeT wd ls).rows.length = K + 1) (hn2 : (treeT wd (ls.set p x)).rows.length = K + 1) (hj : j < K + 1) (hp : gs[j]? = some pr) (hr : (rowsM wd ls p x j)[j]? = some r) (hq : q < r.length) (hs : (treeT wd (ls.set p x)).rows[j]? = some (r.set q n)) :
    StP base a gl cl VV gs wd ls p x w K way (j + 1) (((V.setCell ⟨pr.1, q * 3, none⟩ (.string n.f0)).setCell ⟨pr.1, q * 3 + 1, none⟩ (.int .u64 n.f1.f0)).setCell ⟨pr.1, q * 3 + 2, none⟩ (.int .u64 n.f1.f1)) := by
  have hm : pr.1 ∈ parts gl gs := List.mem_cons_of_mem _ (List.mem_map.2 ⟨pr, List.mem_of_getElem? hp, rfl⟩)
  have hg := (hT.lt pr.1 hm).2
  have hk : ∀ k, way.ownBlock = some k → k ≠ pr.1 := fun k e => by have := (h.o.lt k e).1; omega
  have ht := h.t.putNode n hp hr hq
  rw [rowsM_set hn hn2 hj hs] at ht
  refine ⟨((h.c.set _ (.inl hm)).set _ (.inl hm)).set _ (.inl hm), ht, ?_⟩
  exact ownAny_keep h.o (fun g e => (Below.heap_setCell _ _ _ _ (hk g e)).trans ((Below.heap_setCell _ _ _ _ (hk g e)).trans (Below.heap_setCell _ _ _ _ (hk g e))))
theorem StP.done (h : StP base a gl cl VV gs wd ls p x w K way (K + 1) V) (hn : (treeT wd ls).rows.length = K + 1) (hn2 : (treeT wd (ls.set p x)).rows.length = K + 1) (hz : setI wd ls p x = 0) : SetPost base a gl cl VV gs wd ls p x w (.returned (.int .i64 0)) V := by
  refine ⟨by rw [hz], ?_, h.c⟩
  have e : setL wd ls p x = ls.set p x := by unfold setL; rw [if_pos hz]
  have e2 : rowsM wd ls p x (K + 1) = (treeT wd (ls.set p x)).rows := by
    unfold rowsM; rw [List.take_of_length_le (by omega), List.drop_of_length_le (by omega), List.append_nil]
  have ht := h.t
  rw [e2] at ht
  rw [e]
  exact ht
end
set_option maxRecDepth 100000 in
set_option maxHeartbeats 4000000 in
theorem tSet.calls (base ta gl cl : Nat) (VV : Value) (gs : List RowG) (wd : Int) (ls : List SLeaf) (p : Nat) (x : SLeaf) (w : World) (hK : LaidT w) (hT : TreeOwn base w ta (treeT wd ls) gl cl VV gs) (hk : NewOk wd ls) (hn : ls.length ≤ 1024) (hx : OkL x) (hp : p < 18446744073709551616) :
    Calls Tryd.prog 27 #[ptrT ta, .int .u64 (p : Int), leafV x] w (SetPost base ta gl cl VV gs wd ls p x w) := by
  have HK := aM' hK
  have HT := aM' hT
  have HKK := aM' hk
  have HN := aM' hn
  have HX := aM' hx
  have HP := aM' hp
  obtain ⟨W1, hW1⟩ : ∃ V, V = w.alloc (.cells (acL x) 36) := ⟨_, rfl⟩
  have hb1 : Below w.heap.size w W1 := by rw [hW1]; exact below_alloc (Below.refl _ _) _
  have hx1 : W1.heap[w.heap.size]? = some (.cells (acL x) 36 (0, 0)) := by rw [hW1]; exact blk_new _ _
  have hT1 := hT.keep hb1
  have q := aM' (tNone.calls ta _ W1 (hT1.readT hk hn))
  have c1 : W1.cell? ⟨ta, 1, none⟩ = some (.slice (some ⟨gl, 0, none⟩) ls.length cl) := blk_cell hT1.ht 1
  have x0 := blk_cell hx1 0
  have x1 := blk_cell hx1 1
  have x2 := blk_cell hx1 2
  have x3 := blk_cell hx1 3
  have x4 := blk_cell hx1 4
  simp at x0 x1 x2 x3 x4
  have hw : IntKind.u64.wrap ((ls.length : Nat) : Int) = (ls.length : Int) := wrapu64_id (by omega) (by omega)
  have HB1 := aM' hb1
  have HX1 := aM' hx1
  clear hK hT hk hn hx hp hb1 hx1 hT1
  obtain ⟨i0, hi, hz0, hz1, hz2⟩ := info_parts nodeInfo
  have hu := Tryd.underlying105
  obtain ⟨K, hK⟩ : ∃ K, K = ls.length.log2 := ⟨_, rfl⟩
  have hrl : (treeT wd ls).rows.length = K + 1 := by
    have h : (treeT wd ls).rows = levelsV wd ls.length.log2 (ls.map (leafNodeI wd)) := rfl
    rw [h, levelsV_len, hK]
  have hKl : ls.length = 2 ^ K := by rw [hK]; exact HKK.out.p
  obtain ⟨gv, cv, rfl, hcv, -, hgv⟩ := HT.out.levels (by rw [hrl]; omega)
  rw [hrl] at hcv HT
  have HRL := aM' hrl
  have HKL := aM' hKl
  have HCV := aM' hcv
  have HGV := aM' hgv
  have HK10 := aM' (show K ≤ 10 by
    rcases Nat.lt_or_ge 10 K with h1 | h1
    · have h2 := Nat.pow_le_pow_right (n := 2) (by decide) (show 11 ≤ K by omega)
      have := HN.out
      omega
    · exact h1)
  rw [hrl]
  clear hK hrl hKl hcv hgv
  by_cases hlt : p < ls.length
  case neg =>
    have b1 : decide ((ls.length : Int) ≤ (p : Int)) = true := decide_eq_true (by omega)
    have b2 : decide (ls.length ≤ p) = true := decide_eq_true (by omega)
    have HI := aM' (show setI wd ls p x = 2 by unfold setI; rw [if_pos (by omega)])
    clear hlt
    go_enter Tryd.func27, Tryd.ntmps27
    go_wp2_with fail
    rw [← hW1]
    clear hW1
    refine q.out.mono ?_
    rintro e w1 ⟨rfl, rfl⟩
    go_wp2
    go_ret
    exact SetPost.err HI.out (by decide) HT.out HB1.out
  case pos =>
    have b1 : decide ((ls.length : Int) ≤ (p : Int)) = false := decide_eq_false (by omega)
    have b2 : decide (ls.length ≤ p) = false := decide_eq_false (by omega)
    have HLT := aM' hlt
    have HM := aM' (tagMayLeaf_eq x HX.out.id)
    clear hlt
    go_enter Tryd.func27, Tryd.ntmps27
    go_wp2_with fail
    rw [← hW1]
    clear hW1
    refine q.out.mono ?_
    rintro e w1 ⟨rfl, rfl⟩
    go_wp2_with fail
    refine (tag_MayLeaf.calls x.f0 x.f1 x.f2 x.f3.f0 x.f3.f1 (mayLeafI x) _ (HK.out.below HB1.out) HM.out).mono ?_
    rintro e w2 ⟨rfl, hb⟩
    have HB2 := aM' (HB1.out.trans (hb.mono HB1.out.size))
    have HX2 := aM' (blk_below HX1.out hb)
    clear hb b1 b2 c1 x0 x1 x2 x3 x4 hw q HX1
    cases hml : mayLeafI x with
    | false =>
      have HI := aM' (show setI wd ls p x = 130 by unfold setI; rw [if_neg (by have := HLT.out; omega), if_pos hml])
      clear hml
      go_wp2
      go_ret
      exact SetPost.err HI.out (by decide) HT.out HB2.out
    | true =>
      have HML := aM' hml
      clear hml
      obtain ⟨kl, hkl⟩ := (tagLeafNode_ev wd x HX.out.id HX.out.sa).rounds
      have HLN := aM' hkl
      clear hkl
      have HA2 := aM' (show w2.heap[ta]? = some (.cells #[.int .i64 wd, .slice (some ⟨gl, 0, none⟩) ls.length cl, .slice (some ⟨gv, 0, none⟩) (K + 1) cv] 105 (0, 0)) from (HT.out.keep HB2.out).ht)
      obtain ⟨ln, hln⟩ : ∃ n, n = leafNodeI wd x := ⟨_, rfl⟩
      rw [← hln] at HLN
      have HLNE := aM' hln
      clear hln
      go_upto_region 7 with (fail)
      refine wp_forget (fun y => ({ tmps := List.toArray (.pointer (some ⟨ta, 0, none⟩) :: .int .u64 (p : Int) :: leafV x :: y 3 :: y 4 :: .pointer (some ⟨w.heap.size, 0, none⟩) :: .int .i64 0 :: y 7 :: y 8 :: y 9 :: y 10 :: y 11 :: y 12 :: y 13 :: y 14 :: y 15 :: y 16 :: y 17 :: y 18 :: y 19 :: y 20 :: y 21 :: y 22 :: y 23 :: y 24 :: y 25 :: y 26 :: y 27 :: y 28 :: y 29 :: y 30 :: y 31 :: y 32 :: y 33 :: y 34 :: y 35 :: y 36 :: y 37 :: y 38 :: y 39 :: y 40 :: y 41 :: y 42 :: y 43 :: y 44 :: y 45 :: y 46 :: y 47 :: y 48 :: y 49 :: y 50 :: y 51 :: y 52 :: y 53 :: y 54 :: y 55 :: y 56 :: y 57 :: y 58 :: y 59 :: y 60 :: y 61 :: y 62 :: y 63 :: y 64 :: y 65 :: y 66 :: y 67 :: y 68 :: y 69 :: y 70 :: y 71 :: y 72 :: y 73 :: y 74 :: y 75 :: y 76 :: y 77 :: y 78 :: y 79 :: y 80 :: y 81 :: y 82 :: y 83 :: y 84 :: y 85 :: y 86 :: y 87 :: y 88 :: y 89 :: y 90 :: y 91 :: y 92 :: y 93 :: y 94 :: y 95 :: y 96 :: y 97 :: y 98 :: y 99 :: y 100 :: y 101 :: y 102 :: y 103 :: y 104 :: y 105 :: y 106 :: y 107 :: y 108 :: y 109 :: y 110 :: y 111 :: y 112 :: y 113 :: y 114 :: y 115 :: y 116 :: y 117 :: y 118 :: []), defers := [] } : Act)) rfl ?_
      intro y
      refine region_inv (fun l a W => ∃ γ : Nat, a = ({ tmps := #[.pointer (some ⟨ta, 0, none⟩), .int .u64 (p : Int), leafV x, y 3, y 4, .pointer (some ⟨w.heap.size, 0, none⟩), .int .i64 0, sel (l 7) (.slice (some ⟨γ, 0, none⟩) 1 1) (y 7), y 8, y 9, y 10, y 11, y 12, y 13, y 14, y 15, y 16, y 17, y 18, y 19, y 20, y 21, y 22, y 23, y 24, y 25, y 26, y 27, y 28, y 29, y 30, y 31, y 32, sel (l 0) (.pointer (some ⟨ta, 0, none⟩)) (y 33), sel (l 1) (.pointer (some ⟨ta, 0, none⟩)) (y 34), sel (l 2) (.pointer (some ⟨ta, 0, none⟩)) (y 35), sel (l 3) (.int .i64 wd) (y 36), sel (l 4) (.agg #[.bool x.f0, .string x.f1, .string x.f2, .int .u64 x.f3.f0, .int .u64 x.f3.f1]) (y 37), sel (l 5) (.agg #[.string ln.f0, .int .u64 ln.f1.f0, .int .u64 ln.f1.f1]) (y 38), sel (l 6) (.slice (some ⟨γ, 0, none⟩) 1 1) (y 39), y 40, y 41, y 42, y 43, y 44, y 45, y 46, y 47, y 48, y 49, y 50, y 51, y 52, y 53, y 54, y 55, y 56, y 57, y 58, y 59, y 60, y 61, y 62, y 63, y 64, y 65, y 66, y 67, y 68, y 69, y 70, y 71, y 72, y 73, y 74, y 75, y 76, y 77, y 78, y 79, y 80, y 81, y 82, y 83, y 84, y 85, y 86, y 87, y 88, y 89, y 90, y 91, y 92, y 93, y 94, y 95, y 96, y 97, y 98, y 99, y 100, y 101, y 102, y 103, y 104, y 105, y 106, y 107, y 108, y 109, y 110, y 111, y 112, y 113, y 114, y 115, y 116, y 117, y 118], defers := [] } : Act) ∧ (Below w2.heap.size w2 W ∧ (l 6 = true → w2.heap.size ≤ γ ∧ W.heap[γ]? = some (.cells #[.string ln.f0, .int .u64 ln.f1.f0, .int .u64 ln.f1.f1] 46 (0, 0))) ∧ (l 7 = true → l 6 = true))) 8 rfl rfl (by kernel_rfl) ?h0 ?hend ?hstep
      case h0 => exact ⟨0, rfl, below_drew (Below.refl _ _), (fun h => by cases h), (fun h => by cases h)⟩
      case hstep =>
        refine rg_cons (rg_cons (rg_cons (rg_cons (rg_cons (rg_cons (rg_cons (rg_cons (rg_nil) ?s0) ?s1) ?s2) ?s3) ?s4) ?s5) ?s6) ?s7
        case s0 =>
          refine rg_step rfl ?_
          rintro l a W ⟨γ, rfl, hI⟩ hl hd
          clear hd
          refine rg_val (v := .pointer (some ⟨ta, 0, none⟩)) (w' := W) rfl (by go_simp) ?_
          refine ⟨γ, ?_, ?_⟩
          · simp only [Act.put, List.setIfInBounds_toArray, List.set_cons_zero, List.set_cons_succ]; rfl
          · exact hI
        case s1 =>
          refine rg_step rfl ?_
          rintro l a W ⟨γ, rfl, hI⟩ hl hd
          have d0 := hd 0 (by decide)
          clear hd
          refine rg_val (v := .pointer (some ⟨ta, 0, none⟩)) (w' := W) rfl (by go_simp) ?_
          refine ⟨γ, ?_, ?_⟩
          · simp only [Act.put, List.setIfInBounds_toArray, List.set_cons_zero, List.set_cons_succ]; rfl
          · exact hI
        case s2 =>
          refine rg_step rfl ?_
          rintro l a W ⟨γ, rfl, hI⟩ hl hd
          have d1 := hd 1 (by decide)
          clear hd
          refine rg_val (v := .pointer (some ⟨ta, 0, none⟩)) (w' := W) rfl (by go_simp) ?_
          refine ⟨γ, ?_, ?_⟩
          · simp only [Act.put, List.setIfInBounds_toArray, List.set_cons_zero, List.set_cons_succ]; rfl
          · exact hI
        case s3 =>
          refine rg_step rfl ?_
          rintro l a W ⟨γ, rfl, hI⟩ hl hd
          have d2 := hd 2 (by decide)
          clear hd
          have x0 := blk_cell (blk_below HA2.out hI.1) 0
          simp at x0
          refine rg_val (v := .int .i64 wd) (w' := W) rfl (by go_simp) ?_
          refine ⟨γ, ?_, ?_⟩
          · simp only [Act.put, List.setIfInBounds_toArray, List.set_cons_zero, List.set_cons_succ]; rfl
          · exact hI
        case s4 =>
          refine rg_step rfl ?_
          rintro l a W ⟨γ, rfl, hI⟩ hl hd
          clear hd
          have x0 := blk_cell (blk_below HX2.out hI.1) 0
          have x1 := blk_cell (blk_below HX2.out hI.1) 1
          have x2 := blk_cell (blk_below HX2.out hI.1) 2
          have x3 := blk_cell (blk_below HX2.out hI.1) 3
          have x4 := blk_cell (blk_below HX2.out hI.1) 4
          simp at x0 x1 x2 x3 x4
          refine rg_val (v := .agg #[.bool x.f0, .string x.f1, .string x.f2, .int .u64 x.f3.f0, .int .u64 x.f3.f1]) (w' := W) rfl (by go_simp) ?_
          refine ⟨γ, ?_, ?_⟩
          · simp only [Act.put, List.setIfInBounds_toArray, List.set_cons_zero, List.set_cons_succ]; rfl
          · exact hI
        case s5 =>
          refine rg_step rfl ?_
          rintro l a W ⟨γ, rfl, hI⟩ hl hd
          have d3 := hd 3 (by decide)
          have d4 := hd 4 (by decide)
          clear hd
          refine rg_call rfl (by go_simp; exact ⟨rfl, rfl⟩) ?_
          refine (tag_LeafNode.calls kl wd x.f0 x.f1 x.f2 x.f3.f0 x.f3.f1 ln.f0 ln.f1.f0 ln.f1.f1 W (HK.out.below (HB2.out.trans (hI.1.mono HB2.out.size))) HLN.out).mono ?_
          rintro ee W' ⟨rfl, hb⟩
          refine ⟨_, rfl, γ, ?_, ?_⟩
          · simp only [Act.put, List.setIfInBounds_toArray, List.set_cons_zero, List.set_cons_succ]; rfl
          · exact ⟨hI.1.trans (hb.mono hI.1.size), fun h => ⟨(hI.2.1 h).1, blk_below (hI.2.1 h).2 hb⟩, hI.2.2⟩
        case s6 =>
          refine rg_step rfl ?_
          rintro l a W ⟨γ, rfl, hI⟩ hl hd
          have d5 := hd 5 (by decide)
          clear hd
          have h7 : l 7 = false := by
            cases hx : l 7 with
            | false => rfl
            | true => have := hI.2.2 hx; rw [hl] at this; cases this
          have h7' : upd l 6 7 = false := h7
          refine rg_val (v := .slice (some ⟨W.heap.size, 0, none⟩) 1 1) (w' := W.alloc (.cells #[.string ln.f0, .int .u64 ln.f1.f0, .int .u64 ln.f1.f1] 46)) rfl (by go_simp) ?_
          refine ⟨W.heap.size, ?_, ?_⟩
          · simp only [Act.put, List.setIfInBounds_toArray, List.set_cons_zero, List.set_cons_succ, h7, h7']; rfl
          · exact ⟨below_alloc hI.1 _, fun _ => ⟨hI.1.size, blk_new W _⟩, fun _ => rfl⟩
        case s7 =>
          refine rg_step rfl ?_
          rintro l a W ⟨γ, rfl, hI⟩ hl hd
          have d6 := hd 6 (by decide)
          clear hd
          refine rg_val (v := .slice (some ⟨γ, 0, none⟩) 1 1) (w' := W) rfl (by go_simp) ?_
          refine ⟨γ, ?_, ?_⟩
          · simp only [Act.put, List.setIfInBounds_toArray, List.set_cons_zero, List.set_cons_succ]; rfl
          · exact ⟨hI.1, hI.2.1, fun _ => d6⟩
      case hend =>
        rintro l a W ⟨γ, rfl, hI⟩ hall
        have e0 := hall 0 (by decide)
        have e1 := hall 1 (by decide)
        have e2 := hall 2 (by decide)
        have e3 := hall 3 (by decide)
        have e4 := hall 4 (by decide)
        have e5 := hall 5 (by decide)
        have e6 := hall 6 (by decide)
        have e7 := hall 7 (by decide)
        clear hall
        have hn := hI.2.1 e6
        simp only [e0, e1, e2, e3, e4, e5, e6, e7, sel_true]
        clear e0 e1 e2 e3 e4 e5 e6 e7
        obtain ⟨hB, -, -⟩ := hI
        have hb4 : Below w.heap.size w W := HB2.out.trans (hB.mono HB2.out.size)
        have hs2 := blk_lt HX2.out
        have hS4 : StL base ta gl cl (.slice (some ⟨gv, 0, none⟩) (K + 1) cv) gs wd ls p x w 0 (.slice (some ⟨γ, 0, none⟩) 1 1) W := by
          refine ⟨hb4, HT.out.keep hb4, ⟨rfl, .inr ⟨γ, 1, #[.string ln.f0, .int .u64 ln.f1.f0, .int .u64 ln.f1.f1], rfl, by omega, hn.2, Nat.le_refl _, by decide, rfl, ?_⟩⟩, ?_, blk_below HX2.out hB⟩
          · rw [HLNE.out]; rfl
          · intro j hj
            obtain rfl : j = 0 := by omega
            exact leafNode_k HKK.out.w HML.out HX.out
        have HS4 := aM' hS4
        have t2 : W.cell? ⟨ta, 2, none⟩ = some (.slice (some ⟨gv, 0, none⟩) (K + 1) cv) := blk_cell hS4.t.ht 2
        have CH := aM' (fun (V : World) (h : TreeR ta (treeT wd ls) V) => by have q := tHeight.calls ta _ V h; rw [HRL.out, show ((K + 1 : Nat) : Int) - 1 = (K : Int) by omega] at q; exact q)
        have hkc : K ≤ cv := by have := HCV.out; omega
        clear hB hb4 hs2 hS4 hn
        go_wp2_with fail
        have HR4 := aM' (fun n => treeR_of (HS4.out.below (pw_below_drewN (Below.refl _ _) n)).t HRL.out HKK.out HN.out)
        go_quiet (exact Calls.quiet_of_same ((CH.out _ (HR4.out _)).mono fun e w' h => ⟨h.1, h.2.symm⟩))
        obtain ⟨W5, hW5⟩ : ∃ V, V = W.drewN nq := ⟨_, rfl⟩
        have HS5 := aM' (HS4.out.below (pw_below_drewN (Below.refl _ _) nq))
        rw [← hW5] at HS5
        simp only [← hW5]
        clear hW5 t2 HR4 HS4 CH hkc HA2 HX2 HB2 HLN HLNE HB1
        go_wp2
        refine wp_forget (fun y => ({ tmps := List.toArray (.pointer (some ⟨ta, 0, none⟩) :: .int .u64 (p : Int) :: leafV x :: y 3 :: y 4 :: .pointer (some ⟨w.heap.size, 0, none⟩) :: .int .i64 0 :: .slice (some ⟨γ, 0, none⟩) 1 1 :: .int .u64 (p : Int) :: y 9 :: y 10 :: y 11 :: y 12 :: y 13 :: y 14 :: y 15 :: y 16 :: y 17 :: y 18 :: y 19 :: y 20 :: y 21 :: y 22 :: y 23 :: y 24 :: y 25 :: y 26 :: y 27 :: y 28 :: y 29 :: y 30 :: y 31 :: y 32 :: y 33 :: y 34 :: y 35 :: y 36 :: y 37 :: y 38 :: y 39 :: y 40 :: y 41 :: y 42 :: y 43 :: y 44 :: y 45 :: y 46 :: .slice (some ⟨gv, 0, none⟩) K cv :: .int .i64 (K : Int) :: .int .i64 0 :: y 50 :: y 51 :: y 52 :: y 53 :: y 54 :: y 55 :: y 56 :: y 57 :: y 58 :: y 59 :: y 60 :: y 61 :: y 62 :: y 63 :: y 64 :: y 65 :: y 66 :: y 67 :: y 68 :: y 69 :: y 70 :: y 71 :: y 72 :: y 73 :: y 74 :: y 75 :: y 76 :: y 77 :: y 78 :: y 79 :: y 80 :: y 81 :: y 82 :: y 83 :: y 84 :: y 85 :: y 86 :: y 87 :: y 88 :: y 89 :: y 90 :: y 91 :: y 92 :: y 93 :: y 94 :: y 95 :: y 96 :: y 97 :: y 98 :: y 99 :: y 100 :: y 101 :: y 102 :: y 103 :: y 104 :: y 105 :: y 106 :: y 107 :: y 108 :: y 109 :: y 110 :: y 111 :: y 112 :: y 113 :: y 114 :: y 115 :: y 116 :: y 117 :: y 118 :: []), defers := [] } : Act)) rfl ?_
        intro y
        go_loopw [7, 8, 49] (fun v7 v8 v49 wr => ∃ i q : Nat, v49 = .int .i64 (i : Int) ∧ v8 = .int .u64 (q : Int) ∧ Aside0 (i ≤ K ∧ q = p / 2 ^ i) ∧ Aside0 (StL base ta gl cl (.slice (some ⟨gv, 0, none⟩) (K + 1) cv) gs wd ls p x w i v7 wr)) (fun _ _ v49 _ => K - (intOf v49).toNat)
        case atStart => exact ⟨0, p, rfl, rfl, ⟨⟨Nat.zero_le _, by rw [Nat.pow_zero, Nat.div_one]⟩⟩, HS5⟩
        case round =>
          obtain ⟨i, q, rfl, rfl, HI, HS⟩ := hrel
          obtain ⟨g7, c7, rfl, -, hg7⟩ := HS.out.o.form (by omega)
          have hK10 := HK10.out
          have HG7 := aM' hg7
          clear hg7
          by_cases hlt : i < K
          · have b1 : decide ((i : Int) < (K : Int)) = true := decide_eq_true (by omega)
            have b2 : decide (i < K) = true := decide_eq_true hlt
            have hrow : (treeT wd ls).rows[i]? = some (upV wd i (ls.map (leafNodeI wd))) := levelsV_get wd _ i _ (by have := HRL.out; have h : (treeT wd ls).rows = levelsV wd ls.length.log2 (ls.map (leafNodeI wd)) := rfl; rw [h, levelsV_len] at this; omega)
            obtain ⟨pr, hpr, l0, l1, hrc, hrd, hpm, cs, hpb, hpc⟩ := TreeOwn.level (cv := cv) (by rw [HRL.out]; exact HS.out.t) hrow
            obtain ⟨r, hr⟩ : ∃ r, r = upV wd i (ls.map (leafNodeI wd)) := ⟨_, rfl⟩
            rw [← hr] at hrow l0 hrc hrd hpc
            have hq := div_lt (by rw [← HKL.out]; exact HLT.out) (show i ≤ K by omega)
            have hrl : r.length = 2 ^ (K - i) := by rw [hr]; exact upV_len2 (by rw [List.length_map]; exact HKL.out) i (by omega)
            obtain ⟨sq, hsq⟩ : ∃ s, s = besN (p / 2 ^ i) := ⟨_, rfl⟩
            have hnk := besV_k (w := wd) (K := K) (by rw [List.length_map]; exact HKL.out) HKK.out.k HKK.out.t (by rw [← HKL.out]; exact HLT.out) i hlt
            have hsl : sq < r.length := by rw [hsq, hr]; exact hnk.2
            obtain ⟨wn, hwn⟩ : ∃ n, n = wayV wd (ls.map (leafNodeI wd)) p (leafNodeI wd x) i := ⟨_, rfl⟩
            obtain ⟨sn, hsn⟩ : ∃ n, n = besV wd (ls.map (leafNodeI wd)) p i := ⟨_, rfl⟩
            have HXX := aM' (show Go.bits .xor .u64 (q : Int) 1 = (sq : Int) by rw [hsq, HI.out.2]; exact bits_bes _ (Nat.lt_of_le_of_lt (Nat.div_le_self _ _) HP.out))
            have HSQ := aM' hsl
            have HSN := aM' (show NodeK wd sn by rw [hsn]; exact hnk.1)
            have HWN := aM' (show NodeK wd wn by rw [hwn]; exact HS.out.k i (Nat.le_refl _))
            have HW1 := aM' (show wayV wd (ls.map (leafNodeI wd)) p (leafNodeI wd x) (i + 1) = (if q % 2 = 1 then joinV wd sn wn else joinV wd wn sn) by rw [hsn, hwn, HI.out.2]; rfl)
            have hsr : r[sq] = sn := by
              have : besV wd (ls.map (leafNodeI wd)) p i = r.getD sq zeroN := by rw [hr, hsq]; rfl
              rw [hsn, this, List.getD_eq_getElem?_getD, List.getElem?_eq_getElem hsl]; rfl
            have hwr : (waysL wd ls p x (i + 1))[i]? = some wn := by
              rw [waysL_succ, List.getElem?_append_right (by rw [waysL_len]; omega), waysL_len, Nat.sub_self, hwn]; rfl
            have hcs := HS.out.o.cells (g := g7) rfl
            have ea : ∀ n, (⟨g7, 0, none⟩ : Addr).add n = ⟨g7, n, none⟩ := fun n => by unfold Addr.add; split <;> simp_all
            have eb : ∀ n, (⟨pr.1, 0, none⟩ : Addr).add n = ⟨pr.1, n, none⟩ := fun n => by unfold Addr.add; split <;> simp_all
            have w0 := cellsN_get _ i 0 wn hwr (by decide)
            have w1' := cellsN_get _ i 1 wn hwr (by decide)
            have w2' := cellsN_get _ i 2 wn hwr (by decide)
            have W0 := hcs _ _ w0
            have W1 := hcs _ _ w1'
            have W2' := hcs _ _ w2'
            rw [ea] at W0 W1 W2'
            obtain ⟨ad, e1, p0, p1, p2⟩ := at_TNode hrd (sq : Int) (by omega) (by omega)
            cases e1
            rw [rdNode_nat r sq hsl, Int.toNat_natCast, hsr] at p0 p1 p2
            rw [eb] at p0 p1 p2
            have hb11 := below_alloc (Below.refl wr.heap.size wr) (.cells #[rowV pr r, .int .i64 (i : Int)] 109)
            have EW := aM' (show (wr.alloc (.cells #[rowV pr r, .int .i64 (i : Int)] 109)).cell? ⟨g7, i * 3, none⟩ = some (.string wn.f0) ∧ (wr.alloc (.cells #[rowV pr r, .int .i64 (i : Int)] 109)).cell? ⟨g7, i * 3 + 1, none⟩ = some (.int .u64 wn.f1.f0) ∧ (wr.alloc (.cells #[rowV pr r, .int .i64 (i : Int)] 109)).cell? ⟨g7, i * 3 + 2, none⟩ = some (.int .u64 wn.f1.f1) from ⟨pw_cell_below hb11 W0, pw_cell_below hb11 W1, pw_cell_below hb11 W2'⟩)
            have ES := aM' (show (wr.alloc (.cells #[rowV pr r, .int .i64 (i : Int)] 109)).cell? ⟨pr.1, sq * 3, none⟩ = some (.string sn.f0) ∧ (wr.alloc (.cells #[rowV pr r, .int .i64 (i : Int)] 109)).cell? ⟨pr.1, sq * 3 + 1, none⟩ = some (.int .u64 sn.f1.f0) ∧ (wr.alloc (.cells #[rowV pr r, .int .i64 (i : Int)] 109)).cell? ⟨pr.1, sq * 3 + 2, none⟩ = some (.int .u64 sn.f1.f1) from ⟨pw_cell_below hb11 p0, pw_cell_below hb11 p1, pw_cell_below hb11 p2⟩)
            have H10 := aM' (blk_new wr (.cells #[rowV pr r, .int .i64 (i : Int)] 109))
            have HS10 := aM' (HS.out.below hb11)
            clear hr hpr hpc hpb hpm hrc hrd hrow hq hrl hsq hnk hsl hwn hsn hsr hwr hcs ea eb w0 w1' w2' W0 W1 W2' p0 p1 p2 hb11
            go_upto_region 12 with (fail)
            obtain ⟨g10, hg10⟩ : ∃ g, g = wr.heap.size := ⟨_, rfl⟩
            obtain ⟨V, hV⟩ : ∃ V, V = wr.alloc (.cells #[rowV pr r, .int .i64 (i : Int)] 109) := ⟨_, rfl⟩
            rw [← hg10, ← hV] at H10
            rw [← hV] at EW ES HS10
            simp only [← hg10, ← hV]
            clear hg10 hV l0 l1
            refine wp_forget (fun z => ({ tmps := List.toArray (.pointer (some ⟨ta, 0, none⟩) :: .int .u64 (p : Int) :: leafV x :: y 3 :: y 4 :: .pointer (some ⟨w.heap.size, 0, none⟩) :: z 6 :: .slice (some ⟨g7, 0, none⟩) (i + 1) c7 :: .int .u64 (q : Int) :: y 9 :: .pointer (some ⟨g10, 0, none⟩) :: z 11 :: z 12 :: z 13 :: z 14 :: y 15 :: y 16 :: y 17 :: y 18 :: y 19 :: y 20 :: y 21 :: y 22 :: y 23 :: y 24 :: y 25 :: y 26 :: y 27 :: y 28 :: y 29 :: y 30 :: y 31 :: y 32 :: y 33 :: y 34 :: y 35 :: y 36 :: y 37 :: y 38 :: y 39 :: y 40 :: y 41 :: y 42 :: y 43 :: y 44 :: y 45 :: y 46 :: .slice (some ⟨gv, 0, none⟩) K cv :: .int .i64 (K : Int) :: .int .i64 (i : Int) :: z 50 :: z 51 :: z 52 :: z 53 :: z 54 :: z 55 :: z 56 :: z 57 :: z 58 :: z 59 :: z 60 :: z 61 :: z 62 :: z 63 :: z 64 :: z 65 :: z 66 :: z 67 :: z 68 :: z 69 :: z 70 :: z 71 :: z 72 :: z 73 :: z 74 :: z 75 :: z 76 :: z 77 :: z 78 :: z 79 :: z 80 :: z 81 :: z 82 :: z 83 :: z 84 :: z 85 :: z 86 :: z 87 :: z 88 :: z 89 :: y 90 :: y 91 :: y 92 :: y 93 :: y 94 :: y 95 :: y 96 :: y 97 :: y 98 :: y 99 :: y 100 :: y 101 :: y 102 :: y 103 :: y 104 :: y 105 :: y 106 :: y 107 :: y 108 :: y 109 :: y 110 :: y 111 :: y 112 :: y 113 :: y 114 :: y 115 :: y 116 :: y 117 :: y 118 :: []), defers := [] } : Act)) rfl ?_
            intro z
            refine region_inv (fun l a W => ∃ γ : Nat, ∃ δ : Nat, a = ({ tmps := #[.pointer (some ⟨ta, 0, none⟩), .int .u64 (p : Int), leafV x, y 3, y 4, .pointer (some ⟨w.heap.size, 0, none⟩), z 6, .slice (some ⟨g7, 0, none⟩) (i + 1) c7, .int .u64 (q : Int), y 9, .pointer (some ⟨g10, 0, none⟩), sel (l 12) (.pointer (some ⟨γ, 0, none⟩)) (z 11), sel (l 13) (.pointer (some ⟨δ, 0, none⟩)) (z 12), z 13, z 14, y 15, y 16, y 17, y 18, y 19, y 20, y 21, y 22, y 23, y 24, y 25, y 26, y 27, y 28, y 29, y 30, y 31, y 32, y 33, y 34, y 35, y 36, y 37, y 38, y 39, y 40, y 41, y 42, y 43, y 44, y 45, y 46, .slice (some ⟨gv, 0, none⟩) K cv, .int .i64 (K : Int), .int .i64 (i : Int), z 50, z 51, z 52, sel (l 0) (.slice (some ⟨g7, 0, none⟩) (i + 1) c7) (z 53), sel (l 1) (.pointer (some ⟨g10, 1, none⟩)) (z 54), sel (l 2) (.int .i64 (i : Int)) (z 55), sel (l 3) (.pointer (some ⟨g7, i * 3, none⟩)) (z 56), sel (l 4) (.agg #[.string wn.f0, .int .u64 wn.f1.f0, .int .u64 wn.f1.f1]) (z 57), sel (l 5) (.pointer (some ⟨g10, 0, none⟩)) (z 58), sel (l 6) (.pointer (some ⟨g10, 0, none⟩)) (z 59), sel (l 7) (.slice (some ⟨pr.1, 0, none⟩) r.length pr.2) (z 60), sel (l 8) (.int .u64 (q : Int)) (z 61), sel (l 9) (.int .u64 (sq : Int)) (z 62), sel (l 10) (.pointer (some ⟨pr.1, sq * 3, none⟩)) (z 63), sel (l 11) (.agg #[.string sn.f0, .int .u64 sn.f1.f0, .int .u64 sn.f1.f1]) (z 64), z 65, z 66, z 67, z 68, z 69, z 70, z 71, z 72, z 73, z 74, z 75, z 76, z 77, z 78, z 79, z 80, z 81, z 82, z 83, z 84, z 85, z 86, z 87, z 88, z 89, y 90, y 91, y 92, y 93, y 94, y 95, y 96, y 97, y 98, y 99, y 100, y 101, y 102, y 103, y 104, y 105, y 106, y 107, y 108, y 109, y 110, y 111, y 112, y 113, y 114, y 115, y 116, y 117, y 118], defers := [] } : Act) ∧ St12 V W wn sn l γ δ) 16 rfl rfl (by kernel_rfl) ?h0 ?hend ?hstep
            case h0 => exact ⟨0, 0, rfl, St12.start V wn sn⟩
            case hstep =>
              refine rg_cons (rg_cons (rg_cons (rg_cons (rg_cons (rg_cons (rg_cons (rg_cons (rg_cons (rg_cons (rg_cons (rg_cons (rg_cons (rg_cons (rg_cons (rg_cons (rg_nil) ?s0) ?s1) ?s2) ?s3) ?s4) ?s5) ?s6) ?s7) ?s8) ?s9) ?s10) ?s11) ?s12) ?s13) ?s14) ?s15
              case s0 =>
                refine rg_step rfl ?_
                rintro l a W ⟨γ, δ, rfl, hI⟩ hl hd
                clear hd
                refine rg_val (v := .slice (some ⟨g7, 0, none⟩) (i + 1) c7) (w' := W) rfl (by go_simp) ?_
                refine ⟨γ, δ, ?_, ?_⟩
                · simp only [Act.put, List.setIfInBounds_toArray, List.set_cons_zero, List.set_cons_succ]; rfl
                · exact hI.same 0 (by decide)
              case s1 =>
                refine rg_step rfl ?_
                rintro l a W ⟨γ, δ, rfl, hI⟩ hl hd
                clear hd
                refine rg_val (v := .pointer (some ⟨g10, 1, none⟩)) (w' := W) rfl (by go_simp) ?_
                refine ⟨γ, δ, ?_, ?_⟩
                · simp only [Act.put, List.setIfInBounds_toArray, List.set_cons_zero, List.set_cons_succ]; rfl
                · exact hI.same 1 (by decide)
              case s2 =>
                refine rg_step rfl ?_
                rintro l a W ⟨γ, δ, rfl, hI⟩ hl hd
                have d1 := hd 1 (by decide)
                clear hd
                have x1 := blk_cell (blk_below H10.out hI.b) 1
                simp at x1
                refine rg_val (v := .int .i64 (i : Int)) (w' := W) rfl (by go_simp) ?_
                refine ⟨γ, δ, ?_, ?_⟩
                · simp only [Act.put, List.setIfInBounds_toArray, List.set_cons_zero, List.set_cons_succ]; rfl
                · exact hI.same 2 (by decide)
              case s3 =>
                refine rg_step rfl ?_
                rintro l a W ⟨γ, δ, rfl, hI⟩ hl hd
                have d0 := hd 0 (by decide)
                have d2 := hd 2 (by decide)
                clear hd
                refine rg_val (v := .pointer (some ⟨g7, i * 3, none⟩)) (w' := W) rfl (by go_simp; try omega) ?_
                refine ⟨γ, δ, ?_, ?_⟩
                · simp only [Act.put, List.setIfInBounds_toArray, List.set_cons_zero, List.set_cons_succ]; rfl
                · exact hI.same 3 (by decide)
              case s4 =>
                refine rg_step rfl ?_
                rintro l a W ⟨γ, δ, rfl, hI⟩ hl hd
                have d3 := hd 3 (by decide)
                clear hd
                have x0 := pw_cell_below hI.b EW.out.1
                have x1 := pw_cell_below hI.b EW.out.2.1
                have x2 := pw_cell_below hI.b EW.out.2.2
                refine rg_val (v := .agg #[.string wn.f0, .int .u64 wn.f1.f0, .int .u64 wn.f1.f1]) (w' := W) rfl (by go_simp) ?_
                refine ⟨γ, δ, ?_, ?_⟩
                · simp only [Act.put, List.setIfInBounds_toArray, List.set_cons_zero, List.set_cons_succ]; rfl
                · exact hI.same 4 (by decide)
              case s5 =>
                refine rg_step rfl ?_
                rintro l a W ⟨γ, δ, rfl, hI⟩ hl hd
                clear hd
                refine rg_val (v := .pointer (some ⟨g10, 0, none⟩)) (w' := W) rfl (by go_simp) ?_
                refine ⟨γ, δ, ?_, ?_⟩
                · simp only [Act.put, List.setIfInBounds_toArray, List.set_cons_zero, List.set_cons_succ]; rfl
                · exact hI.same 5 (by decide)
              case s6 =>
                refine rg_step rfl ?_
                rintro l a W ⟨γ, δ, rfl, hI⟩ hl hd
                have d5 := hd 5 (by decide)
                clear hd
                refine rg_val (v := .pointer (some ⟨g10, 0, none⟩)) (w' := W) rfl (by go_simp) ?_
                refine ⟨γ, δ, ?_, ?_⟩
                · simp only [Act.put, List.setIfInBounds_toArray, List.set_cons_zero, List.set_cons_succ]; rfl
                · exact hI.same 6 (by decide)
              case s7 =>
                refine rg_step rfl ?_
                rintro l a W ⟨γ, δ, rfl, hI⟩ hl hd
                have d6 := hd 6 (by decide)
                clear hd
                have x0 := blk_cell (blk_below H10.out hI.b) 0
                simp at x0
                refine rg_val (v := .slice (some ⟨pr.1, 0, none⟩) r.length pr.2) (w' := W) rfl (by go_simp) ?_
                refine ⟨γ, δ, ?_, ?_⟩
                · simp only [Act.put, List.setIfInBounds_toArray, List.set_cons_zero, List.set_cons_succ]; rfl
                · exact hI.same 7 (by decide)
              case s8 =>
                refine rg_step rfl ?_
                rintro l a W ⟨γ, δ, rfl, hI⟩ hl hd
                clear hd
                refine rg_val (v := .int .u64 (q : Int)) (w' := W) rfl (by go_simp) ?_
                refine ⟨γ, δ, ?_, ?_⟩
                · simp only [Act.put, List.setIfInBounds_toArray, List.set_cons_zero, List.set_cons_succ]; rfl
                · exact hI.same 8 (by decide)
              case s9 =>
                refine rg_step rfl ?_
                rintro l a W ⟨γ, δ, rfl, hI⟩ hl hd
                have d8 := hd 8 (by decide)
                clear hd
                have hxx := HXX.out
                refine rg_val (v := .int .u64 (sq : Int)) (w' := W) rfl (by go_simp) ?_
                refine ⟨γ, δ, ?_, ?_⟩
                · simp only [Act.put, List.setIfInBounds_toArray, List.set_cons_zero, List.set_cons_succ]; rfl
                · exact hI.same 9 (by decide)
              case s10 =>
                refine rg_step rfl ?_
                rintro l a W ⟨γ, δ, rfl, hI⟩ hl hd
                have d7 := hd 7 (by decide)
                have d9 := hd 9 (by decide)
                clear hd
                have hsq := HSQ.out
                refine rg_val (v := .pointer (some ⟨pr.1, sq * 3, none⟩)) (w' := W) rfl (by go_simp; try omega) ?_
                refine ⟨γ, δ, ?_, ?_⟩
                · simp only [Act.put, List.setIfInBounds_toArray, List.set_cons_zero, List.set_cons_succ]; rfl
                · exact hI.same 10 (by decide)
              case s11 =>
                refine rg_step rfl ?_
                rintro l a W ⟨γ, δ, rfl, hI⟩ hl hd
                have d10 := hd 10 (by decide)
                clear hd
                have x0 := pw_cell_below hI.b ES.out.1
                have x1 := pw_cell_below hI.b ES.out.2.1
                have x2 := pw_cell_below hI.b ES.out.2.2
                refine rg_val (v := .agg #[.string sn.f0, .int .u64 sn.f1.f0, .int .u64 sn.f1.f1]) (w' := W) rfl (by go_simp) ?_
                refine ⟨γ, δ, ?_, ?_⟩
                · simp only [Act.put, List.setIfInBounds_toArray, List.set_cons_zero, List.set_cons_succ]; rfl
                · exact hI.same 11 (by decide)
              case s12 =>
                refine rg_step rfl ?_
                rintro l a W ⟨γ, δ, rfl, hI⟩ hl hd
                clear hd
                have hs : l 14 = false := hI.no12 hl
                have hs' : upd l 12 14 = false := hs
                refine rg_val (v := .pointer (some ⟨W.heap.size, 0, none⟩)) (w' := W.alloc (.cells #[.string ⟨#[]⟩, .int .u64 0, .int .u64 0] 46)) rfl (by go_simp) ?_
                refine ⟨W.heap.size, δ, ?_, ?_⟩
                · simp only [Act.put, List.setIfInBounds_toArray, List.set_cons_zero, List.set_cons_succ]; rfl
                · exact hI.made12 hl
              case s13 =>
                refine rg_step rfl ?_
                rintro l a W ⟨γ, δ, rfl, hI⟩ hl hd
                clear hd
                have hs : l 15 = false := hI.no13 hl
                have hs' : upd l 13 15 = false := hs
                refine rg_val (v := .pointer (some ⟨W.heap.size, 0, none⟩)) (w' := W.alloc (.cells #[.string ⟨#[]⟩, .int .u64 0, .int .u64 0] 46)) rfl (by go_simp) ?_
                refine ⟨γ, W.heap.size, ?_, ?_⟩
                · simp only [Act.put, List.setIfInBounds_toArray, List.set_cons_zero, List.set_cons_succ]; rfl
                · exact hI.made13 hl
              case s14 =>
                refine rg_step rfl ?_
                rintro l a W ⟨γ, δ, rfl, hI⟩ hl hd
                have d4 := hd 4 (by decide)
                have d12 := hd 12 (by decide)
                clear hd
                have hz := hI.h12 d12
                rw [if_neg (by rw [hl]; decide)] at hz
                have z0 := blk_cell hz.2 0
                have z1 := blk_cell hz.2 1
                have z2 := blk_cell hz.2 2
                have zf := fun i => blk_frozen hz.2 i
                simp at z0 z1 z2
                refine rg_skip rfl (by go_simp; rfl) ?_
                refine ⟨γ, δ, ?_, ?_⟩
                · simp only [Act.put, List.setIfInBounds_toArray, List.set_cons_zero, List.set_cons_succ]; rfl
                · exact hI.stored14 hl d12
              case s15 =>
                refine rg_step rfl ?_
                rintro l a W ⟨γ, δ, rfl, hI⟩ hl hd
                have d11 := hd 11 (by decide)
                have d13 := hd 13 (by decide)
                clear hd
                have hz := hI.h13 d13
                rw [if_neg (by rw [hl]; decide)] at hz
                have z0 := blk_cell hz.2 0
                have z1 := blk_cell hz.2 1
                have z2 := blk_cell hz.2 2
                have zf := fun i => blk_frozen hz.2 i
                simp at z0 z1 z2
                refine rg_skip rfl (by go_simp; rfl) ?_
                refine ⟨γ, δ, ?_, ?_⟩
                · simp only [Act.put, List.setIfInBounds_toArray, List.set_cons_zero, List.set_cons_succ]; rfl
                · exact hI.stored15 hl d13
            case hend =>
              rintro l a W ⟨γ, δ, rfl, hI⟩ hall
              have e0 := hall 0 (by decide)
              have e1 := hall 1 (by decide)
              have e2 := hall 2 (by decide)
              have e3 := hall 3 (by decide)
              have e4 := hall 4 (by decide)
              have e5 := hall 5 (by decide)
              have e6 := hall 6 (by decide)
              have e7 := hall 7 (by decide)
              have e8 := hall 8 (by decide)
              have e9 := hall 9 (by decide)
              have e10 := hall 10 (by decide)
              have e11 := hall 11 (by decide)
              have e12 := hall 12 (by decide)
              have e13 := hall 13 (by decide)
              have e14 := hall 14 (by decide)
              have e15 := hall 15 (by decide)
              clear hall
              have hn := hI.done e12 e13 e14 e15
              have hB := hI.b
              simp only [e0, e1, e2, e3, e4, e5, e6, e7, e8, e9, e10, e11, e12, e13, e14, e15, sel_true]
              clear e0 e1 e2 e3 e4 e5 e6 e7 e8 e9 e10 e11 e12 e13 e14 e15
              clear hI
              obtain ⟨⟨hgs, hG⟩, ⟨hds, hD⟩, hne⟩ := hn
              have HB12 := aM' hB
              have HGG := aM' (And.intro hgs hG)
              have HDD := aM' (And.intro hds hD)
              have HNE := aM' hne
              clear hB hgs hG hds hD hne
              obtain ⟨o, ho⟩ : ∃ o, o = q % 2 := ⟨_, rfl⟩
              have hod : Go.bits .and .u64 (q : Int) 1 = (o : Int) := by rw [ho]; exact bits_odd q (by rw [HI.out.2]; exact Nat.lt_of_le_of_lt (Nat.div_le_self _ _) HP.out)
              obtain ⟨bo, hbo⟩ : ∃ b : Bool, ((o : Int) == 1) = b := ⟨_, rfl⟩
              have HBO := aM' (show bo = decide (q % 2 = 1) by
                rw [← hbo, ← ho, Bool.eq_iff_iff, beq_iff_eq, decide_eq_true_iff]; omega)
              obtain ⟨Ln, hLn⟩ : ∃ n, n = if bo = true then sn else wn := ⟨_, rfl⟩
              obtain ⟨Rn, hRn⟩ : ∃ n, n = if bo = true then wn else sn := ⟨_, rfl⟩
              have HLN := aM' hLn
              have HRN := aM' hRn
              clear hLn hRn ho
              go_upto_region 13 with (fail)
              refine wp_forget (fun z => ({ tmps := List.toArray (.pointer (some ⟨ta, 0, none⟩) :: .int .u64 (p : Int) :: leafV x :: y 3 :: y 4 :: .pointer (some ⟨w.heap.size, 0, none⟩) :: z 6 :: .slice (some ⟨g7, 0, none⟩) (i + 1) c7 :: .int .u64 (q : Int) :: y 9 :: .pointer (some ⟨g10, 0, none⟩) :: .pointer (some ⟨γ, 0, none⟩) :: .pointer (some ⟨δ, 0, none⟩) :: z 13 :: z 14 :: y 15 :: y 16 :: y 17 :: y 18 :: y 19 :: y 20 :: y 21 :: y 22 :: y 23 :: y 24 :: y 25 :: y 26 :: y 27 :: y 28 :: y 29 :: y 30 :: y 31 :: y 32 :: y 33 :: y 34 :: y 35 :: y 36 :: y 37 :: y 38 :: y 39 :: y 40 :: y 41 :: y 42 :: y 43 :: y 44 :: y 45 :: y 46 :: .slice (some ⟨gv, 0, none⟩) K cv :: .int .i64 (K : Int) :: .int .i64 (i : Int) :: z 50 :: z 51 :: z 52 :: z 53 :: z 54 :: z 55 :: z 56 :: z 57 :: z 58 :: z 59 :: z 60 :: z 61 :: z 62 :: z 63 :: z 64 :: z 65 :: z 66 :: z 67 :: z 68 :: z 69 :: z 70 :: z 71 :: z 72 :: z 73 :: z 74 :: z 75 :: z 76 :: z 77 :: z 78 :: z 79 :: z 80 :: z 81 :: z 82 :: z 83 :: z 84 :: z 85 :: z 86 :: z 87 :: z 88 :: z 89 :: y 90 :: y 91 :: y 92 :: y 93 :: y 94 :: y 95 :: y 96 :: y 97 :: y 98 :: y 99 :: y 100 :: y 101 :: y 102 :: y 103 :: y 104 :: y 105 :: y 106 :: y 107 :: y 108 :: y 109 :: y 110 :: y 111 :: y 112 :: y 113 :: y 114 :: y 115 :: y 116 :: y 117 :: y 118 :: []), defers := [] } : Act)) rfl ?_
              intro z
              go_upto_if 67 with (fail)
              clear hod hbo
              go_cut [] (fun wc => Aside0 (Below V.heap.size V wc ∧ wc.heap[γ]? = some (.cells (nodeA Ln) 46 (0, 0)) ∧ wc.heap[δ]? = some (.cells (nodeA Rn) 46 (0, 0))))
              case first =>
                cases bo with
                | false =>
                  go_wp2
                  go_meet
                  exact ⟨⟨HB12.out, by rw [HLN.out]; exact HGG.out.2, by rw [HRN.out]; exact HDD.out.2⟩⟩
                | true =>
                  have p0 := blk_cell HGG.out.2 0
                  have p1 := blk_cell HGG.out.2 1
                  have p2 := blk_cell HGG.out.2 2
                  have pf := fun i => blk_frozen HGG.out.2 i
                  have s0 := blk_cell HDD.out.2 0
                  have s1 := blk_cell HDD.out.2 1
                  have s2 := blk_cell HDD.out.2 2
                  have sf := fun i => blk_frozen HDD.out.2 i
                  simp at p0 p1 p2 s0 s1 s2
                  have hne := HNE.out
                  have hne2 := Ne.symm hne
                  go_wp2
                  go_meet
                  refine ⟨⟨below_set (below_set (below_set (below_set (below_set (below_set HB12.out HGG.out.1) HGG.out.1) HGG.out.1) HDD.out.1) HDD.out.1) HDD.out.1, ?_, ?_⟩⟩
                  · rw [HLN.out, if_pos (by trivial)]
                    exact blk_far (blk_far (blk_far (blk_put (blk_put (blk_put HGG.out.2 0 _ rfl) 1 _ rfl) 2 _ rfl) (by exact hne) _) (by exact hne) _) (by exact hne) _
                  · rw [HRN.out, if_pos (by trivial)]
                    exact blk_put (blk_put (blk_put (blk_far (blk_far (blk_far HDD.out.2 (by exact hne2) _) (by exact hne2) _) (by exact hne2) _) 0 _ rfl) 1 _ rfl) 2 _ rfl
              case rest =>
                have HC : Aside0 (Below V.heap.size V wc ∧ wc.heap[γ]? = some (.cells (nodeA Ln) 46 (0, 0)) ∧ wc.heap[δ]? = some (.cells (nodeA Rn) 46 (0, 0))) := hcut
                clear hcut
                have HSC := aM' (HS10.out.below HC.out.1)
                have HAC := aM' (show wc.heap[ta]? = some (.cells #[.int .i64 wd, .slice (some ⟨gl, 0, none⟩) ls.length cl, .slice (some ⟨gv, 0, none⟩) (K + 1) cv] 105 (0, 0)) from HSC.out.t.ht)
                have hKL : NodeK wd Ln := by rw [HLN.out]; split
                                             · exact HSN.out
                                             · exact HWN.out
                have hKR : NodeK wd Rn := by rw [HRN.out]; split
                                             · exact HWN.out
                                             · exact HSN.out
                have hW1 : wayV wd (ls.map (leafNodeI wd)) p (leafNodeI wd x) (i + 1) = joinV wd Ln Rn := by
                  rw [HW1.out, HLN.out, HRN.out, HBO.out]
                  by_cases h : q % 2 = 1
                  · simp [h]
                  · simp [h]
                obtain ⟨jn, je, hje⟩ : ∃ (jn : SNode) (je : Int), joinI wd Ln Rn = (jn.f0, jn.f1.f0, jn.f1.f1, je) := ⟨⟨_, ⟨_, _⟩⟩, _, rfl⟩
                have HJE : Aside0 ((je = 0 ∧ jn = wayV wd (ls.map (leafNodeI wd)) p (leafNodeI wd x) (i + 1) ∧ NodeK wd jn) ∨ (je = 10 ∧ setI wd ls p x = 10)) := by
                  refine ⟨?_⟩
                  by_cases hroom : valU Ln.f1 + valU Rn.f1 < 340282366920938463463374607431768211456
                  · rw [joinI_room hKL hKR hroom] at hje
                    have e := Prod.mk.inj hje
                    have e2 := Prod.mk.inj e.2
                    have e3 := Prod.mk.inj e2.2
                    have ej : jn = joinV wd Ln Rn := by
                      obtain ⟨a1, b1, c1⟩ := jn
                      show (⟨a1, ⟨b1, c1⟩⟩ : SNode) = ⟨(joinV wd Ln Rn).f0, ⟨(joinV wd Ln Rn).f1.f0, (joinV wd Ln Rn).f1.f1⟩⟩
                      rw [e.1, e2.1, e3.1]
                    exact .inl ⟨e3.2.symm, by rw [hW1, ej], by rw [ej]; exact joinV_k hKL hKR hroom⟩
                  · rw [joinI_full hKL hKR hroom] at hje
                    have e3 := Prod.mk.inj (Prod.mk.inj (Prod.mk.inj hje).2).2
                    refine .inr ⟨e3.2.symm, ?_⟩
                    have h1 := way_le wd (K := K) (by rw [List.length_map]; exact HKL.out) HKK.out.k HKK.out.t (by rw [← HKL.out]; exact HLT.out) (leafNodeI wd x) (i + 1) (by omega)
                    rw [hW1, joinV_val] at h1
                    unfold setI
                    rw [if_neg (show ¬ ls.length ≤ p by have := HLT.out; omega), if_neg (by rw [HML.out]; decide), if_neg (by rw [List.map_set]; omega)]
                obtain ⟨kj, hkj⟩ := (join_ev wd Ln Rn hKL.u hKR.u).rounds
                rw [hje] at hkj
                have HJ := aM' hkj
                clear hkj hje hKL hKR hW1
                go_upto_region 15 with (fail)
                refine wp_forget (fun z => ({ tmps := List.toArray (.pointer (some ⟨ta, 0, none⟩) :: .int .u64 (p : Int) :: leafV x :: y 3 :: y 4 :: .pointer (some ⟨w.heap.size, 0, none⟩) :: z 6 :: .slice (some ⟨g7, 0, none⟩) (i + 1) c7 :: .int .u64 (q : Int) :: y 9 :: .pointer (some ⟨g10, 0, none⟩) :: .pointer (some ⟨γ, 0, none⟩) :: .pointer (some ⟨δ, 0, none⟩) :: z 13 :: z 14 :: y 15 :: y 16 :: y 17 :: y 18 :: y 19 :: y 20 :: y 21 :: y 22 :: y 23 :: y 24 :: y 25 :: y 26 :: y 27 :: y 28 :: y 29 :: y 30 :: y 31 :: y 32 :: y 33 :: y 34 :: y 35 :: y 36 :: y 37 :: y 38 :: y 39 :: y 40 :: y 41 :: y 42 :: y 43 :: y 44 :: y 45 :: y 46 :: .slice (some ⟨gv, 0, none⟩) K cv :: .int .i64 (K : Int) :: .int .i64 (i : Int) :: z 50 :: z 51 :: z 52 :: z 53 :: z 54 :: z 55 :: z 56 :: z 57 :: z 58 :: z 59 :: z 60 :: z 61 :: z 62 :: z 63 :: z 64 :: z 65 :: z 66 :: z 67 :: z 68 :: z 69 :: z 70 :: z 71 :: z 72 :: z 73 :: z 74 :: z 75 :: z 76 :: z 77 :: z 78 :: z 79 :: z 80 :: z 81 :: z 82 :: z 83 :: z 84 :: z 85 :: z 86 :: z 87 :: z 88 :: z 89 :: y 90 :: y 91 :: y 92 :: y 93 :: y 94 :: y 95 :: y 96 :: y 97 :: y 98 :: y 99 :: y 100 :: y 101 :: y 102 :: y 103 :: y 104 :: y 105 :: y 106 :: y 107 :: y 108 :: y 109 :: y 110 :: y 111 :: y 112 :: y 113 :: y 114 :: y 115 :: y 116 :: y 117 :: y 118 :: []), defers := [] } : Act)) rfl ?_
                intro z
                refine region_inv (fun l a W => ∃ ε : Nat, a = ({ tmps := #[.pointer (some ⟨ta, 0, none⟩), .int .u64 (p : Int), leafV x, y 3, y 4, .pointer (some ⟨w.heap.size, 0, none⟩), z 6, .slice (some ⟨g7, 0, none⟩) (i + 1) c7, .int .u64 (q : Int), y 9, .pointer (some ⟨g10, 0, none⟩), .pointer (some ⟨γ, 0, none⟩), .pointer (some ⟨δ, 0, none⟩), sel (l 10) (.pointer (some ⟨ε, 0, none⟩)) (z 13), sel (l 12) (.int .i64 je) (z 14), y 15, y 16, y 17, y 18, y 19, y 20, y 21, y 22, y 23, y 24, y 25, y 26, y 27, y 28, y 29, y 30, y 31, y 32, y 33, y 34, y 35, y 36, y 37, y 38, y 39, y 40, y 41, y 42, y 43, y 44, y 45, y 46, .slice (some ⟨gv, 0, none⟩) K cv, .int .i64 (K : Int), .int .i64 (i : Int), z 50, z 51, z 52, z 53, z 54, z 55, z 56, z 57, z 58, z 59, z 60, z 61, z 62, z 63, z 64, z 65, z 66, z 67, z 68, z 69, sel (l 7) (.tuple #[.agg #[.string jn.f0, .int .u64 jn.f1.f0, .int .u64 jn.f1.f1], .int .i64 je]) (z 70), sel (l 0) (.pointer (some ⟨ta, 0, none⟩)) (z 71), sel (l 1) (.pointer (some ⟨ta, 0, none⟩)) (z 72), sel (l 2) (.pointer (some ⟨ta, 0, none⟩)) (z 73), sel (l 3) (.int .i64 wd) (z 74), sel (l 4) (.agg #[.string Ln.f0, .int .u64 Ln.f1.f0, .int .u64 Ln.f1.f1]) (z 75), sel (l 5) (.agg #[.string Rn.f0, .int .u64 Rn.f1.f0, .int .u64 Rn.f1.f1]) (z 76), sel (l 6) (.tuple #[.agg #[.string jn.f0, .int .u64 jn.f1.f0, .int .u64 jn.f1.f1], .int .i64 je]) (z 77), sel (l 8) (.agg #[.string jn.f0, .int .u64 jn.f1.f0, .int .u64 jn.f1.f1]) (z 78), sel (l 9) (.int .i64 je) (z 79), z 80, z 81, z 82, z 83, z 84, z 85, z 86, z 87, z 88, z 89, y 90, y 91, y 92, y 93, y 94, y 95, y 96, y 97, y 98, y 99, y 100, y 101, y 102, y 103, y 104, y 105, y 106, y 107, y 108, y 109, y 110, y 111, y 112, y 113, y 114, y 115, y 116, y 117, y 118], defers := [] } : Act) ∧ (Below wc.heap.size wc W ∧ (l 10 = true → wc.heap.size ≤ ε ∧ W.heap[ε]? = some (.cells (if l 11 = true then nodeA jn else nodeA nodeZ) 46 (0, 0))) ∧ (l 11 = true → l 10 = true))) 13 rfl rfl (by kernel_rfl) ?h0 ?hend ?hstep
                case h0 => exact ⟨0, rfl, below_drew (Below.refl _ _), (fun h => by cases h), (fun h => by cases h)⟩
                case hstep =>
                  refine rg_cons (rg_cons (rg_cons (rg_cons (rg_cons (rg_cons (rg_cons (rg_cons (rg_cons (rg_cons (rg_cons (rg_cons (rg_cons (rg_nil) ?s0) ?s1) ?s2) ?s3) ?s4) ?s5) ?s6) ?s7) ?s8) ?s9) ?s10) ?s11) ?s12
                  case s0 =>
                    refine rg_step rfl ?_
                    rintro l a W ⟨ε, rfl, hI⟩ hl hd
                    clear hd
                    refine rg_val (v := .pointer (some ⟨ta, 0, none⟩)) (w' := W) rfl (by go_simp) ?_
                    refine ⟨ε, ?_, ?_⟩
                    · simp only [Act.put, List.setIfInBounds_toArray, List.set_cons_zero, List.set_cons_succ]; rfl
                    · exact hI
                  case s1 =>
                    refine rg_step rfl ?_
                    rintro l a W ⟨ε, rfl, hI⟩ hl hd
                    have d0 := hd 0 (by decide)
                    clear hd
                    refine rg_val (v := .pointer (some ⟨ta, 0, none⟩)) (w' := W) rfl (by go_simp) ?_
                    refine ⟨ε, ?_, ?_⟩
                    · simp only [Act.put, List.setIfInBounds_toArray, List.set_cons_zero, List.set_cons_succ]; rfl
                    · exact hI
                  case s2 =>
                    refine rg_step rfl ?_
                    rintro l a W ⟨ε, rfl, hI⟩ hl hd
                    have d1 := hd 1 (by decide)
                    clear hd
                    refine rg_val (v := .pointer (some ⟨ta, 0, none⟩)) (w' := W) rfl (by go_simp) ?_
                    refine ⟨ε, ?_, ?_⟩
                    · simp only [Act.put, List.setIfInBounds_toArray, List.set_cons_zero, List.set_cons_succ]; rfl
                    · exact hI
                  case s3 =>
                    refine rg_step rfl ?_
                    rintro l a W ⟨ε, rfl, hI⟩ hl hd
                    have d2 := hd 2 (by decide)
                    clear hd
                    have x0 := blk_cell (blk_below HAC.out hI.1) 0
                    simp at x0
                    refine rg_val (v := .int .i64 wd) (w' := W) rfl (by go_simp) ?_
                    refine ⟨ε, ?_, ?_⟩
                    · simp only [Act.put, List.setIfInBounds_toArray, List.set_cons_zero, List.set_cons_succ]; rfl
                    · exact hI
                  case s4 =>
                    refine rg_step rfl ?_
                    rintro l a W ⟨ε, rfl, hI⟩ hl hd
                    clear hd
                    have x0 := blk_cell (blk_below HC.out.2.1 hI.1) 0
                    have x1 := blk_cell (blk_below HC.out.2.1 hI.1) 1
                    have x2 := blk_cell (blk_below HC.out.2.1 hI.1) 2
                    simp at x0 x1 x2
                    refine rg_val (v := .agg #[.string Ln.f0, .int .u64 Ln.f1.f0, .int .u64 Ln.f1.f1]) (w' := W) rfl (by go_simp) ?_
                    refine ⟨ε, ?_, ?_⟩
                    · simp only [Act.put, List.setIfInBounds_toArray, List.set_cons_zero, List.set_cons_succ]; rfl
                    · exact hI
                  case s5 =>
                    refine rg_step rfl ?_
                    rintro l a W ⟨ε, rfl, hI⟩ hl hd
                    clear hd
                    have x0 := blk_cell (blk_below HC.out.2.2 hI.1) 0
                    have x1 := blk_cell (blk_below HC.out.2.2 hI.1) 1
                    have x2 := blk_cell (blk_below HC.out.2.2 hI.1) 2
                    simp at x0 x1 x2
                    refine rg_val (v := .agg #[.string Rn.f0, .int .u64 Rn.f1.f0, .int .u64 Rn.f1.f1]) (w' := W) rfl (by go_simp) ?_
                    refine ⟨ε, ?_, ?_⟩
                    · simp only [Act.put, List.setIfInBounds_toArray, List.set_cons_zero, List.set_cons_succ]; rfl
                    · exact hI
                  case s6 =>
                    refine rg_step rfl ?_
                    rintro l a W ⟨ε, rfl, hI⟩ hl hd
                    have d3 := hd 3 (by decide)
                    have d4 := hd 4 (by decide)
                    have d5 := hd 5 (by decide)
                    clear hd
                    refine rg_call rfl (by go_simp; exact ⟨rfl, rfl⟩) ?_
                    refine (node_Join.calls kj wd Ln.f0 Ln.f1.f0 Ln.f1.f1 Rn.f0 Rn.f1.f0 Rn.f1.f1 jn.f0 jn.f1.f0 jn.f1.f1 je W (HK.out.below (HSC.out.b.trans (hI.1.mono HSC.out.b.size))).1 HJ.out).mono ?_
                    rintro ee W' ⟨rfl, hb⟩
                    refine ⟨_, rfl, ε, ?_, ?_⟩
                    · simp only [Act.put, List.setIfInBounds_toArray, List.set_cons_zero, List.set_cons_succ]; rfl
                    · exact ⟨hI.1.trans (hb.mono hI.1.size), fun h => ⟨(hI.2.1 h).1, blk_below (hI.2.1 h).2 hb⟩, hI.2.2⟩
                  case s7 =>
                    refine rg_step rfl ?_
                    rintro l a W ⟨ε, rfl, hI⟩ hl hd
                    have d6 := hd 6 (by decide)
                    clear hd
                    refine rg_val (v := .tuple #[.agg #[.string jn.f0, .int .u64 jn.f1.f0, .int .u64 jn.f1.f1], .int .i64 je]) (w' := W) rfl (by go_simp) ?_
                    refine ⟨ε, ?_, ?_⟩
                    · simp only [Act.put, List.setIfInBounds_toArray, List.set_cons_zero, List.set_cons_succ]; rfl
                    · exact hI
                  case s8 =>
                    refine rg_step rfl ?_
                    rintro l a W ⟨ε, rfl, hI⟩ hl hd
                    have d7 := hd 7 (by decide)
                    clear hd
                    refine rg_val (v := .agg #[.string jn.f0, .int .u64 jn.f1.f0, .int .u64 jn.f1.f1]) (w' := W) rfl (by go_simp) ?_
                    refine ⟨ε, ?_, ?_⟩
                    · simp only [Act.put, List.setIfInBounds_toArray, List.set_cons_zero, List.set_cons_succ]; rfl
                    · exact hI
                  case s9 =>
                    refine rg_step rfl ?_
                    rintro l a W ⟨ε, rfl, hI⟩ hl hd
                    have d7 := hd 7 (by decide)
                    clear hd
                    refine rg_val (v := .int .i64 je) (w' := W) rfl (by go_simp) ?_
                    refine ⟨ε, ?_, ?_⟩
                    · simp only [Act.put, List.setIfInBounds_toArray, List.set_cons_zero, List.set_cons_succ]; rfl
                    · exact hI
                  case s10 =>
                    refine rg_step rfl ?_
                    rintro l a W ⟨ε, rfl, hI⟩ hl hd
                    clear hd
                    have h11 : l 11 = false := by
                      cases hx : l 11 with
                      | false => rfl
                      | true => have := hI.2.2 hx; rw [hl] at this; cases this
                    refine rg_val (v := .pointer (some ⟨W.heap.size, 0, none⟩)) (w' := W.alloc (.cells #[.string ⟨#[]⟩, .int .u64 0, .int .u64 0] 46)) rfl (by go_simp) ?_
                    refine ⟨W.heap.size, ?_, ?_⟩
                    · simp only [Act.put, List.setIfInBounds_toArray, List.set_cons_zero, List.set_cons_succ]; rfl
                    · exact ⟨below_alloc hI.1 _, fun _ => ⟨hI.1.size, by rw [if_neg (show ¬ upd l 10 11 = true from by rw [show upd l 10 11 = l 11 from rfl, h11]; decide)]; exact blk_new W _⟩, fun _ => rfl⟩
                  case s11 =>
                    refine rg_step rfl ?_
                    rintro l a W ⟨ε, rfl, hI⟩ hl hd
                    have d8 := hd 8 (by decide)
                    have d10 := hd 10 (by decide)
                    clear hd
                    have hz := hI.2.1 d10
                    rw [if_neg (by rw [hl]; decide)] at hz
                    have z0 := blk_cell hz.2 0
                    have z1 := blk_cell hz.2 1
                    have z2 := blk_cell hz.2 2
                    have zf := fun i => blk_frozen hz.2 i
                    simp at z0 z1 z2
                    refine rg_skip rfl (by go_simp; rfl) ?_
                    refine ⟨ε, ?_, ?_⟩
                    · simp only [Act.put, List.setIfInBounds_toArray, List.set_cons_zero, List.set_cons_succ]; rfl
                    · exact ⟨below_set (below_set (below_set hI.1 hz.1) hz.1) hz.1, fun _ => ⟨hz.1, by rw [if_pos (show upd l 11 11 = true from rfl)]; exact blk_put (blk_put (blk_put hz.2 0 _ rfl) 1 _ rfl) 2 _ rfl⟩, fun _ => d10⟩
                  case s12 =>
                    refine rg_step rfl ?_
                    rintro l a W ⟨ε, rfl, hI⟩ hl hd
                    have d9 := hd 9 (by decide)
                    clear hd
                    refine rg_val (v := .int .i64 je) (w' := W) rfl (by go_simp) ?_
                    refine ⟨ε, ?_, ?_⟩
                    · simp only [Act.put, List.setIfInBounds_toArray, List.set_cons_zero, List.set_cons_succ]; rfl
                    · exact hI
                case hend =>
                  rintro l a W ⟨ε, rfl, hI⟩ hall
                  have e0 := hall 0 (by decide)
                  have e1 := hall 1 (by decide)
                  have e2 := hall 2 (by decide)
                  have e3 := hall 3 (by decide)
                  have e4 := hall 4 (by decide)
                  have e5 := hall 5 (by decide)
                  have e6 := hall 6 (by decide)
                  have e7 := hall 7 (by decide)
                  have e8 := hall 8 (by decide)
                  have e9 := hall 9 (by decide)
                  have e10 := hall 10 (by decide)
                  have e11 := hall 11 (by decide)
                  have e12 := hall 12 (by decide)
                  clear hall
                  have hn := hI.2.1 e10
                  rw [if_pos e11] at hn
                  have hB := hI.1
                  simp only [e0, e1, e2, e3, e4, e5, e6, e7, e8, e9, e10, e11, e12, sel_true]
                  clear e0 e1 e2 e3 e4 e5 e6 e7 e8 e9 e10 e11 e12
                  clear hI
                  have HS15 := aM' (HSC.out.below hB)
                  have HE := aM' hn.2
                  clear hn hB
                  rcases HJE.out with ⟨rfl, hj, hjk⟩ | ⟨rfl, hs10⟩
                  · have q0 := blk_cell HE.out 0
                    have q1 := blk_cell HE.out 1
                    have q2 := blk_cell HE.out 2
                    simp at q0 q1 q2
                    have HNX := aM' (And.intro hj hjk)
                    clear hj hjk
                    go_wp2_with (at_builtin; refine wpList_append_own _ rfl _ _ 43 rfl (w.heap.size + 1) 46 i0 (.agg #[(.string ⟨#[]⟩), (.int .u64 0), (.int .u64 0)]) 3 32 Tryd.underlying43 hi hz0 hz1 hz2 rfl (by decide) (.slice (some ⟨g7, 0, none⟩) (i + 1) c7) (i + 1) _ rfl (ownB HS15.out.o (below_alloc (Below.refl _ _) (.cells (nodeA jn) 46))) ⟨W.heap.size, 0, none⟩ 1 1 [.string jn.f0, .int .u64 jn.f1.f0, .int .u64 jn.f1.f1] rfl rfl ?c2 ?c3 ?c4 ?c5 ?c6 ?_)
                    case c3 => exact ⟨rfl, rfl, rfl⟩
                    case c4 => unfold maxLen; omega
                    case c5 => omega
                    case c6 => have := HS15.out.b.size; omega
                    intro v' w' hown hgr hnil
                    have HS' := aM' (StL.next (HS15.out.below (below_alloc (Below.refl _ _) (.cells (nodeA jn) 46))) HT.out hgr hown HNX.out.1 HNX.out.2)
                    clear hown hgr hnil q0 q1 q2
                    go_wp2
                    go_roundw
                    case rel => exact ⟨i + 1, q / 2, by go_num, by go_num, ⟨⟨by omega, by rw [HI.out.2, Nat.pow_succ, Nat.div_div_eq_div_mul]⟩⟩, HS'⟩
                    case measure => simp [intOf]; omega
                  · have HER := aM' hs10
                    have HBE := aM' HS15.out.b
                    clear hs10
                    go_wp2
                    go_ret
                    exact SetPost.err HER.out (by decide) HT.out HBE.out
          · obtain rfl : i = K := by have := HI.out.1; omega
            have b1 : decide ((i : Int) < (i : Int)) = false := decide_eq_false (by omega)
            have b2 : decide (i < i) = false := decide_eq_false (by omega)
            have HS0 := aM' (StL.zero HS.out HT.out HKL.out HKK.out HLT.out HX.out HML.out)
            obtain ⟨cs, hcs, hcz⟩ := ownBlk HS.out.t.hl
            have hcz2 : p * 5 + 4 < cs.size := by have := HLT.out; have : ls.length * 5 ≤ cs.size := hcz; omega
            have c0 := blk_cell hcs (p * 5)
            have c1 := blk_cell hcs (p * 5 + 1)
            have c2 := blk_cell hcs (p * 5 + 2)
            have c3 := blk_cell hcs (p * 5 + 3)
            have c4 := blk_cell hcs (p * 5 + 4)
            have cf := fun i => blk_frozen hcs i
            rw [Array.getElem?_eq_getElem (by omega)] at c0 c1 c2 c3 c4
            generalize cs[p * 5]'_ = v0 at c0
            generalize cs[p * 5 + 1]'_ = v1 at c1
            generalize cs[p * 5 + 2]'_ = v2 at c2
            generalize cs[p * 5 + 3]'_ = v3 at c3
            generalize cs[p * 5 + 4]'_ = v4 at c4
            have x0 := blk_cell HS.out.l 0
            have x1 := blk_cell HS.out.l 1
            have x2 := blk_cell HS.out.l 2
            have x3 := blk_cell HS.out.l 3
            have x4 := blk_cell HS.out.l 4
            simp at x0 x1 x2 x3 x4
            have t1 : wr.cell? ⟨ta, 1, none⟩ = some (.slice (some ⟨gl, 0, none⟩) ls.length cl) := blk_cell HS.out.t.ht 1
            have hpl : (p : Int) < (ls.length : Int) := by have := HLT.out; omega
            have HP2 := aM' (StP.start HS.out HT.out HLT.out)
            clear hcs hcz hcz2
            go_upto_region 21 with (fail)
            clear b1 b2
            go_still_tail 7, (by kernel_rfl)
            change wpList _ _ _ _ _ wr.drew
            clear x0 x1 x2 x3 x4 t1
            go_upto_region 22 with (fail)
            obtain ⟨V2, hV2⟩ : ∃ V2, V2 = (((((wr.setCell ⟨gl, p * 5, none⟩ (.bool x.f0)).setCell ⟨gl, p * 5 + 1, none⟩ (.string x.f1)).setCell ⟨gl, p * 5 + 2, none⟩ (.string x.f2)).setCell ⟨gl, p * 5 + 3, none⟩ (.int .u64 x.f3.f0)).setCell ⟨gl, p * 5 + 4, none⟩ (.int .u64 x.f3.f1)).drew := ⟨_, rfl⟩
            rw [← hV2] at HP2
            rw [← hV2]
            have HWK := aM' HS.out.k
            have HRL2 := aM' (show (treeT wd (ls.set p x)).rows.length = i + 1 by
              have h : (treeT wd (ls.set p x)).rows = levelsV wd (ls.set p x).length.log2 ((ls.set p x).map (leafNodeI wd)) := rfl
              have h2 := HRL.out
              have h3 : (treeT wd ls).rows = levelsV wd ls.length.log2 (ls.map (leafNodeI wd)) := rfl
              rw [h3, levelsV_len] at h2
              rw [h, levelsV_len, List.length_set]; exact h2)
            clear hV2 c0 c1 c2 c3 c4 cf hpl HS
            refine wp_forget (fun y => ({ tmps := List.toArray (.pointer (some ⟨ta, 0, none⟩) :: .int .u64 (p : Int) :: leafV x :: y 3 :: y 4 :: .pointer (some ⟨w.heap.size, 0, none⟩) :: y 6 :: .slice (some ⟨g7, 0, none⟩) (i + 1) c7 :: y 8 :: y 9 :: y 10 :: y 11 :: y 12 :: y 13 :: y 14 :: y 15 :: y 16 :: y 17 :: y 18 :: y 19 :: y 20 :: y 21 :: y 22 :: y 23 :: y 24 :: y 25 :: y 26 :: y 27 :: y 28 :: y 29 :: y 30 :: y 31 :: y 32 :: y 33 :: y 34 :: y 35 :: y 36 :: y 37 :: y 38 :: y 39 :: y 40 :: y 41 :: y 42 :: y 43 :: y 44 :: y 45 :: y 46 :: y 47 :: y 48 :: y 49 :: y 50 :: y 51 :: y 52 :: y 53 :: y 54 :: y 55 :: y 56 :: y 57 :: y 58 :: y 59 :: y 60 :: y 61 :: y 62 :: y 63 :: y 64 :: y 65 :: y 66 :: y 67 :: y 68 :: y 69 :: y 70 :: y 71 :: y 72 :: y 73 :: y 74 :: y 75 :: y 76 :: y 77 :: y 78 :: y 79 :: y 80 :: y 81 :: y 82 :: y 83 :: y 84 :: y 85 :: y 86 :: y 87 :: y 88 :: y 89 :: y 90 :: y 91 :: y 92 :: y 93 :: y 94 :: y 95 :: y 96 :: y 97 :: y 98 :: y 99 :: y 100 :: y 101 :: y 102 :: y 103 :: y 104 :: y 105 :: y 106 :: y 107 :: y 108 :: y 109 :: y 110 :: y 111 :: y 112 :: y 113 :: y 114 :: y 115 :: y 116 :: y 117 :: y 118 :: []), defers := [] } : Act)) rfl ?_
            intro y
            go_wp2
            go_loopw [99] (fun v99 wr => ∃ j : Nat, v99 = .int .i64 (j : Int) ∧ Aside0 (j ≤ i + 1) ∧ Aside0 (StP base ta gl cl (.slice (some ⟨gv, 0, none⟩) (i + 1) cv) gs wd ls p x w i (.slice (some ⟨g7, 0, none⟩) (i + 1) c7) j wr)) (fun v99 _ => i + 1 - (intOf v99).toNat)
            case atStart => exact ⟨0, rfl, ⟨Nat.zero_le _⟩, HP2⟩
            case round =>
              obtain ⟨j, rfl, HJ, HPJ⟩ := hrel
              by_cases hlt : j < i + 1
              · have b1 : decide ((j : Int) < ((i + 1 : Nat) : Int)) = true := decide_eq_true (by omega)
                have b2 : decide (j < i + 1) = true := decide_eq_true hlt
                have hrow : (rowsM wd ls p x j)[j]? = some (upV wd j (ls.map (leafNodeI wd))) := by
                  rw [rowsM_get HRL.out HRL2.out hlt]
                  exact levelsV_get wd _ j _ (by have := HRL.out; have h : (treeT wd ls).rows = levelsV wd ls.length.log2 (ls.map (leafNodeI wd)) := rfl; rw [h, levelsV_len] at this; omega)
                have b3 : decide ((j : Int) < (i : Int) + 1) = true := decide_eq_true (by omega)
                obtain ⟨pr, hpr, l0, l1, hrc, hrd, hpm, cs, hpb, hpc⟩ := TreeOwn.level (T := ⟨wd, ls.set p x, rowsM wd ls p x j⟩) (cv := cv) (by rw [rowsM_len HRL.out HRL2.out (by omega)]; exact HPJ.out.t) hrow
                have hq0 := div_lt (by rw [← HKL.out]; exact HLT.out) (show j ≤ i by omega)
                have hrl : (upV wd j (ls.map (leafNodeI wd))).length = 2 ^ (i - j) := upV_len2 (by rw [List.length_map]; exact HKL.out) j (by omega)
                obtain ⟨s, hs⟩ : ∃ s, s = p / 2 ^ j := ⟨_, rfl⟩
                have hsl : s < (upV wd j (ls.map (leafNodeI wd))).length := by rw [hs, hrl]; exact hq0
                obtain ⟨wn, hwn⟩ : ∃ n, n = wayV wd (ls.map (leafNodeI wd)) p (leafNodeI wd x) j := ⟨_, rfl⟩
                have hset : (treeT wd (ls.set p x)).rows[j]? = some ((upV wd j (ls.map (leafNodeI wd))).set s wn) := by
                  have h : (treeT wd (ls.set p x)).rows = levelsV wd (ls.set p x).length.log2 ((ls.set p x).map (leafNodeI wd)) := rfl
                  have h2 := HRL2.out
                  rw [h, levelsV_len] at h2
                  rw [h, List.map_set, show (ls.set p x).length.log2 = i by omega, hs, hwn]
                  exact levelsV_set wd (by rw [List.length_map]; exact HKL.out) (by rw [← HKL.out]; exact HLT.out) _ j (by omega)
                have hwr : (waysL wd ls p x (i + 1))[j]? = some wn := by
                  unfold waysL
                  rw [List.getElem?_map, List.getElem?_range (by omega), hwn]; rfl
                have hsh : (p : Int) / 2 ^ j = (s : Int) := by rw [hs]; simp
                obtain ⟨r, hr⟩ : ∃ r, r = upV wd j (ls.map (leafNodeI wd)) := ⟨_, rfl⟩
                rw [← hr] at hrow l0 hrc hrd hpc hsl hset
                have hcs := HPJ.out.o.cells (g := g7) rfl
                have ea : ∀ n, (⟨g7, 0, none⟩ : Addr).add n = ⟨g7, n, none⟩ := fun n => by unfold Addr.add; split <;> simp_all
                have w0 := cellsN_get _ j 0 wn hwr (by decide)
                have w1' := cellsN_get _ j 1 wn hwr (by decide)
                have w2' := cellsN_get _ j 2 wn hwr (by decide)
                have W0 := hcs _ _ w0
                have W1 := hcs _ _ w1'
                have W2' := hcs _ _ w2'
                rw [ea] at W0 W1 W2'
                have d0 : wr.cell? ⟨g7, j * 3, none⟩ = some (.string wn.f0) := W0
                have d1 : wr.cell? ⟨g7, j * 3 + 1, none⟩ = some (.int .u64 wn.f1.f0) := W1
                have d2 : wr.cell? ⟨g7, j * 3 + 2, none⟩ = some (.int .u64 wn.f1.f1) := W2'
                obtain ⟨W3, hW3⟩ : ∃ V, V = wr.alloc (.cells #[.string wn.f0, .int .u64 wn.f1.f0, .int .u64 wn.f1.f1] 46) := ⟨_, rfl⟩
                have hb3 : Below wr.heap.size wr W3 := by rw [hW3]; exact below_alloc (Below.refl _ _) _
                have z := hW3 ▸ blk_new wr (.cells #[.string wn.f0, .int .u64 wn.f1.f0, .int .u64 wn.f1.f1] 46)
                obtain ⟨g16, hg16⟩ : ∃ g, g = wr.heap.size := ⟨_, rfl⟩
                rw [← hg16] at z
                have HNEW := aM' ((HPJ.out.below hb3).put HT.out HRL.out HRL2.out hlt hpr hrow hsl hset)
                have hpb3 := blk_below hpb hb3
                have hsz : s * 3 + 2 < cs.size := by omega
                have v0 := blk_cell hpb3 (s * 3)
                have v1 := blk_cell hpb3 (s * 3 + 1)
                have v2 := blk_cell hpb3 (s * 3 + 2)
                have vf := fun i => blk_frozen hpb3 i
                rw [Array.getElem?_eq_getElem (by omega)] at v0 v1 v2
                generalize cs[s * 3]'_ = u0 at v0
                generalize cs[s * 3 + 1]'_ = u1 at v1
                generalize cs[s * 3 + 2]'_ = u2 at v2
                have k0 := pw_cell_below hb3 l0
                have k1 := pw_cell_below hb3 l1
                have n0 := blk_cell z 0
                have n1 := blk_cell z 1
                have n2 := blk_cell z 2
                simp at n0 n1 n2
                have t2 : W3.cell? ⟨ta, 2, none⟩ = some (.slice (some ⟨gv, 0, none⟩) (i + 1) cv) := pw_cell_below hb3 (blk_cell HPJ.out.t.ht 2)
                have hsi : (s : Int) < (r.length : Int) := by omega
                have k3 : (j : Int) < (i : Int) + 1 := by omega
                clear hq0 hrl hs hwn hset hwr hr hcs ea w0 w1' w2' W0 W1 W2' hpr hrow hpm hpb hpc hpb3 hsz hrd hb3 z l0 l1
                go_upto_region 25 with (fail)
                rw [← hg16, ← hW3]
                clear hW3 hg16 d0 d1 d2
                go_still_tail 14, (by kernel_rfl)
                change wpList _ _ _ _ _ W3.drew
                go_wp2
                go_roundw
                case rel => exact ⟨j + 1, by go_num, ⟨by omega⟩, ⟨HNEW.out.below (below_drew (Below.refl _ _))⟩⟩
                case measure => simp [intOf]; omega
              · obtain rfl : j = i + 1 := by have := HJ.out; omega
                have b1 : decide (((i + 1 : Nat) : Int) < (i : Int) + 1) = false := decide_eq_false (by omega)
                have b3 : decide ((i : Int) + 1 < (i : Int) + 1) = false := decide_eq_false (by omega)
                have b2 : decide (i + 1 < i + 1) = false := decide_eq_false hlt
                go_wp2
                go_ret
                exact HPJ.out.done HRL.out HRL2.out HS0.out
end Go.Proofs.YtfcodmdckcihmaaDoor.P
namespace Go.Proofs.YtfcodmdckcihmaaDoor.P
open Go.RowKit Go.Proofs.YtfcodmdckcihmaaDoorW.PrintWords Go.Proofs.YtfcodmdckcihmaaDoorW.PrintLast Go.Proofs.YtfcodmdckcihmaaDoorW.PrintMore
set_option linter.unusedVariables false
set_option linter.unusedSimpArgs false
set_option linter.unnecessarySimpa false
theorem litL_C {W : World} {g : Nat} {cur : Array Value} {xs : List SLeaf} (hg : W.heap[g]? = some (.cells cur 36 (0, 0))) (hc : cur.toList = cellsL xs) (hl : xs.length ≤ 1000) : Kd.C kLeaf W (some ⟨g, 0, none⟩) xs.length xs := by
 have hs : cur.size = xs.length * 5 := by rw [← cellsL_len, ← hc]; simp
 exact (ownLeaves_C (base := 0) (cap := xs.length) ⟨cellsL_len xs, .inr ⟨g, xs.length, cur, rfl, Nat.zero_le _, hg, Nat.le_refl _, by unfold maxLen; omega, hs, by rw [← hc, List.take_of_length_le (by simp; omega)]⟩⟩).2.2
end Go.Proofs.YtfcodmdckcihmaaDoor.P
namespace Go.Proofs.YtfcodmdckcihmaaDoor.P
open Go.RowKit Go.Proofs.YtfcodmdckcihmaaDoorW.PrintWords Go.Proofs.YtfcodmdckcihmaaDoorW.PrintLast Go.Proofs.YtfcodmdckcihmaaDoorW.PrintMore
set_option linter.unusedVariables false
set_option linter.unusedSimpArgs false
set_option linter.unnecessarySimpa false
theorem rows_len (wd : Int) (k : List SLeaf) : (treeT wd k).rows.length = k.length.log2 + 1 := by
 have h : (treeT wd k).rows = levelsV wd k.length.log2 (k.map (leafNodeI wd)) := rfl
 rw [h, levelsV_len]
section
variable {b a gl cl : Nat} {VV : Value} {gs : List RowG} {wd : Int} {k : List SLeaf} {V : World}
theorem TreeOwn.heightC {m : Nat} (h : TreeOwn b V a (treeT wd k) gl cl VV gs) (hn : NewOk wd k) (hl : k.length ≤ 1024) (hm : m = k.length.log2) :
  Calls Tryd.prog 19 #[ptrT a] V fun e w' => e = .returned (.int .i64 (m : Int)) ∧ V = w' := by
 have q := tHeight.calls a _ V (h.readT hn hl)
 rw [rows_len, ← hm, show ((m + 1 : Nat) : Int) - 1 = (m : Int) by omega] at q
 exact q
theorem node_is {m n p q : Nat} {x : SNode} (hn : NewOk wd k) (hm : m = k.length.log2) (hnm : n ≤ m) (hp : p < k.length) (hq : q = p / 2 ^ n) (hx : x = (upV wd n (k.map (leafNodeI wd))).getD q nodeZ) : nodeAtI (treeT wd k) (n : Int) (q : Int) = (x, true) := by
 rw [nodeAt_tree wd _ n (by omega), Int.toNat_natCast, ← hx]
 have hl : (k.map (leafNodeI wd)).length = 2 ^ m := by rw [List.length_map, hm]; exact hn.p
 have h1 := upV_len2 (w := wd) hl n hnm
 have h2 := div_lt (p := p) (K := m) (by rw [List.length_map] at hl; omega) hnm
 rw [h1, hq, decide_eq_true h2]
theorem TreeOwn.nodeC {n q : Nat} {x : SNode} {t : Bool} (h : TreeOwn b V a (treeT wd k) gl cl VV gs) (hn : NewOk wd k) (hl : k.length ≤ 1024) (hx : nodeAtI (treeT wd k) (n : Int) (q : Int) = (x, t)) :
  Calls Tryd.prog 24 #[ptrT a, .int .i64 (n : Int), .int .u64 (q : Int)] V fun e w' => e = .returned (.tuple #[nodeV x, .bool t]) ∧ Below V.heap.size V w' := by
 have z := tNode.calls a _ (n : Int) (q : Int) V (h.readT hn hl) (by omega)
 rw [hx] at z
 exact z
end
end Go.Proofs.YtfcodmdckcihmaaDoor.P
namespace Go.Proofs.YtfcodmdckcihmaaDoor.P
open Go.RowKit Go.Proofs.YtfcodmdckcihmaaDoorW.PrintWords Go.Proofs.YtfcodmdckcihmaaDoorW.PrintLast Go.Proofs.YtfcodmdckcihmaaDoorW.PrintMore
set_option linter.unusedVariables false
set_option linter.unusedSimpArgs false
set_option linter.unnecessarySimpa false
attribute [local go_sem] Oper.semAt_some sel_true
def besL (wd : Int) (ks : List SLeaf) (p k : Nat) : List SNode := (List.range k).map (besV wd (ks.map (leafNodeI wd)) p)
theorem besL_succ (wd : Int) (ks : List SLeaf) (p k : Nat) : besL wd ks p (k + 1) = besL wd ks p k ++ [besV wd (ks.map (leafNodeI wd)) p k] := by
 unfold besL; rw [List.range_succ, List.map_append]; rfl
theorem besL_len (wd : Int) (ks : List SLeaf) (p k : Nat) : (besL wd ks p k).length = k := by unfold besL; simp
theorem beside_is {wd : Int} {ks : List SLeaf} {m k p : Nat} (hn : NewOk wd ks) (hm : m = ks.length.log2) (hk : k < m) (hp : p < ks.length) : nodeAtI (treeT wd ks) (k : Int) ((besN (p / 2 ^ k) : Nat) : Int) = (besV wd (ks.map (leafNodeI wd)) p k, true) := by
 have hl : (ks.map (leafNodeI wd)).length = 2 ^ m := by rw [List.length_map, hm]; exact hn.p
 have h := (besV_k (w := wd) hl hn.k hn.t (p := p) (by rw [List.length_map] at hl; omega) k hk).2
 rw [nodeAt_tree wd _ k (by omega), Int.toNat_natCast]
 exact Prod.ext rfl (decide_eq_true h)
theorem grown_below {W W' : World} (h : Below W.heap.size W W') : W.grownBy W' none := ⟨h.os, h.tape, h.output, h.size, fun i hi _ => h.block i hi⟩
theorem KeepS.below {S : Nat → Prop} {W w w' : World} (h : KeepS S W w) (hlt : ∀ k, S k → k < W.heap.size) (hb : Below w.heap.size w w') : KeepS S W w' := fun k hk => by
 have h1 := h k hk
 have h2 : k < w.heap.size := by
  rw [Array.getElem?_eq_getElem (hlt k hk)] at h1
  exact (Array.getElem?_eq_some_iff.1 h1).1
 exact (hb.block k h2).trans h1
set_option maxRecDepth 100000 in
theorem beside.calls (a : Nat) (p : Int) (w : World) : Calls Tryd.prog 77 #[ptrT a, .int .u64 p] w fun e w' => e = .returned (.func (.func 106) #[] #[.pointer (some ⟨w.heap.size, 0, none⟩), .pointer (some ⟨w.heap.size + 1, 0, none⟩)]) ∧ w' = (w.alloc (.cells #[ptrT a] 25)).alloc (.cells #[.int .u64 p] 23) := by
 go_enter Tryd.func77, Tryd.ntmps77
 go_wp2
 go_ret
 exact ⟨rfl, rfl⟩
set_option maxRecDepth 100000 in
set_option maxHeartbeats 1000000 in
theorem beside1_in (n : Nat) (hn1 : 1 ≤ n) (l0 tb pb B ta m p : Nat) (wd : Int) (ks : List SLeaf) (hk : NewOk wd ks) (hm : m = ks.length.log2) (hm10 : m ≤ 10) (hp : p < ks.length) (hp64 : p < 18446744073709551616) (S : Nat → Prop) (hSt : S tb) (hSp : S pb)
  (J Jx : List SNode → World → Prop) (hJ : AbidesFrom B J) (W : World) (hTr : ∀ W', KeepS S W W' → TreeR ta (treeT wd ks) W')
  (hY : ∀ pre x W', J pre W' → pre.length < m → YieldAt Fence.wide (n - 1) Tryd.prog l0 #[nodeV x] W' fun e W2 => (e = .returned (.bool true) ∧ J (pre ++ [x]) W2 ∧ KeepS S W' W2) ∨ (e = .returned (.bool false) ∧ Jx (pre ++ [x]) W2))
  (ht : W.heap[tb]? = some (.cells #[ptrT ta] 25 (0, 0))) (hpb : W.heap[pb]? = some (.cells #[.int .u64 (p : Int)] 23 (0, 0))) (hlt : ∀ k, S k → k < W.heap.size) (h0 : J [] W) :
  CallsIn Fence.wide n Tryd.prog 106 #[.func (.yield l0) #[] #[], .pointer (some ⟨tb, 0, none⟩), .pointer (some ⟨pb, 0, none⟩)] W fun e W' => (∃ v, e = .returned v) ∧ ((∃ ys, ys = besL wd ks p m ∧ J ys W') ∨ (∃ pre, (∃ k, k ≤ m ∧ pre = besL wd ks p k) ∧ Jx pre W')) := by
 have ht0 : W.cell? ⟨tb, 0, none⟩ = some (ptrT ta) := blk_cell ht 0
 have HT := aM' ht
 have HP := aM' hpb
 have HL := aM' hlt
 have HJ := aM' hJ
 have HY := aM' hY
 have HTR := aM' hTr
 have HKK := aM' hk
 have HMM := aM' hm
 have HPL := aM' hp
 have CHT := aM' (show ∀ V, KeepS S W V → Calls Tryd.prog 19 #[ptrT ta] V fun e w' => e = .returned (.int .i64 (m : Int)) ∧ V = w' from fun V hV => by
  have q := tHeight.calls ta _ V (hTr V hV)
  rw [rows_len, ← hm, show ((m + 1 : Nat) : Int) - 1 = (m : Int) by omega] at q
  exact q)
 clear ht hpb hlt hJ hY hTr hk hm hp
 refine callsIn_of_wp Tryd.func106 rfl trivial ?_
 simp only [Tryd.ntmps106, List.size_toArray, List.length_cons, List.length_nil, Nat.reduceAdd, Nat.reduceSub, Array.replicate_succ, Array.replicate_zero, List.push_toArray, List.append_toArray, List.nil_append, List.cons_append]
 gi_wp2_with fail
 refine ⟨trivial, ?_⟩
 refine (callsIn_wide.2 (CHT.out W (fun _ _ => rfl))).mono ?_
 rintro e _ ⟨rfl, rfl⟩
 clear ht0
 gi_wp2
 gi_loopw [9] (fun i wr => ∃ k : Nat, i = .int .i64 (k : Int) ∧ Aside0 (k ≤ m) ∧ Aside0 (J (besL wd ks p k) wr) ∧ Aside0 (KeepS S W wr)) (fun i _ => m - (intOf i).toNat)
 case atStart => exact ⟨0, rfl, ⟨Nat.zero_le _⟩, ⟨h0⟩, ⟨fun _ _ => rfl⟩⟩
 case round =>
  obtain ⟨k, rfl, HK0, HJs, HK⟩ := hrel
  have hkm : k ≤ 10 := by have := HK0.out; omega
  by_cases hlt : k < m
  ·
   have b1 : decide ((k : Int) < (m : Int)) = true := decide_eq_true (by omega)
   have b2 : decide (k < m) = true := decide_eq_true hlt
   obtain ⟨q, hq⟩ : ∃ q, q = p / 2 ^ k := ⟨_, rfl⟩
   obtain ⟨s, hs⟩ : ∃ s, s = besN q := ⟨_, rfl⟩
   obtain ⟨x, hx⟩ : ∃ x, x = besV wd (ks.map (leafNodeI wd)) p k := ⟨_, rfl⟩
   have HSH := aM' (show (p : Int) / 2 ^ k = (q : Int) by rw [hq]; simp)
   have HXO := aM' (show Go.bits .xor .u64 (q : Int) 1 = (s : Int) by rw [hs]; exact bits_bes q (by rw [hq]; exact Nat.lt_of_le_of_lt (Nat.div_le_self _ _) hp64))
   have HX := aM' hx
   have CND := aM' (show ∀ V, Below wr.heap.size wr V → Calls Tryd.prog 24 #[ptrT ta, .int .i64 (k : Int), .int .u64 (s : Int)] V fun e w' => e = .returned (.tuple #[nodeV x, .bool true]) ∧ Below V.heap.size V w' from fun V hV => by
    have z := tNode.calls ta _ (k : Int) (s : Int) V (HTR.out V (HK.out.below HL.out hV)) (by omega)
    rw [hs, hq, beside_is HKK.out HMM.out hlt HPL.out, ← hx] at z
    rw [hs, hq]
    exact z)
   have HT1 := aM' ((HK.out tb hSt).trans HT.out)
   have HP1 := aM' ((HK.out pb hSp).trans HP.out)
   clear hq hs hx
   gi_upto_region 3 with (fail)
   refine region_invIn (fun l a W => ∃ γ : Nat, a = ({ tmps := #[.func (.yield l0) #[] #[], .pointer (some ⟨tb, 0, none⟩), .pointer (some ⟨pb, 0, none⟩), undef, .int .i64 (k : Int), sel (l 10) (.pointer (some ⟨γ, 0, none⟩)) (u5), sel (l 12) (.bool true) (u6), ptrT ta, .int .i64 (m : Int), .int .i64 (k : Int), .bool true, .int .i64 (k : Int), sel (l 7) (.tuple #[.agg #[.string x.f0, .int .u64 x.f1.f0, .int .u64 x.f1.f1], .bool true]) (u12), sel (l 0) (ptrT ta) (u13), sel (l 1) (.int .i64 (k : Int)) (u14), sel (l 2) (.int .u64 (p : Int)) (u15), sel (l 3) (.int .i64 (k : Int)) (u16), sel (l 4) (.int .u64 (q : Int)) (u17), sel (l 5) (.int .u64 (s : Int)) (u18), sel (l 6) (.tuple #[.agg #[.string x.f0, .int .u64 x.f1.f0, .int .u64 x.f1.f1], .bool true]) (u19), sel (l 8) (.agg #[.string x.f0, .int .u64 x.f1.f0, .int .u64 x.f1.f1]) (u20), sel (l 9) (.bool true) (u21), u22, u23, u24, u25, u26, u27, u28, u29, u30], defers := [] } : Act) ∧ (Below wr.heap.size wr W ∧ (l 10 = true → wr.heap.size ≤ γ ∧ W.heap[γ]? = some (.cells (if l 11 = true then nodeA x else nodeA nodeZ) 46 (0, 0))) ∧ (l 11 = true → l 10 = true))) 13 rfl rfl (by kernel_rfl) ?h0 ?hend ?hstep
   case h0 => exact ⟨0, rfl, below_drew (Below.refl _ _), (fun h => by cases h), (fun h => by cases h)⟩
   case hstep =>
    refine rg_cons (rg_cons (rg_cons (rg_cons (rg_cons (rg_cons (rg_cons (rg_cons (rg_cons (rg_cons (rg_cons (rg_cons (rg_cons (rg_nil) ?s0) ?s1) ?s2) ?s3) ?s4) ?s5) ?s6) ?s7) ?s8) ?s9) ?s10) ?s11) ?s12
    case s0 =>
     refine rgi_step rfl ?_
     rintro l a W ⟨γ, rfl, hI⟩ hl hd
     clear hd
     have x0 := blk_cell (blk_below HT1.out hI.1) 0
     simp at x0
     refine rgi_val (v := ptrT ta) (w' := W) (fun _ => trivial) rfl (fun _ h => by cases h) (by go_simp) ?_
     refine ⟨γ, ?_, ?_⟩
     ·
      simp only [Act.put, List.setIfInBounds_toArray, List.set_cons_zero, List.set_cons_succ]; rfl
     ·
      exact hI
    case s1 =>
     refine rgi_step rfl ?_
     rintro l a W ⟨γ, rfl, hI⟩ hl hd
     clear hd
     refine rgi_val (v := .int .i64 (k : Int)) (w' := W) (fun _ => trivial) rfl (fun _ h => by cases h) (by go_simp) ?_
     refine ⟨γ, ?_, ?_⟩
     ·
      simp only [Act.put, List.setIfInBounds_toArray, List.set_cons_zero, List.set_cons_succ]; rfl
     ·
      exact hI
    case s2 =>
     refine rgi_step rfl ?_
     rintro l a W ⟨γ, rfl, hI⟩ hl hd
     clear hd
     have x0 := blk_cell (blk_below HP1.out hI.1) 0
     simp at x0
     refine rgi_val (v := .int .u64 (p : Int)) (w' := W) (fun _ => trivial) rfl (fun _ h => by cases h) (by go_simp) ?_
     refine ⟨γ, ?_, ?_⟩
     ·
      simp only [Act.put, List.setIfInBounds_toArray, List.set_cons_zero, List.set_cons_succ]; rfl
     ·
      exact hI
    case s3 =>
     refine rgi_step rfl ?_
     rintro l a W ⟨γ, rfl, hI⟩ hl hd
     clear hd
     refine rgi_val (v := .int .i64 (k : Int)) (w' := W) (fun _ => trivial) rfl (fun _ h => by cases h) (by go_simp) ?_
     refine ⟨γ, ?_, ?_⟩
     ·
      simp only [Act.put, List.setIfInBounds_toArray, List.set_cons_zero, List.set_cons_succ]; rfl
     ·
      exact hI
    case s4 =>
     refine rgi_step rfl ?_
     rintro l a W ⟨γ, rfl, hI⟩ hl hd
     have d2 := hd 2 (by decide)
     have d3 := hd 3 (by decide)
     clear hd
     have hsh := HSH.out
     refine rgi_val (v := .int .u64 (q : Int)) (w' := W) (fun _ => trivial) rfl (fun _ h => by cases h) (by go_simp) ?_
     refine ⟨γ, ?_, ?_⟩
     ·
      simp only [Act.put, List.setIfInBounds_toArray, List.set_cons_zero, List.set_cons_succ]; rfl
     ·
      exact hI
    case s5 =>
     refine rgi_step rfl ?_
     rintro l a W ⟨γ, rfl, hI⟩ hl hd
     have d4 := hd 4 (by decide)
     clear hd
     have hxo := HXO.out
     refine rgi_val (v := .int .u64 (s : Int)) (w' := W) (fun _ => trivial) rfl (fun _ h => by cases h) (by go_simp) ?_
     refine ⟨γ, ?_, ?_⟩
     ·
      simp only [Act.put, List.setIfInBounds_toArray, List.set_cons_zero, List.set_cons_succ]; rfl
     ·
      exact hI
    case s6 =>
     refine rgi_step rfl ?_
     rintro l a W ⟨γ, rfl, hI⟩ hl hd
     have d0 := hd 0 (by decide)
     have d1 := hd 1 (by decide)
     have d5 := hd 5 (by decide)
     clear hd
     refine rgi_call (fun _ => trivial) rfl rfl (fun _ h => by cases h) (by go_simp; exact ⟨rfl, rfl⟩) ?_
     refine (callsIn_wide.2 (CND.out W hI.1)).mono ?_
     rintro ee W' ⟨rfl, hb⟩
     refine ⟨_, rfl, γ, ?_, ?_⟩
     ·
      simp only [Act.put, List.setIfInBounds_toArray, List.set_cons_zero, List.set_cons_succ]; rfl
     ·
      exact ⟨hI.1.trans (hb.mono hI.1.size), fun h => ⟨(hI.2.1 h).1, blk_below (hI.2.1 h).2 hb⟩, hI.2.2⟩
    case s7 =>
     refine rgi_step rfl ?_
     rintro l a W ⟨γ, rfl, hI⟩ hl hd
     have d6 := hd 6 (by decide)
     clear hd
     refine rgi_val (v := .tuple #[.agg #[.string x.f0, .int .u64 x.f1.f0, .int .u64 x.f1.f1], .bool true]) (w' := W) (fun _ => trivial) rfl (fun _ h => by cases h) (by go_simp) ?_
     refine ⟨γ, ?_, ?_⟩
     ·
      simp only [Act.put, List.setIfInBounds_toArray, List.set_cons_zero, List.set_cons_succ]; rfl
     ·
      exact hI
    case s8 =>
     refine rgi_step rfl ?_
     rintro l a W ⟨γ, rfl, hI⟩ hl hd
     have d7 := hd 7 (by decide)
     clear hd
     refine rgi_val (v := .agg #[.string x.f0, .int .u64 x.f1.f0, .int .u64 x.f1.f1]) (w' := W) (fun _ => trivial) rfl (fun _ h => by cases h) (by go_simp) ?_
     refine ⟨γ, ?_, ?_⟩
     ·
      simp only [Act.put, List.setIfInBounds_toArray, List.set_cons_zero, List.set_cons_succ]; rfl
     ·
      exact hI
    case s9 =>
     refine rgi_step rfl ?_
     rintro l a W ⟨γ, rfl, hI⟩ hl hd
     have d7 := hd 7 (by decide)
     clear hd
     refine rgi_val (v := .bool true) (w' := W) (fun _ => trivial) rfl (fun _ h => by cases h) (by go_simp) ?_
     refine ⟨γ, ?_, ?_⟩
     ·
      simp only [Act.put, List.setIfInBounds_toArray, List.set_cons_zero, List.set_cons_succ]; rfl
     ·
      exact hI
    case s10 =>
     refine rgi_step rfl ?_
     rintro l a W ⟨γ, rfl, hI⟩ hl hd
     clear hd
     have h11 : l 11 = false := by
      cases hx : l 11 with
      | false => rfl
      | true => have := hI.2.2 hx; rw [hl] at this; cases this
     refine rgi_val (v := .pointer (some ⟨W.heap.size, 0, none⟩)) (w' := W.alloc (.cells #[.string ⟨#[]⟩, .int .u64 0, .int .u64 0] 46)) (fun _ => trivial) rfl (fun _ h => by cases h) (by go_simp) ?_
     refine ⟨W.heap.size, ?_, ?_⟩
     ·
      simp only [Act.put, List.setIfInBounds_toArray, List.set_cons_zero, List.set_cons_succ]; rfl
     ·
      exact ⟨below_alloc hI.1 _, fun _ => ⟨hI.1.size, by rw [if_neg (show ¬ upd l 10 11 = true from by rw [show upd l 10 11 = l 11 from rfl, h11]; decide)]; exact blk_new W _⟩, fun _ => rfl⟩
    case s11 =>
     refine rgi_step rfl ?_
     rintro l a W ⟨γ, rfl, hI⟩ hl hd
     have d8 := hd 8 (by decide)
     have d10 := hd 10 (by decide)
     clear hd
     have hz := hI.2.1 d10
     rw [if_neg (by rw [hl]; decide)] at hz
     have z0 := blk_cell hz.2 0
     have z1 := blk_cell hz.2 1
     have z2 := blk_cell hz.2 2
     have zf := fun i => blk_frozen hz.2 i
     simp at z0 z1 z2
     refine rgi_skip (fun _ => trivial) rfl (fun _ h => by cases h) (by go_simp; rfl) ?_
     refine ⟨γ, ?_, ?_⟩
     ·
      simp only [Act.put, List.setIfInBounds_toArray, List.set_cons_zero, List.set_cons_succ]; rfl
     ·
      exact ⟨below_set (below_set (below_set hI.1 hz.1) hz.1) hz.1, fun _ => ⟨hz.1, by rw [if_pos (show upd l 11 11 = true from rfl)]; exact blk_put (blk_put (blk_put hz.2 0 _ rfl) 1 _ rfl) 2 _ rfl⟩, fun _ => d10⟩
    case s12 =>
     refine rgi_step rfl ?_
     rintro l a W ⟨γ, rfl, hI⟩ hl hd
     have d9 := hd 9 (by decide)
     clear hd
     refine rgi_val (v := .bool true) (w' := W) (fun _ => trivial) rfl (fun _ h => by cases h) (by go_simp) ?_
     refine ⟨γ, ?_, ?_⟩
     ·
      simp only [Act.put, List.setIfInBounds_toArray, List.set_cons_zero, List.set_cons_succ]; rfl
     ·
      exact hI
   case hend =>
    rintro l a W ⟨γ, rfl, hI⟩ hall
    have e0 := hall 0 (by decide)
    have e1 := hall 1 (by decide)
    have e2 := hall 2 (by decide)
    have e3 := hall 3 (by decide)
    have e4 := hall 4 (by decide)
    have e5 := hall 5 (by decide)
    have e6 := hall 6 (by decide)
    have e7 := hall 7 (by decide)
    have e8 := hall 8 (by decide)
    have e9 := hall 9 (by decide)
    have e10 := hall 10 (by decide)
    have e11 := hall 11 (by decide)
    have e12 := hall 12 (by decide)
    clear hall
    have hn := hI.2.1 e10
    rw [if_pos e11] at hn
    have hB := hI.1
    simp only [e0, e1, e2, e3, e4, e5, e6, e7, e8, e9, e10, e11, e12, sel_true]
    clear e0 e1 e2 e3 e4 e5 e6 e7 e8 e9 e10 e11 e12
    have hKW := HK.out.below HL.out hB
    have HKW := aM' hKW
    have y0 := blk_cell hn.2 0
    have y1 := blk_cell hn.2 1
    have y2 := blk_cell hn.2 2
    simp at y0 y1 y2
    obtain ⟨fn, tmps, assign, body, hy, hR⟩ := HY.out (besL wd ks p k) x W (HJ.out _ wr _ none HJs.out (grown_below hB) (fun r e => by cases e)) (by rw [besL_len]; exact hlt)
    have hy2 : (Instr.yield l0 #[.agg #[.string x.f0, .int .u64 x.f1.f0, .int .u64 x.f1.f1]]).run Tryd.prog W = .ok (.round l0 fn tmps assign body) W := hy
    have hR2 := hR.mono (fun e W' h => (show ∃ b : Bool, e = .returned (.bool b) ∧ Aside0 ((b = true ∧ J (besL wd ks p k ++ [x]) W' ∧ KeepS S W W') ∨ (b = false ∧ Jx (besL wd ks p k ++ [x]) W')) from
     h.elim (fun h => ⟨true, h.1, ⟨.inl ⟨rfl, h.2⟩⟩⟩) (fun h => ⟨false, h.1, ⟨.inr ⟨rfl, h.2⟩⟩⟩)))
    have HE2 := aM' (show besL wd ks p (k + 1) = besL wd ks p k ++ [x] by rw [besL_succ, HX.out])
    clear hy hR hI hn hB hKW
    gi_wp2_with fail
    refine hR2.mono ?_
    clear hR2 hy2 y0 y1 y2 b1 b2
    rintro e W3 ⟨b, rfl, HE⟩
    cases b with
    | true =>
     obtain ⟨-, hJ2, hK2⟩ | ⟨h, -⟩ := HE.out
     case inr => exact absurd h (by decide)
     have HJ2 := aM' hJ2
     have HK2 := aM' hK2
     clear hJ2 hK2
     gi_wp2
     exact ⟨⟨k + 1, by go_num, ⟨hlt⟩, ⟨by rw [HE2.out]; exact HJ2.out⟩, ⟨HKW.out.trans HK2.out⟩⟩, by simp [intOf]; omega⟩
    | false =>
     obtain ⟨h, -⟩ | ⟨-, hJ2⟩ := HE.out
     case inl => exact absurd h (by decide)
     have HJ2 := aM' hJ2
     clear hJ2
     gi_wp2
     refine bodyPost_ret (results_none rfl _ _ _) rfl ?_
     exact ⟨⟨_, rfl⟩, .inr ⟨_, ⟨k + 1, hlt, HE2.out.symm⟩, HJ2.out⟩⟩
  ·
   have b1 : decide ((k : Int) < (m : Int)) = false := decide_eq_false (by omega)
   have b2 : decide (k < m) = false := decide_eq_false hlt
   obtain rfl : k = m := by have := HK0.out; omega
   gi_wp2
   go_end0
   exact ⟨⟨_, rfl⟩, .inl ⟨_, rfl, HJs.out⟩⟩
end Go.Proofs.YtfcodmdckcihmaaDoor.P
namespace Go.Proofs.YtfcodmdckcihmaaDoor.P
open Go.RowKit Go.Proofs.YtfcodmdckcihmaaDoorW.PrintWords Go.Proofs.YtfcodmdckcihmaaDoorW.PrintLast Go.Proofs.YtfcodmdckcihmaaDoorW.PrintMore
set_option linter.unusedVariables false
set_option linter.unusedSimpArgs false
set_option linter.unnecessarySimpa false
attribute [local go_sem] Oper.semAt_some sel_true
abbrev entA (x : SLeaf) (p : Int) (s : Value) : Array Value := #[.bool x.f0, .string x.f1, .string x.f2, .int .u64 x.f3.f0, .int .u64 x.f3.f1, .int .u64 p, s]
abbrev entZ : Array Value := #[.bool false, .string ⟨#[]⟩, .string ⟨#[]⟩, .int .u64 0, .int .u64 0, .int .u64 0, .slice none 0 0]
structure OfS (w : World) (x : SLeaf) (p g8 H : Nat) (pre : List SNode) (W : World) : Prop where
 hB : Below w.heap.size w W
 h4 : W.heap[w.heap.size]? = some (.cells entZ 70 (0, 0))
 lo : w.heap.size < g8
 hi : g8 < H
 b : ∃ A c, W.heap[g8]? = some (.cells (entA x (p : Int) (.slice A pre.length c)) 70 (0, 0)) ∧ W.ownsRow H 46 3 (.slice A pre.length c) pre.length (cellsN pre)
section
variable {w : World} {x : SLeaf} {p g8 H : Nat} {pre : List SNode} {W W' : World}
theorem OfS.below (h : OfS w x p g8 H pre W) (hb : Below W.heap.size W W') : OfS w x p g8 H pre W' := by
 obtain ⟨A, c, h1, h2⟩ := h.b
 exact ⟨h.hB.trans (hb.mono h.hB.size), blk_below h.h4 hb, h.lo, h.hi, A, c, blk_below h1 hb, ownB h2 hb⟩
theorem OfS.grown {row : Option Nat} (h : OfS w x p g8 H pre W) (hg : W.grownBy W' row) (hr : ∀ r, row = some r → w.heap.size < r ∧ ∃ o, W.heap[r]? = some o ∧ o.isCells = false) : OfS w x p g8 H pre W' := by
 obtain ⟨A, c, h1, h2⟩ := h.b
 have hno : ∀ k cs t f, W.heap[k]? = some (Obj.cells cs t f) → some k ≠ row := fun k cs t f hk e => by
  obtain ⟨-, o, ho, hc⟩ := hr k e.symm
  rw [hk] at ho; cases ho; cases hc
 refine ⟨below_grown h.hB hg (fun r e => by have := (hr r e).1; omega), (hg.block _ (blk_lt h.h4) (hno _ _ _ _ h.h4)).trans h.h4, h.lo, h.hi, A, c, (hg.block _ (blk_lt h1) (hno _ _ _ _ h1)).trans h1, ownAny_keep h2 (fun g hg2 => ?_)⟩
 obtain ⟨cs, h3⟩ := own_cells h2 hg2
 exact hg.block g (blk_lt h3) (hno _ _ _ _ h3)
theorem OfS.more {y : SNode} {A : Option Addr} {c : Nat} {A' : Option Addr} {c' : Nat} (h : OfS w x p g8 H pre W) (hH : w.heap.size < H) (h1 : W.heap[g8]? = some (.cells (entA x (p : Int) (.slice A pre.length c)) 70 (0, 0))) (h2 : W.ownsRow H 46 3 (.slice A pre.length c) pre.length (cellsN pre))
  (hgr : W.grownBy W' (Value.slice A pre.length c).ownBlock) (hown : W'.ownsRow H 46 3 (.slice A' (pre.length + 1) c') (pre.length + 1) (cellsN pre ++ [.string y.f0, .int .u64 y.f1.f0, .int .u64 y.f1.f1])) :
  OfS w x p g8 H (pre ++ [y]) (W'.setCell ⟨g8, 6, none⟩ (.slice A' (pre.length + 1) c')) := by
 have hlo := h.lo
 have hhi := h.hi
 have hk : ∀ k, k < H → k < W.heap.size → W'.heap[k]? = W.heap[k]? := fun k hk hlt => hgr.block k hlt (fun e => by have := (h2.lt k e.symm).1; omega)
 have hl : (pre ++ [y]).length = pre.length + 1 := by simp
 refine ⟨(below_grown h.hB hgr (fun r e => by have := (h2.lt r e).1; omega)).setCell (by show w.heap.size ≤ g8; omega) _, (Below.heap_setCell _ _ _ _ (by show w.heap.size ≠ g8; omega)).trans ((hk _ (by omega) (blk_lt h.h4)).trans h.h4), hlo, hhi, A', c', ?_, ?_⟩
 ·
  rw [hl]
  exact blk_put ((hk g8 hhi (blk_lt h1)).trans h1) 6 _ rfl
 ·
  rw [hl, cellsN_append]
  exact ownAny_keep hown (fun g hg => Below.heap_setCell _ _ _ _ (by have := (hown.lt g hg).1; show g ≠ g8; omega))
end
theorem of_results (tmps : Array Value) (W : World) (g4 : Nat) (e : Value) (a0 a1 a2 a3 a4 a5 a6 : Value) (h4 : tmps.getD 4 undef = .pointer (some ⟨g4, 0, none⟩)) (h5 : tmps.getD 5 undef = e) (hg4 : W.heap[g4]? = some (.cells #[a0, a1, a2, a3, a4, a5, a6] 70 (0, 0))) :
  (results Tryd.f37 tmps).run Tryd.prog W = .ok (.tuple #[.agg #[a0, a1, a2, a3, a4, a5, a6], e]) W := by
 have h4' : tmps[4]?.getD undef = .pointer (some ⟨g4, 0, none⟩) := by simpa using h4
 have h5' : tmps[5]?.getD undef = e := by simpa using h5
 have hr : Tryd.f37.results = #[.cell 4 70, .tmp 5] := rfl
 have hu := Tryd.underlying70
 have c0 := blk_cell hg4 0
 have c1 := blk_cell hg4 1
 have c2 := blk_cell hg4 2
 have c3 := blk_cell hg4 3
 have c4 := blk_cell hg4 4
 have c5 := blk_cell hg4 5
 have c6 := blk_cell hg4 6
 simp at c0 c1 c2 c3 c4 c5 c6
 have h1 : (loadVar 70 ⟨g4, 0, none⟩).run Tryd.prog W = .ok (.agg #[a0, a1, a2, a3, a4, a5, a6]) W := by go_simp
 simp [results, hr, h4', h5', asAddr, h1]
set_option maxRecDepth 100000 in
set_option maxHeartbeats 4000000 in
theorem proofOf.calls (base ta gl cl : Nat) (VV : Value) (gs : List RowG) (wd : Int) (ls : List SLeaf) (p m : Nat) (w : World) (hT : TreeOwn base w ta (treeT wd ls) gl cl VV gs) (hk : NewOk wd ls) (hn : ls.length ≤ 1024) (hm : m = ls.length.log2) (hm10 : m ≤ 10) (hp : p < ls.length) :
  Calls Tryd.prog 37 #[ptrT ta, .int .u64 (p : Int)] w fun e w' => ∃ A c, e = .returned (.tuple #[.agg (entA ls[p] (p : Int) (.slice A m c)), .int .i64 0]) ∧ w'.ownsRow w.heap.size 46 3 (.slice A m c) m (cellsN (besL wd ls p m)) ∧ Below w.heap.size w w' := by
 have HT := aM' hT
 have HKK := aM' hk
 have HN := aM' hn
 have HMM := aM' hm
 have HPL := aM' hp
 obtain ⟨x, hx⟩ : ∃ x, x = ls[p] := ⟨_, rfl⟩
 rw [← hx]
 have hlf : leafAtI (treeT wd ls) (p : Int) = (x, true) := by
  unfold leafAtI
  rw [Int.toNat_natCast, hx]
  simp [treeT, List.getD_eq_getElem?_getD, hp]
 have HLF := aM' hlf
 obtain ⟨i0, hi, hz0, hz1, hz2⟩ := info_parts nodeInfo
 obtain ⟨W0, hW0⟩ : ∃ V, V = w.alloc (.cells entZ 70) := ⟨_, rfl⟩
 have HB0 := aM' (show Below w.heap.size w W0 by rw [hW0]; exact below_alloc (Below.refl _ _) _)
 have H4 := aM' (show W0.heap[w.heap.size]? = some (.cells entZ 70 (0, 0)) by rw [hW0]; exact blk_new _ _)
 have hw0 : (wd == 0) = false := by have := hk.w.1; simp; omega
 clear hT hk hn hm hp hx hlf
 refine (callsIn_wide (n := 3)).1 ?_
 refine callsIn_of_wp_marks Tryd.func37 rfl trivial ?_ rfl
 simp only [Tryd.ntmps37, List.size_toArray, List.length_cons, List.length_nil, Nat.reduceAdd, Nat.reduceSub, Array.replicate_succ, Array.replicate_zero, List.push_toArray, List.append_toArray, List.nil_append, List.cons_append]
 refine wpIn_wide.2 ?_
 go_wp2_with fail
 rw [← hW0]
 clear hW0
 refine (show Calls Tryd.prog 18 #[ptrT ta] W0 fun e w' => e = .returned (.int .i64 wd) ∧ W0 = w' from tWidth.calls ta _ W0 ((HT.out.keep HB0.out).readT HKK.out HN.out)).mono ?_
 rintro e _ ⟨rfl, rfl⟩
 have q := tLeaf.calls ta _ (p : Int) W0 ((HT.out.keep HB0.out).readT HKK.out HN.out) (by omega)
 rw [HLF.out] at q
 have Q := aM' q
 clear q
 go_wp2_with fail
 refine Q.out.mono ?_
 rintro e w1 ⟨rfl, hb⟩
 obtain ⟨g6, hg6⟩ : ∃ g, g = w1.heap.size := ⟨_, rfl⟩
 obtain ⟨W2, hW2⟩ : ∃ V, V = w1.alloc (.cells #[.bool x.f0, .string x.f1, .string x.f2, .int .u64 x.f3.f0, .int .u64 x.f3.f1] 36) := ⟨_, rfl⟩
 have hb2 : Below W0.heap.size W0 W2 := by rw [hW2]; exact below_alloc hb _
 have HB2 := aM' (HB0.out.trans (hb2.mono HB0.out.size))
 have H42 := aM' (blk_below H4.out hb2)
 have H6 := (show W2.heap[g6]? = some (.cells #[.bool x.f0, .string x.f1, .string x.f2, .int .u64 x.f3.f0, .int .u64 x.f3.f1] 36 (0, 0)) by rw [hW2, hg6]; exact blk_new _ _)
 have l0 := blk_cell H6 0
 have l1 := blk_cell H6 1
 have l2 := blk_cell H6 2
 have l3 := blk_cell H6 3
 have l4 := blk_cell H6 4
 simp at l0 l1 l2 l3 l4
 go_upto_region 4 with (fail)
 simp only [← hg6, ← hW2]
 clear hg6 hW2 hb hb2 H6 hw0
 go_upto_region 7 with (fail)
 obtain ⟨g8, hg8⟩ : ∃ g, g = W2.heap.size := ⟨_, rfl⟩
 obtain ⟨W3, hW3⟩ : ∃ V, V = W2.alloc (.cells (entA x (p : Int) (.slice none 0 0)) 70) := ⟨_, rfl⟩
 have hz3 : W3.heap.size = g8 + 1 := by rw [hW3, hg8]; simp
 have hO3 : OfS w x p g8 (g8 + 3) [] W3 := by
  have h1 := blk_lt H42.out
  refine ⟨by rw [hW3]; exact below_alloc HB2.out _, by rw [hW3]; exact blk_alloc H42.out _, by omega, by omega, none, 0, by rw [hW3, hg8]; exact blk_new _ _, World.ownsRow_nil _ _ _ _⟩
 rw [← hg8]
 simp only [← hW3]
 clear hW3 hg8 l0 l1 l2 l3 l4
 have HO3 := aM' hO3
 obtain ⟨tb, htb⟩ : ∃ t, t = W3.heap.size := ⟨_, rfl⟩
 have HTB := aM' (show tb = g8 + 1 by omega)
 clear hO3 hz3
 go_wp2_with fail
 refine (beside.calls ta (p : Int) W3).mono ?_
 rintro e w5 ⟨rfl, hw5⟩
 rw [← htb]
 have hT5 : w5.heap[tb]? = some (.cells #[ptrT ta] 25 (0, 0)) := by rw [hw5, htb]; exact blk_alloc (blk_new W3 _) _
 have hP5 : w5.heap[tb + 1]? = some (.cells #[.int .u64 (p : Int)] 23 (0, 0)) := by
  rw [hw5, htb]
  have := blk_new (W3.alloc (.cells #[ptrT ta] 25)) (.cells #[.int .u64 (p : Int)] 23)
  rwa [World.size_alloc] at this
 have hz5 : w5.heap.size = tb + 2 := by rw [hw5, htb]; simp
 have HO5 := aM' (show OfS w x p g8 (g8 + 3) [] w5 by rw [hw5]; exact HO3.out.below (below_alloc (below_alloc (Below.refl _ _) _) _))
 have HT5 := aM' hT5
 have HP5 := aM' hP5
 have HZ5 := aM' hz5
 clear hw5 htb hT5 hP5 hz5
 go_wp2_with fail
 refine wp_forget (fun z => ({ tmps := List.toArray (ptrT ta :: .int .u64 (p : Int) :: z 2 :: z 3 :: .pointer (some ⟨w.heap.size, 0, none⟩) :: .int .i64 0 :: z 6 :: z 7 :: .pointer (some ⟨g8, 0, none⟩) :: z 9 :: z 10 :: z 11 :: z 12 :: z 13 :: z 14 :: z 15 :: z 16 :: z 17 :: z 18 :: z 19 :: z 20 :: z 21 :: z 22 :: z 23 :: z 24 :: z 25 :: z 26 :: z 27 :: z 28 :: .func (.func 106) #[] #[.pointer (some ⟨tb, 0, none⟩), .pointer (some ⟨tb + 1, 0, none⟩)] :: z 30 :: z 31 :: z 32 :: z 33 :: z 34 :: z 35 :: z 36 :: z 37 :: z 38 :: z 39 :: []), defers := [] } : Act)) rfl ?_
 intro z
 refine (wpIn_wide (n := 3)).1 ?_
 have HSL := aM' (show ∀ k, (k < w.heap.size ∨ k = tb ∨ k = tb + 1) → k < w5.heap.size from fun k hk => by
  have h1 := HZ5.out
  have h3 := HO5.out.hB.size
  rcases hk with h | rfl | rfl <;> omega)
 refine wpIn_rangeFunc_ownH (α := SNode) (n := 3) rfl (by omega) (gf := 106) (lb := #[.pointer (some ⟨tb, 0, none⟩), .pointer (some ⟨tb + 1, 0, none⟩)]) rfl trivial (enters_of Tryd.func106 (by kernel_rfl) rfl) (encs := fun y => #[nodeV y]) (Kp := KeepS (fun k => k < w.heap.size ∨ k = tb ∨ k = tb + 1))
  (S := fun ys => ys = besL wd ls p m) (Sp := fun pre => True) (N := m) (w0 := w5) ?hseq (fun h k => KeepS.trans h k) ?hKb (Below.refl _ _) (fun _ => rfl)
  (fun pre V => OfS w x p g8 (g8 + 3) pre V ∧ w5.heap.size ≤ V.heap.size)
  (fun c2 pre V => False)
  ?hI ?hIx ⟨HO5.out, Nat.le_refl _⟩
  (fun y a' V => ∃ bx, w5.heap.size ≤ bx ∧ V.heap[bx]? = some (.cells (nodeA y) 46 (0, 0)) ∧ a' = ({ tmps := List.toArray (ptrT ta :: .int .u64 (p : Int) :: z 2 :: z 3 :: .pointer (some ⟨w.heap.size, 0, none⟩) :: .int .i64 0 :: z 6 :: z 7 :: .pointer (some ⟨g8, 0, none⟩) :: .pointer (some ⟨bx, 0, none⟩) :: z 10 :: z 11 :: z 12 :: z 13 :: z 14 :: z 15 :: z 16 :: z 17 :: z 18 :: z 19 :: z 20 :: z 21 :: z 22 :: z 23 :: z 24 :: z 25 :: z 26 :: z 27 :: z 28 :: .func (.func 106) #[] #[.pointer (some ⟨tb, 0, none⟩), .pointer (some ⟨tb + 1, 0, none⟩)] :: nodeV y :: z 31 :: z 32 :: z 33 :: z 34 :: z 35 :: z 36 :: z 37 :: z 38 :: z 39 :: []), defers := [] } : Act)) ?hAx ?assign ?body ?done ?stop
 case hKb =>
  intro W' l2 o o' hl2 ho hc hw k hk
  have h1 := HZ5.out
  have h2 := HO5.out.lo
  have h3 := HTB.out
  exact World.putObj_heap_other (by rcases hk with h | rfl | rfl <;> omega)
 case hI =>
  rintro s X Y row ⟨h1, h2⟩ hg hr
  exact ⟨h1.grown hg (fun r e => ⟨by have := (hr r e).1; have := HZ5.out; have := HO5.out.lo; have := HTB.out; omega, (hr r e).2⟩), Nat.le_trans h2 hg.size⟩
 case hIx =>
  rintro c2 s X Y row h hg hr
  exact h
 case hAx =>
  rintro y a' s X Y row ⟨bx, h1, h2, h3⟩ hg hr
  refine ⟨bx, h1, (hg.block bx (blk_lt h2) (fun e => ?_)).trans h2, h3⟩
  obtain ⟨-, o, ho, hc⟩ := hr bx e.symm
  rw [h2] at ho; cases ho; cases hc
 case hseq =>
  intro l2 J Jx W hW hJ hJx hY h0
  have hb5 := HO5.out.hB
  refine (beside1_in 2 (by omega) l2 tb (tb + 1) W.heap.size ta m p wd ls HKK.out HMM.out hm10 HPL.out (by have := HPL.out; have := HN.out; omega) (fun k => k < w.heap.size ∨ k = tb ∨ k = tb + 1) (.inr (.inl rfl)) (.inr (.inr rfl)) J Jx hJ W ?_ hY (blk_below HT5.out hW) (blk_below HP5.out hW) ?_ h0).mono ?_
  ·
   intro W' hk
   refine (HT.out.far (W' := W') (fun k _ hlt => (hk k (.inl hlt)).trans ?_)).readT HKK.out HN.out
   exact (hW.block k (lL' hlt hb5.size)).trans (hb5.block k hlt)
  ·
   intro k hk
   have h1 := HZ5.out
   have h2 := hW.size
   have h3 := hb5.size
   rcases hk with h | rfl | rfl <;> omega
  ·
   rintro e W2 ⟨hv, ⟨ys, h1, h2⟩ | ⟨pre, -, h1⟩⟩
   ·
    exact ⟨hv, .inl ⟨ys, h1, h2⟩⟩
   ·
    exact ⟨hv, .inr ⟨pre, trivial, h1⟩⟩
 case assign =>
  rintro l2 pre y W K ⟨hI, hz⟩ hK
  gi_wp2
  have hg := World.grownBy_alloc W (.cells (nodeA y) 46) none
  refine hK _ _ (KeepsFrom.of_grownBy hg (fun j e => by cases e)) (fun k hk => hg.block k (lL' (HSL.out k hk) hz) (by simp)) ⟨hI.below (below_alloc (Below.refl _ _) _), by simp; omega⟩ ⟨W.heap.size, hz, blk_new W _, rfl⟩
 case body =>
  rintro l2 pre y a' W hl2 - ⟨hI, hz⟩ ⟨bx, hbx, hb, rfl⟩ hlen
  obtain ⟨A, c, hbox, hown0⟩ := hI.b
  have HII := aM' hI
  have HBOX := aM' hbox
  have HOWN0 := aM' hown0
  have HZZ := aM' hz
  have HLEN := aM' hlen
  have y6 : W.cell? ⟨g8, 6, none⟩ = some (.slice A pre.length c) := blk_cell hbox 6
  have n0 : W.cell? ⟨bx, 0, none⟩ = some (.string y.f0) := blk_cell hb 0
  have n1 : W.cell? ⟨bx, 1, none⟩ = some (.int .u64 y.f1.f0) := blk_cell hb 1
  have n2 : W.cell? ⟨bx, 2, none⟩ = some (.int .u64 y.f1.f1) := blk_cell hb 2
  have hsz := HO5.out.lo
  have hz5 := HZ5.out
  have htb := HTB.out
  have HSZ := aM' (show w.heap.size < g8 ∧ g8 + 3 ≤ W.heap.size ∧ g8 < W.heap.size from ⟨hsz, by omega, by omega⟩)
  clear hI hbox hown0 hz hlen hb hbx hl2 hsz hz5 htb
  gi_upto_region 9 with (fail)
  refine wpIn_region_list ?_
  refine li_val (v := .pointer (some ⟨g8, 5, none⟩)) (w' := W) rfl (fun _ => trivial) (fun _ h => by cases h) (by go_simp; done) ?_
  refine li_val (v := .pointer (some ⟨g8, 6, none⟩)) (w' := W) rfl (fun _ => trivial) (fun _ h => by cases h) (by go_simp; done) ?_
  refine li_val (v := .slice A pre.length c) (w' := W) rfl (fun _ => trivial) (fun _ h => by cases h) (by go_simp; done) ?_
  refine li_val (v := .agg #[.string y.f0, .int .u64 y.f1.f0, .int .u64 y.f1.f1]) (w' := W) rfl (fun _ => trivial) (fun _ h => by cases h) (by go_simp; done) ?_
  refine li_val (v := .slice (some ⟨W.heap.size, 0, none⟩) 1 1) (w' := W.alloc (.cells #[.string y.f0, .int .u64 y.f1.f0, .int .u64 y.f1.f1] 46 (0, 0))) rfl (fun _ => trivial) (fun _ h => by cases h) (by go_simp; done) ?_
  refine wpListIn_append_own _ rfl _ _ 43 rfl (g8 + 3) 46 i0 (.agg #[(.string ⟨#[]⟩), (.int .u64 0), (.int .u64 0)]) 3 32 Tryd.underlying43 hi hz0 hz1 hz2 rfl (by decide) (.slice A pre.length c) pre.length (cellsN pre) rfl ?own ⟨W.heap.size, 0, none⟩ 1 1 [.string y.f0, .int .u64 y.f1.f0, .int .u64 y.f1.f1] rfl rfl ?cells ?one ?b1 ?b2 ?b3 ?_
  (case own => exact ownB HOWN0.out (below_alloc (Below.refl _ _) _))
  (case cells => exact World.news_of_block (blk_new W _))
  (case one => intro u hu; simp at hu; rcases hu with rfl | rfl | rfl <;> rfl)
  (case b1 => have h1 := HLEN.out; unfold maxLen; omega)
  (case b2 => have h1 := HLEN.out; omega)
  (case b3 => rw [World.size_alloc]; have := HSZ.out; omega)
  intro v' w7 hown hgr hnil
  obtain ⟨g, cap, rfl, -, hg7⟩ := hown.form (by omega)
  have hal := below_alloc (Below.refl W.heap.size W) (.cells #[.string y.f0, .int .u64 y.f1.f0, .int .u64 y.f1.f1] 46 (0, 0))
  have hmore := (HII.out.below hal).more (by have := HSZ.out; omega) (blk_below HBOX.out hal) (ownB HOWN0.out hal) hgr hown
  have HMORE := aM' hmore
  have hno : ∀ k, k < g8 + 3 → (Value.slice A pre.length c).ownBlock ≠ some k := fun k hk e => by have := (HOWN0.out.lt k e).1; omega
  have HGR := aM' hgr
  have HNO := aM' hno
  have hz6 := (hgr.block g8 (by rw [World.size_alloc]; have := HSZ.out; omega) (fun e => hno g8 (by omega) e.symm)).trans (blk_below HBOX.out hal)
  have z6 : w7.cell? ⟨g8, 6, none⟩ = some (.slice A pre.length c) := blk_cell hz6 6
  have zf : ∀ i, w7.frozen? ⟨g8, i, none⟩ = false := fun i => blk_frozen hz6 i
  have HAL := aM' hal
  clear hown hgr hz6 hnil hno hg7 hmore hal
  refine li_val (v := .pointer (some ⟨g8, 5, none⟩)) (w' := w7) rfl (fun _ => trivial) (fun _ h => by cases h) (by go_simp; done) ?_
  refine li_val (v := .pointer (some ⟨g8, 6, none⟩)) (w' := w7) rfl (fun _ => trivial) (fun _ h => by cases h) (by go_simp; done) ?_
  refine li_skip (w' := w7.setCell ⟨g8, 6, none⟩ (.slice (some ⟨g, 0, none⟩) (pre.length + 1) cap)) rfl (fun _ => trivial) (fun _ h => by cases h) (by go_simp; first | done | rfl) ?_
  gi_wp2
  have hend : ∀ k, k < W.heap.size → (Value.slice A pre.length c).ownBlock ≠ some k → k ≠ g8 → (w7.setCell ⟨g8, 6, none⟩ (.slice (some ⟨g, 0, none⟩) (pre.length + 1) cap)).heap[k]? = W.heap[k]? := fun k hk h1 h2 =>
   (Below.heap_setCell _ _ _ _ h2).trans ((HGR.out.block k (by rw [World.size_alloc]; omega) (fun e => h1 e.symm)).trans (HAL.out.block k hk))
  have hsz : W.heap.size ≤ w7.heap.size := by have h1 := HGR.out.size; rw [World.size_alloc] at h1; omega
  refine ⟨⟨by simpa using hsz, fun k o hk h0 ho => ?_⟩, ?_, ?_⟩
  ·
   rw [hend k (Array.getElem?_eq_some_iff.1 h0).1 (fun e => ?_) (fun e => ?_)]
   ·
    exact h0
   ·
    obtain ⟨cs, h3⟩ := own_cells HOWN0.out e
    rw [h0] at h3
    cases h3
    cases ho
   ·
    rw [e, HBOX.out] at h0
    cases h0
    cases ho
  ·
   intro k hk
   have h1 := HSL.out k hk
   have h2 := HO5.out.lo
   have h3 := HTB.out
   have h4 := HZZ.out
   have h5 := HZ5.out
   have hk8 : k ≠ g8 := by rcases hk with h | rfl | rfl <;> omega
   exact hend k (by omega) (HNO.out k (by rcases hk with h | rfl | rfl <;> omega)) hk8
  ·
   exact ⟨HMORE.out, by have := HZZ.out; simp; omega⟩
 case done =>
  rintro D ys W hD hys ⟨hI, hz⟩ hdf
  obtain ⟨A, c, hbox, hown⟩ := hI.b
  have hlen : ys.length = m := by rw [hys]; exact besL_len ..
  have y0 : W.cell? ⟨g8, 0, none⟩ = some (.bool x.f0) := blk_cell hbox 0
  have y1 : W.cell? ⟨g8, 1, none⟩ = some (.string x.f1) := blk_cell hbox 1
  have y2 : W.cell? ⟨g8, 2, none⟩ = some (.string x.f2) := blk_cell hbox 2
  have y3 : W.cell? ⟨g8, 3, none⟩ = some (.int .u64 x.f3.f0) := blk_cell hbox 3
  have y4 : W.cell? ⟨g8, 4, none⟩ = some (.int .u64 x.f3.f1) := blk_cell hbox 4
  have y5 : W.cell? ⟨g8, 5, none⟩ = some (.int .u64 (p : Int)) := blk_cell hbox 5
  have y6 : W.cell? ⟨g8, 6, none⟩ = some (.slice A ys.length c) := blk_cell hbox 6
  have z0 : W.cell? ⟨w.heap.size, 0, none⟩ = some (.bool false) := blk_cell hI.h4 0
  have z1 : W.cell? ⟨w.heap.size, 1, none⟩ = some (.string ⟨#[]⟩) := blk_cell hI.h4 1
  have z2 : W.cell? ⟨w.heap.size, 2, none⟩ = some (.string ⟨#[]⟩) := blk_cell hI.h4 2
  have z3 : W.cell? ⟨w.heap.size, 3, none⟩ = some (.int .u64 0) := blk_cell hI.h4 3
  have z4 : W.cell? ⟨w.heap.size, 4, none⟩ = some (.int .u64 0) := blk_cell hI.h4 4
  have z5 : W.cell? ⟨w.heap.size, 5, none⟩ = some (.int .u64 0) := blk_cell hI.h4 5
  have z6 : W.cell? ⟨w.heap.size, 6, none⟩ = some (.slice none 0 0) := blk_cell hI.h4 6
  have zf : ∀ i, W.frozen? ⟨w.heap.size, i, none⟩ = false := fun i => blk_frozen hI.h4 i
  obtain ⟨W9, hW9⟩ : ∃ V, V = (((((((W.setCell ⟨w.heap.size, 0, none⟩ (.bool x.f0)).setCell ⟨w.heap.size, 1, none⟩ (.string x.f1)).setCell ⟨w.heap.size, 2, none⟩ (.string x.f2)).setCell ⟨w.heap.size, 3, none⟩ (.int .u64 x.f3.f0)).setCell ⟨w.heap.size, 4, none⟩ (.int .u64 x.f3.f1)).setCell ⟨w.heap.size, 5, none⟩ (.int .u64 (p : Int))).setCell ⟨w.heap.size, 6, none⟩ (.slice A ys.length c)) := ⟨_, rfl⟩
  have hk9 : ∀ k, k ≠ w.heap.size → W9.heap[k]? = W.heap[k]? := fun k hk => by
   rw [hW9]; exact (Below.heap_setCell _ _ _ _ hk).trans ((Below.heap_setCell _ _ _ _ hk).trans ((Below.heap_setCell _ _ _ _ hk).trans ((Below.heap_setCell _ _ _ _ hk).trans ((Below.heap_setCell _ _ _ _ hk).trans ((Below.heap_setCell _ _ _ _ hk).trans (Below.heap_setCell _ _ _ _ hk))))))
  have H49 := aM' (show W9.heap[w.heap.size]? = some (.cells (entA x (p : Int) (.slice A ys.length c)) 70 (0, 0)) by rw [hW9]; exact blk_put (blk_put (blk_put (blk_put (blk_put (blk_put (blk_put hI.h4 0 _ rfl) 1 _ rfl) 2 _ rfl) 3 _ rfl) 4 _ rfl) 5 _ rfl) 6 _ rfl)
  have HB9 := aM' (show Below w.heap.size w W9 by rw [hW9]; exact below_set (below_set (below_set (below_set (below_set (below_set (below_set (hI.hB) (Nat.le_refl _)) (Nat.le_refl _)) (Nat.le_refl _)) (Nat.le_refl _)) (Nat.le_refl _)) (Nat.le_refl _)) (Nat.le_refl _))
  have hlo := hI.lo
  have hz5 := HZ5.out
  have htb := HTB.out
  have HD9 := aM' (show W9.heap[D]? = some (.deferred (some [])) from (hk9 D (by omega)).trans hdf)
  have HOW9 := aM' (ownAny_keep hown (fun g hg => hk9 g (by have := (hown.lt g hg).1; have := hI.hi; omega)))
  have HYS := aM' hys
  have HLE := aM' hlen
  have HDD := aM' (show w.heap.size < D ∧ w.heap.size < g8 from ⟨by omega, hlo⟩)
  clear hk9 hI hbox hown hlen hz hD hys hdf hlo hz5 htb
  dsimp only
  go_wp2
  rw [← hW9]
  refine retD (ds := [D]) (v := .tuple #[.agg (entA x (p : Int) (.slice A ys.length c)), .int .i64 0]) (List.nodup_cons.2 ⟨List.not_mem_nil, List.nodup_nil⟩) (fun D' hD' => by rw [List.mem_singleton.1 hD']; exact HD9.out) (fun W' hW' => ?_)
  have hno : ∀ (k : Nat) (cs : Array Value) (t : TypeId) (f : Nat × Nat), W9.heap[k]? = some (Obj.cells cs t f) → W'.heap[k]? = some (Obj.cells cs t f) := fun k cs t f hk => by
   rw [hW'.heap k (fun hm => ?_)]
   ·
    exact hk
   ·
    rw [List.mem_singleton.1 hm, HD9.out] at hk
    cases hk
  refine ⟨of_results _ _ _ _ _ _ _ _ _ _ _ rfl rfl (hno _ _ _ _ H49.out), A, c, by rw [HLE.out], ?_, hW'.below HB9.out (fun D' hD' => by rw [List.mem_singleton.1 hD']; have := HDD.out; omega)⟩
  have h1 := own_base (ownAny_keep (w' := W') HOW9.out (fun g hg => by
   obtain ⟨cs, h3⟩ := own_cells HOW9.out hg
   rw [hno _ _ _ _ h3, h3])) (show w.heap.size ≤ g8 + 3 by have := HDD.out; omega)
  rw [HLE.out, HYS.out] at h1
  exact h1
 case stop =>
  rintro D c2 pre W hD - h hdf
  exact h.elim
set_option maxRecDepth 100000 in
set_option maxHeartbeats 4000000 in
theorem proofOfNo.calls (base ta gl cl : Nat) (VV : Value) (gs : List RowG) (wd : Int) (ls : List SLeaf) (p : Nat) (w : World) (hT : TreeOwn base w ta (treeT wd ls) gl cl VV gs) (hk : NewOk wd ls) (hn : ls.length ≤ 1024) (hp : ls.length ≤ p) :
  Calls Tryd.prog 37 #[ptrT ta, .int .u64 (p : Int)] w fun e w' => e = .returned (.tuple #[.agg entZ, .int .i64 2]) ∧ Below w.heap.size w w' := by
 have HT := aM' hT
 have HKK := aM' hk
 have HN := aM' hn
 have hlf : leafAtI (treeT wd ls) (p : Int) = (leafZ, false) := by
  unfold leafAtI
  rw [Int.toNat_natCast]
  simp [treeT, List.getD_eq_getElem?_getD, hp, show ¬ p < ls.length by omega]
 have HLF := aM' hlf
 obtain ⟨W0, hW0⟩ : ∃ V, V = w.alloc (.cells entZ 70) := ⟨_, rfl⟩
 have HB0 := aM' (show Below w.heap.size w W0 by rw [hW0]; exact below_alloc (Below.refl _ _) _)
 have H4 := aM' (show W0.heap[w.heap.size]? = some (.cells entZ 70 (0, 0)) by rw [hW0]; exact blk_new _ _)
 have hw0 : (wd == 0) = false := by have := hk.w.1; simp; omega
 clear hT hk hn hp hlf
 refine (callsIn_wide (n := 3)).1 ?_
 refine callsIn_of_wp_marks Tryd.func37 rfl trivial ?_ rfl
 simp only [Tryd.ntmps37, List.size_toArray, List.length_cons, List.length_nil, Nat.reduceAdd, Nat.reduceSub, Array.replicate_succ, Array.replicate_zero, List.push_toArray, List.append_toArray, List.nil_append, List.cons_append]
 refine wpIn_wide.2 ?_
 go_wp2_with fail
 rw [← hW0]
 clear hW0
 refine (show Calls Tryd.prog 18 #[ptrT ta] W0 fun e w' => e = .returned (.int .i64 wd) ∧ W0 = w' from tWidth.calls ta _ W0 ((HT.out.keep HB0.out).readT HKK.out HN.out)).mono ?_
 rintro e _ ⟨rfl, rfl⟩
 have q := tLeaf.calls ta _ (p : Int) W0 ((HT.out.keep HB0.out).readT HKK.out HN.out) (by omega)
 rw [HLF.out] at q
 have Q := aM' q
 clear q
 go_wp2_with fail
 refine Q.out.mono ?_
 rintro e w1 ⟨rfl, hb⟩
 obtain ⟨W2, hW2⟩ : ∃ V, V = w1.alloc (.cells #[.bool false, .string ⟨#[]⟩, .string ⟨#[]⟩, .int .u64 0, .int .u64 0] 36) := ⟨_, rfl⟩
 have hb2 : Below W0.heap.size W0 W2 := by rw [hW2]; exact below_alloc hb _
 have HB2 := aM' (HB0.out.trans (hb2.mono HB0.out.size))
 have h42 := blk_below H4.out hb2
 have z0 : W2.cell? ⟨w.heap.size, 0, none⟩ = some (.bool false) := blk_cell h42 0
 have z1 : W2.cell? ⟨w.heap.size, 1, none⟩ = some (.string ⟨#[]⟩) := blk_cell h42 1
 have z2 : W2.cell? ⟨w.heap.size, 2, none⟩ = some (.string ⟨#[]⟩) := blk_cell h42 2
 have z3 : W2.cell? ⟨w.heap.size, 3, none⟩ = some (.int .u64 0) := blk_cell h42 3
 have z4 : W2.cell? ⟨w.heap.size, 4, none⟩ = some (.int .u64 0) := blk_cell h42 4
 have z5 : W2.cell? ⟨w.heap.size, 5, none⟩ = some (.int .u64 0) := blk_cell h42 5
 have z6 : W2.cell? ⟨w.heap.size, 6, none⟩ = some (.slice none 0 0) := blk_cell h42 6
 have zf : ∀ i, W2.frozen? ⟨w.heap.size, i, none⟩ = false := fun i => blk_frozen h42 i
 have H42 := aM' h42
 go_upto_region 4 with (fail)
 simp only [← hW2]
 clear hW2 hb hb2 hw0 h42
 obtain ⟨W9, hW9⟩ : ∃ V, V = (((((((W2.setCell ⟨w.heap.size, 0, none⟩ (.bool false)).setCell ⟨w.heap.size, 1, none⟩ (.string ⟨#[]⟩)).setCell ⟨w.heap.size, 2, none⟩ (.string ⟨#[]⟩)).setCell ⟨w.heap.size, 3, none⟩ (.int .u64 0)).setCell ⟨w.heap.size, 4, none⟩ (.int .u64 0)).setCell ⟨w.heap.size, 5, none⟩ (.int .u64 0)).setCell ⟨w.heap.size, 6, none⟩ (.slice none 0 0)) := ⟨_, rfl⟩
 have H49 := aM' (show W9.heap[w.heap.size]? = some (.cells entZ 70 (0, 0)) by rw [hW9]; exact blk_put (blk_put (blk_put (blk_put (blk_put (blk_put (blk_put H42.out 0 _ rfl) 1 _ rfl) 2 _ rfl) 3 _ rfl) 4 _ rfl) 5 _ rfl) 6 _ rfl)
 have HB9 := aM' (show Below w.heap.size w W9 by rw [hW9]; exact below_set (below_set (below_set (below_set (below_set (below_set (below_set (HB2.out) (Nat.le_refl _)) (Nat.le_refl _)) (Nat.le_refl _)) (Nat.le_refl _)) (Nat.le_refl _)) (Nat.le_refl _)) (Nat.le_refl _))
 go_wp2
 rw [← hW9]
 exact ret0 _ (of_results _ _ _ _ _ _ _ _ _ _ _ rfl rfl H49.out) ⟨rfl, HB9.out⟩
end Go.Proofs.YtfcodmdckcihmaaDoor.P
namespace Go.Proofs.YtfcodmdckcihmaaDoor.P
open Go.RowKit Go.Proofs.YtfcodmdckcihmaaDoorW.PrintWords Go.Proofs.YtfcodmdckcihmaaDoorW.PrintLast Go.Proofs.YtfcodmdckcihmaaDoorW.PrintMore
set_option linter.unusedVariables false
set_option linter.unusedSimpArgs false
set_option linter.unnecessarySimpa false
abbrev EntR := SEntry × Option Addr × Nat
def cellsE : List EntR → List Value
 | [] => []
 | x :: l => .bool x.1.f0.f0 :: .string x.1.f0.f1 :: .string x.1.f0.f2 :: .int .u64 x.1.f0.f3.f0 :: .int .u64 x.1.f0.f3.f1 :: .int .u64 x.1.f1.f0 :: .slice x.2.1 x.1.f1.f1.length x.2.2 :: cellsE l
theorem cellsE_len : ∀ l, (cellsE l).length = l.length * 7
 | [] => rfl
 | x :: l => by simp [cellsE, cellsE_len l]; omega
theorem cellsE_append : ∀ a b, cellsE (a ++ b) = cellsE a ++ cellsE b
 | [], _ => rfl
 | x :: a, b => by rw [List.cons_append, cellsE, cellsE_append a b]; rfl
theorem cellsE_get : ∀ (l : List EntR) (j i : Nat) (p : EntR), l[j]? = some p → i < 7 → (cellsE l)[j * 7 + i]? = [Value.bool p.1.f0.f0, .string p.1.f0.f1, .string p.1.f0.f2, .int .u64 p.1.f0.f3.f0, .int .u64 p.1.f0.f3.f1, .int .u64 p.1.f1.f0, .slice p.2.1 p.1.f1.f1.length p.2.2][i]?
 | [], j, i, p, h, _ => by simp at h
 | x :: l, 0, i, p, h, hi => by
  obtain rfl := Option.some.inj h
  rw [cellsE, Nat.zero_mul, Nat.zero_add]
  match i, hi with
  | 0, _ => rfl
  | 1, _ => rfl
  | 2, _ => rfl
  | 3, _ => rfl
  | 4, _ => rfl
  | 5, _ => rfl
  | 6, _ => rfl
 | x :: l, j + 1, i, p, h, hi => by
  have h' : l[j]? = some p := by simpa using h
  rw [cellsE, show (j + 1) * 7 + i = (j * 7 + i) + 7 by omega]
  simp only [List.getElem?_cons_succ]
  exact cellsE_get l j i p h' hi
def EntC (w : World) (x : EntR) : Prop := x.1.f1.f1.length ≤ x.2.2 ∧ Kd.C kNode w x.2.1 x.1.f1.f1.length x.1.f1.f1
theorem EntC.below {w w' : World} {x : EntR} (h : EntC w x) (hb : Below w.heap.size w w') : EntC w' x := ⟨h.1, Kd.C_below h.2 hb⟩
theorem ownEnts_C {w : World} {base g n cap : Nat} {xs : List EntR} (h : w.ownsRow base 70 7 (.slice (some ⟨g, 0, none⟩) n cap) n (cellsE xs)) (hs : ∀ x ∈ xs, EntC w x) : xs.length = n ∧ n ≤ cap ∧ Kd.C kEntry w (some ⟨g, 0, none⟩) n (xs.map Prod.fst) := by
 obtain ⟨hlen, h⟩ := h
 rw [cellsE_len] at hlen
 have hl : xs.length = n := by omega
 rcases h with ⟨h, _⟩ | ⟨g', cap', cur, hv, hb, hg, hcap, hmax, hsz, htk⟩
 ·
  cases h
 ·
  simp only [Value.slice.injEq, Option.some.injEq, Addr.mk.injEq] at hv
  obtain ⟨⟨rfl, -⟩, -, rfl⟩ := hv
  refine ⟨hl, hcap, by rw [List.length_map]; exact hl, by unfold maxLen at hmax; omega, fun h0 => ⟨_, rfl, fun j p hj => ?_⟩⟩
  obtain ⟨x, hx, rfl⟩ : ∃ x, xs[j]? = some x ∧ x.1 = p := by
   rw [List.getElem?_map] at hj
   cases hx : xs[j]? with
   | none => rw [hx] at hj; cases hj
   | some x => rw [hx] at hj; exact ⟨x, rfl, Option.some.inj hj⟩
  have hc := hs x (List.mem_of_getElem? hx)
  refine ⟨_, rfl, kEntry_mk w x.1 hc.1 hc.2, fun i u hu => ?_⟩
  have hi : i < 7 := by
   rcases Nat.lt_or_ge i 7 with h | h
   ·
    exact h
   ·
    simp [h] at hu
  have hjn : j < xs.length := (List.getElem?_eq_some_iff.1 hx).1
  have e : kEntry.sz = 7 := rfl
  have ea : ∀ n, (⟨g, 0, none⟩ : Addr).add n = ⟨g, n, none⟩ := fun n => by unfold Addr.add; split <;> simp_all
  rw [e, ea, blk_cell hg]
  have h1 := cellsE_get xs j i x hx hi
  rw [← htk, List.getElem?_take, if_pos (by omega)] at h1
  rw [hu] at h1
  simpa using h1
theorem own_nodes {w : World} {base n cap : Nat} {A : Option Addr} {xs : List SNode} (h : w.ownsRow base 46 3 (.slice A n cap) n (cellsN xs)) (hx : xs.length = n) : n ≤ cap ∧ Kd.C kNode w A n xs := by
 cases n with
 | zero =>
  obtain rfl := List.length_eq_zero_iff.1 hx
  exact ⟨Nat.zero_le _, rfl, by decide, fun h => absurd h (by decide)⟩
 | succ n =>
  obtain ⟨g, c, hv, -, -⟩ := h.form (by omega)
  cases hv
  have := ownNodes_C h
  exact ⟨this.2.1, this.2.2⟩
theorem own_ents {w : World} {base n cap : Nat} {A : Option Addr} {xs : List EntR} (h : w.ownsRow base 70 7 (.slice A n cap) n (cellsE xs)) (hx : xs.length = n) (hs : ∀ x ∈ xs, EntC w x) : n ≤ cap ∧ Kd.C kEntry w A n (xs.map Prod.fst) := by
 cases n with
 | zero =>
  obtain rfl := List.length_eq_zero_iff.1 hx
  exact ⟨Nat.zero_le _, rfl, by decide, fun h => absurd h (by decide)⟩
 | succ n =>
  obtain ⟨g, c, hv, -, -⟩ := h.form (by omega)
  cases hv
  have := ownEnts_C h hs
  exact ⟨this.2.1, this.2.2⟩
end Go.Proofs.YtfcodmdckcihmaaDoor.P
namespace Go.Proofs.YtfcodmdckcihmaaDoor.P
open Go.RowKit Go.Proofs.YtfcodmdckcihmaaDoorW.PrintWords Go.Proofs.YtfcodmdckcihmaaDoorW.PrintLast Go.Proofs.YtfcodmdckcihmaaDoorW.PrintMore
set_option linter.unusedVariables false
set_option linter.unusedSimpArgs false
set_option linter.unnecessarySimpa false
theorem rdLeaf_nat (l : List SLeaf) (i : Nat) (h : i < l.length) : rd_TLeaf l (i : Int) = l[i] := by simp [rd_TLeaf, h]
theorem great15_loop (l : List SLeaf) (hl : l.length ≤ 9223372036854775807) : ∀ d i : Nat, i + d = l.length → Ev (fun k => paymasterlaw15_Great.l0 k l (i : Int)) ((l.drop i).any fun n => decide (200 < n.f1.size) || decide (200 < n.f2.size)) := by
 intro d
 induction d with
 | zero =>
  intro i hi
  refine Ev.step (f := fun _ => some false) (fun k => ?_) (ev_eq (Ev.now false) ?_)
  ·
   simp only [paymasterlaw15_Great.l0]; rw [if_neg (by omega)]
  ·
   rw [List.drop_of_length_le (by omega)]; rfl
 | succ d ih =>
  intro i hi
  have hlt : i < l.length := by omega
  rw [any_drop_succ _ l i hlt]
  by_cases hb : 200 < l[i].f1.size
  ·
   refine Ev.step (f := fun _ => some true) (fun k => ?_) (ev_eq (Ev.now true) (by simp [hb]))
   simp only [paymasterlaw15_Great.l0]; rw [if_pos (by omega), if_pos (by omega), rdLeaf_nat l i hlt, if_pos (by omega)]
  ·
   by_cases hc : 200 < l[i].f2.size
   ·
    refine Ev.step (f := fun _ => some true) (fun k => ?_) (ev_eq (Ev.now true) (by simp [hc]))
    simp only [paymasterlaw15_Great.l0]; rw [if_pos (by omega), if_pos (by omega), rdLeaf_nat l i hlt, if_neg (by omega), if_pos (by omega)]
   ·
    refine Ev.step (f := fun k => paymasterlaw15_Great.l0 k l ((i + 1 : Nat) : Int)) (fun k => ?_) (ev_eq (ih (i + 1) (by omega)) (by simp [hb, hc]))
    simp only [paymasterlaw15_Great.l0]; rw [if_pos (by omega), if_pos (by omega), rdLeaf_nat l i hlt, if_neg (by omega), if_neg (by omega), wrap64_id (by omega) (by omega)]; rfl
def greatL (l : List SLeaf) : Bool := decide (70 < l.length) || l.any fun n => decide (200 < n.f1.size) || decide (200 < n.f2.size)
theorem great15_ev (l : List SLeaf) (hl : l.length ≤ 9223372036854775807) : Ev (fun k => paymasterlaw15_Great.f k l) (greatL l) := by
 unfold paymasterlaw15_Great.f greatL
 by_cases h : 70 < l.length
 ·
  exact Ev.some_ (fun k => by rw [if_pos (by omega)]; simp [h])
 ·
  refine Ev.congr (fun k => by rw [if_neg (by omega)]; rfl) (ev_eq (great15_loop l hl l.length 0 (by omega)) (by simp [h]))
def shapeN (a0 a1 p : Int) (l : List SNode) : Int := if a1 < 0 ∨ a1 > 63 then 120 else if a0 < 1 ∨ a0 > 32 ∨ l.any (fun n => !nodeOf a0 n) = true then 70 else if (l.length : Int) ≠ a1 ∨ p / 2 ^ a1.toNat ≠ 0 then 160 else 0
theorem proofShape_eq (a0 a1 p : Int) (l : List SNode) : proof_Shape.f a0 a1 p l = some (shapeN a0 a1 p l) := rfl
end Go.Proofs.YtfcodmdckcihmaaDoor.P
namespace Go.Proofs.YtfcodmdckcihmaaDoor.P
open Go.RowKit Go.Proofs.YtfcodmdckcihmaaDoorW.PrintWords Go.Proofs.YtfcodmdckcihmaaDoorW.PrintLast Go.Proofs.YtfcodmdckcihmaaDoorW.PrintMore
set_option linter.unusedVariables false
set_option linter.unusedSimpArgs false
set_option linter.unnecessarySimpa false
structure OkE (e : SEntry) : Prop where
 id : e.f0.f1.size ≤ 1000000
 sa : e.f0.f2.size ≤ 1000000
 ub : OkU e.f0.f3
 p : 0 ≤ e.f1.f0 ∧ e.f1.f0 < 18446744073709551616
 us : ∀ x ∈ e.f1.f1, OkU x.f1
 ls : e.f1.f1.length ≤ 9223372036854775807
def climbE (w : Int) (e : SEntry) : ByteArray × Int × Int × Int := climbI w (leafNodeI w e.f0) e.f1.f0 e.f1.f1
end Go.Proofs.YtfcodmdckcihmaaDoor.P
namespace Go.Proofs.YtfcodmdckcihmaaDoor.P
open Go.RowKit Go.Proofs.YtfcodmdckcihmaaDoorW.PrintWords Go.Proofs.YtfcodmdckcihmaaDoorW.PrintLast Go.Proofs.YtfcodmdckcihmaaDoorW.PrintMore
set_option linter.unusedVariables false
set_option linter.unusedSimpArgs false
set_option linter.unnecessarySimpa false
structure UpOk (w : Int) (e : SEntry) : Prop where
 may : mayLeafI e.f0 = true
 shape : shapeN w (e.f1.f1.length : Int) e.f1.f0 e.f1.f1 = 0
 err : (climbE w e).2.2.2 = 0
end Go.Proofs.YtfcodmdckcihmaaDoor.P
namespace Go.Proofs.YtfcodmdckcihmaaDoor.P
open Go.RowKit Go.Proofs.YtfcodmdckcihmaaDoorW.PrintWords Go.Proofs.YtfcodmdckcihmaaDoorW.PrintLast Go.Proofs.YtfcodmdckcihmaaDoorW.PrintMore
set_option linter.unusedVariables false
set_option linter.unusedSimpArgs false
set_option linter.unnecessarySimpa false
def entE (wd : Int) (ls : List SLeaf) (p m : Nat) : SEntry := ⟨ls.getD p leafZ, ⟨(p : Int), besL wd ls p m⟩⟩
theorem entE_leaf {wd : Int} {ls : List SLeaf} {p m : Nat} (hp : p < ls.length) : (entE wd ls p m).f0 = ls[p] := by
 show ls.getD p leafZ = _
 simp [List.getD_eq_getElem?_getD, hp]
section
variable {wd : Int} {ls : List SLeaf} {m p : Nat}
end
end Go.Proofs.YtfcodmdckcihmaaDoor.P
namespace Go.Proofs.YtfcodmdckcihmaaDoor.P
open Go.RowKit Go.Proofs.YtfcodmdckcihmaaDoorW.PrintWords Go.Proofs.YtfcodmdckcihmaaDoorW.PrintLast Go.Proofs.YtfcodmdckcihmaaDoorW.PrintMore
set_option linter.unusedVariables false
set_option linter.unusedSimpArgs false
set_option linter.unnecessarySimpa false
attribute [local go_sem] sel_true
theorem entInfo : (Tryd.prog.info? 70).map (fun i => (i.zero, i.size, i.bytes)) = some (some (.agg entZ), 7, 88) := by kernel_rfl
def entsL (wd : Int) (ls : List SLeaf) (m : Nat) : List SEntry := (List.range ls.length).map fun p => entE wd ls p m
theorem entsL_len (wd : Int) (ls : List SLeaf) (m : Nat) : (entsL wd ls m).length = ls.length := by unfold entsL; simp
theorem entsL_get {wd : Int} {ls : List SLeaf} {m i : Nat} (hi : i < ls.length) : (entsL wd ls m)[i]'(by rw [entsL_len]; exact hi) = entE wd ls i m := by unfold entsL; simp
def OwnE (W : World) (x : EntR) : Prop := ∃ b, W.ownsRow b 46 3 (.slice x.2.1 x.1.f1.f1.length x.2.2) x.1.f1.f1.length (cellsN x.1.f1.f1)
theorem OwnE.ent {W : World} {x : EntR} (h : OwnE W x) : EntC W x := by
 obtain ⟨b, h⟩ := h
 exact own_nodes h rfl
theorem OwnE.below {W W' : World} {x : EntR} (h : OwnE W x) (hb : Below W.heap.size W W') : OwnE W' x := by
 obtain ⟨b, h⟩ := h
 exact ⟨b, ownB h hb⟩
theorem OwnE.grown {W W' : World} {base i : Nat} {v : Value} {cs : List Value} {x : EntR} (h : OwnE W x) (ho : W.ownsRow base 70 7 v i cs) (hg : W.grownBy W' v.ownBlock) : OwnE W' x := by
 obtain ⟨b, h⟩ := h
 refine ⟨b, ownAny_keep h (fun g hg2 => ?_)⟩
 obtain ⟨c1, h1⟩ := own_cells h hg2
 refine hg.block g (blk_lt h1) (fun e => ?_)
 obtain ⟨c2, h2⟩ := own_cells ho e.symm
 rw [h1] at h2
 simp only [Option.some.injEq, Obj.cells.injEq] at h2
 exact absurd h2.2.1 (by decide)
structure AlS (base : Nat) (wd : Int) (ls : List SLeaf) (m i : Nat) (v : Value) (W : World) : Prop where
 e : ∃ xs : List EntR, xs.map Prod.fst = (entsL wd ls m).take i ∧ W.ownsRow base 70 7 v i (cellsE xs) ∧ ∀ x ∈ xs, OwnE W x
theorem AlS.below {base : Nat} {wd : Int} {ls : List SLeaf} {m i : Nat} {v : Value} {W W' : World} (h : AlS base wd ls m i v W) (hb : Below W.heap.size W W') : AlS base wd ls m i v W' := by
 obtain ⟨xs, h1, h2, h3⟩ := h.e
 exact ⟨xs, h1, ownB h2 hb, fun x hx => (h3 x hx).below hb⟩
theorem AlS.form {base : Nat} {wd : Int} {ls : List SLeaf} {m i : Nat} {v : Value} {W : World} (h : AlS base wd ls m i v W) : ∃ A c, v = .slice A i c := by
 obtain ⟨xs, h1, h2, h3⟩ := h.e
 rcases h2.2 with ⟨h, h0⟩ | ⟨g, cap, cur, h, _⟩
 ·
  exact ⟨none, 0, by rw [h, h0]⟩
 ·
  exact ⟨_, _, h⟩
end Go.Proofs.YtfcodmdckcihmaaDoor.P
namespace Go.Proofs.YtfcodmdckcihmaaDoor.P
open Go.RowKit Go.Proofs.YtfcodmdckcihmaaDoorW.PrintWords Go.Proofs.YtfcodmdckcihmaaDoorW.PrintLast Go.Proofs.YtfcodmdckcihmaaDoorW.PrintMore
set_option linter.unusedVariables false
set_option linter.unusedSimpArgs false
set_option linter.unnecessarySimpa false
attribute [local go_sem] sel_true
def OwnB (b : Nat) (W : World) (x : EntR) : Prop := W.ownsRow b 46 3 (.slice x.2.1 x.1.f1.f1.length x.2.2) x.1.f1.f1.length (cellsN x.1.f1.f1)
theorem OwnB.ent {b : Nat} {W : World} {x : EntR} (h : OwnB b W x) : EntC W x := own_nodes h rfl
theorem OwnB.below {b : Nat} {W W' : World} {x : EntR} (h : OwnB b W x) (hb : Below W.heap.size W W') : OwnB b W' x := ownB h hb
theorem OwnB.grown {b : Nat} {W W' : World} {base i : Nat} {v : Value} {cs : List Value} {x : EntR} (h : OwnB b W x) (ho : W.ownsRow base 70 7 v i cs) (hg : W.grownBy W' v.ownBlock) : OwnB b W' x := by
 refine ownAny_keep h (fun g hg2 => ?_)
 obtain ⟨c1, h1⟩ := own_cells h hg2
 refine hg.block g (blk_lt h1) (fun e => ?_)
 obtain ⟨c2, h2⟩ := own_cells ho e.symm
 rw [h1] at h2
 simp only [Option.some.injEq, Obj.cells.injEq] at h2
 exact absurd h2.2.1 (by decide)
structure AlB (base : Nat) (wd : Int) (ls : List SLeaf) (m i : Nat) (v : Value) (W : World) : Prop where
 e : ∃ xs : List EntR, xs.map Prod.fst = (entsL wd ls m).take i ∧ W.ownsRow base 70 7 v i (cellsE xs) ∧ ∀ x ∈ xs, OwnB base W x
theorem AlB.below {base : Nat} {wd : Int} {ls : List SLeaf} {m i : Nat} {v : Value} {W W' : World} (h : AlB base wd ls m i v W) (hb : Below W.heap.size W W') : AlB base wd ls m i v W' := by
 obtain ⟨xs, h1, h2, h3⟩ := h.e
 exact ⟨xs, h1, ownB h2 hb, fun x hx => (h3 x hx).below hb⟩
theorem AlB.tch {base : Nat} {wd : Int} {ls : List SLeaf} {m i : Nat} {v : Value} {S : List Nat} {W W' : World} (h : AlB base wd ls m i v W) (ht : Tch S W W') (hs : ∀ k ∈ S, k < base) : AlB base wd ls m i v W' := by
 obtain ⟨xs, h1, h2, h3⟩ := h.e
 refine ⟨xs, h1, ownAny_keep h2 (fun g hg => ?_), fun x hx => ownAny_keep (h3 x hx) (fun g hg => ?_)⟩
 ·
  have := h2.lt g hg; exact ht.block g this.2 (fun hm => by have := hs g hm; omega)
 ·
  have := (h3 x hx).lt g hg; exact ht.block g this.2 (fun hm => by have := hs g hm; omega)
theorem AlB.low {base b : Nat} {wd : Int} {ls : List SLeaf} {m i : Nat} {v : Value} {W : World} (h : AlB base wd ls m i v W) (hb : b ≤ base) : AlB b wd ls m i v W := by
 obtain ⟨xs, h1, h2, h3⟩ := h.e
 exact ⟨xs, h1, own_base h2 hb, fun x hx => own_base (h3 x hx) hb⟩
theorem AlB.form {base : Nat} {wd : Int} {ls : List SLeaf} {m i : Nat} {v : Value} {W : World} (h : AlB base wd ls m i v W) : ∃ A c, v = .slice A i c := by
 obtain ⟨xs, h1, h2, h3⟩ := h.e
 rcases h2.2 with ⟨h, h0⟩ | ⟨g, cap, cur, h, _⟩
 ·
  exact ⟨none, 0, by rw [h, h0]⟩
 ·
  exact ⟨_, _, h⟩
theorem AlB.read {base : Nat} {wd : Int} {ls : List SLeaf} {m n c : Nat} {A : Option Addr} {W : World} (h : AlB base wd ls m n (.slice A n c) W) (hn : n = ls.length) : n ≤ c ∧ Kd.C kEntry W A n (entsL wd ls m) := by
 subst hn
 obtain ⟨xs, hx1, hx2, hx3⟩ := h.e
 have hq := own_ents hx2 (by have := congrArg List.length hx1; rw [List.length_map, List.length_take, entsL_len] at this; omega) (fun x hx => (hx3 x hx).ent)
 rw [hx1, ← entsL_len wd ls m, List.take_length, entsL_len] at hq
 exact hq
set_option maxRecDepth 100000 in
set_option maxHeartbeats 4000000 in
theorem proofAllOwn.calls (base ta gl cl : Nat) (VV : Value) (gs : List RowG) (wd : Int) (ls : List SLeaf) (m : Nat) (w : World) (hT : TreeOwn base w ta (treeT wd ls) gl cl VV gs) (hk : NewOk wd ls) (hn : ls.length ≤ 1024) (hm : m = ls.length.log2) (hm10 : m ≤ 10) :
  Calls Tryd.prog 41 #[ptrT ta] w fun e w' => ∃ A c, e = .returned (.slice A ls.length c) ∧ AlB w.heap.size wd ls m ls.length (.slice A ls.length c) w' ∧ Below w.heap.size w w' := by
 have HT := aM' hT
 have HKK := aM' hk
 have HN := aM' hn
 have HMM := aM' hm
 have HM := aM' hm10
 obtain ⟨i0, hi, hz0, hz1, hz2⟩ := info_parts entInfo
 have q := tLeaves.calls ta _ w (hT.readT hk hn)
 have Q := aM' (show Calls Tryd.prog 17 #[ptrT ta] w fun e w' => ∃ g cap, e = .returned (.slice (some ⟨g, 0, none⟩) ls.length cap) ∧ Below w.heap.size w w' from q.mono (by rintro e w' ⟨g, cap, h1, -, h2, -⟩; exact ⟨g, cap, h1, h2⟩))
 have hwn : IntKind.u64.wrap (ls.length : Int) = (ls.length : Int) := wrapu64_id (by omega) (by omega)
 clear hT hk hn hm hm10 q
 go_enter Tryd.func41, Tryd.ntmps41
 go_wp2_with fail
 refine Q.out.mono ?_
 rintro e w1 ⟨g, cap, rfl, hb⟩
 have HB1 := aM' hb
 clear hb
 go_wp2
 go_loopw [3, 11] (fun v3 v11 wr => ∃ i : Nat, v11 = .int .u64 (i : Int) ∧ Aside0 (i ≤ ls.length) ∧ Aside0 (Below w1.heap.size w1 wr) ∧ Aside0 (AlB w1.heap.size wd ls m i v3 wr)) (fun _ v11 _ => ls.length - (intOf v11).toNat)
 case atStart => exact ⟨0, rfl, ⟨Nat.zero_le _⟩, ⟨Below.refl _ _⟩, ⟨[], rfl, World.ownsRow_nil _ _ _ _, by simp⟩⟩
 case round =>
  obtain ⟨i, rfl, HI, HB, HO⟩ := hrel
  obtain ⟨A8, c8, rfl⟩ := HO.out.form
  have hi1 : i ≤ 1024 := by have := HI.out; have := HN.out; omega
  by_cases hlt : i < ls.length
  ·
   have b1 : decide ((i : Int) < (ls.length : Int)) = true := decide_eq_true (by omega)
   have b2 : decide (i < ls.length) = true := decide_eq_true hlt
   have HLT := aM' hlt
   go_wp2_with fail
   refine (proofOf.calls _ ta gl cl VV gs wd ls i m wr ((HT.out.keep HB1.out).keep HB.out) HKK.out HN.out HMM.out HM.out HLT.out).mono ?_
   rintro e w3 ⟨A3, c3, rfl, hown, hb⟩
   obtain ⟨x, hx⟩ : ∃ x, x = ls[i]'HLT.out := ⟨_, rfl⟩
   rw [← hx]
   have HE := aM' (show entE wd ls i m = ⟨x, ⟨(i : Int), besL wd ls i m⟩⟩ by
    unfold entE
    rw [hx]
    simp [List.getD_eq_getElem?_getD, HLT.out])
   have HOWN := aM' hown
   have HB3 := aM' (HB.out.trans (hb.mono HB.out.size))
   have HO3 := aM' (HO.out.below hb)
   clear hb hown hx hlt
   obtain ⟨xs, hx1, hx2, hx3⟩ := HO3.out.e
   have HX := aM' (And.intro hx1 (And.intro hx2 hx3))
   clear hx1 hx2 hx3
   go_wp2_with (at_builtin; refine wpList_append_own _ rfl _ _ 78 rfl (w1.heap.size) 70 i0 (.agg entZ) 7 88 Tryd.underlying78 hi hz0 hz1 hz2 rfl (by decide) (.slice A8 i c8) i _ rfl (ownB HX.out.2.1 (below_alloc (below_alloc (Below.refl _ _) (.cells #[.bool x.f0, .string x.f1, .string x.f2, .int .u64 x.f3.f0, .int .u64 x.f3.f1, .int .u64 (i : Int), .slice A3 m c3] 70)) (.cells #[.bool x.f0, .string x.f1, .string x.f2, .int .u64 x.f3.f0, .int .u64 x.f3.f1, .int .u64 (i : Int), .slice A3 m c3] 70))) ⟨w3.heap.size + 1, 0, none⟩ 1 1 [.bool x.f0, .string x.f1, .string x.f2, .int .u64 x.f3.f0, .int .u64 x.f3.f1, .int .u64 (i : Int), .slice A3 m c3] rfl rfl ?c2 ?c3 ?c4 ?c5 ?c6 ?_)
   case c2 =>
    have h := blk_new (w3.alloc (.cells #[.bool x.f0, .string x.f1, .string x.f2, .int .u64 x.f3.f0, .int .u64 x.f3.f1, .int .u64 (i : Int), .slice A3 m c3] 70)) (.cells #[.bool x.f0, .string x.f1, .string x.f2, .int .u64 x.f3.f0, .int .u64 x.f3.f1, .int .u64 (i : Int), .slice A3 m c3] 70)
    rw [World.size_alloc] at h
    exact World.news_of_block h
   case c3 =>
    intro u hu
    simp only [List.mem_cons, List.not_mem_nil, or_false] at hu
    rcases hu with rfl | rfl | rfl | rfl | rfl | rfl | rfl <;> rfl
   case c4 => unfold maxLen; omega
   case c5 => omega
   case c6 => rw [World.size_alloc, World.size_alloc]; have := HB3.out.size; omega
   intro v' w' hown hgr hnil
   have hb4 : Below w3.heap.size w3 ((w3.alloc (.cells #[.bool x.f0, .string x.f1, .string x.f2, .int .u64 x.f3.f0, .int .u64 x.f3.f1, .int .u64 (i : Int), .slice A3 m c3] 70)).alloc (.cells #[.bool x.f0, .string x.f1, .string x.f2, .int .u64 x.f3.f0, .int .u64 x.f3.f1, .int .u64 (i : Int), .slice A3 m c3] 70)) := below_alloc (below_alloc (Below.refl _ _) _) _
   have HB' := aM' (below_grown (HB3.out.trans (hb4.mono HB3.out.size)) hgr (fun r e => (HX.out.2.1.lt r e).1))
   have HO' := aM' (show AlB w1.heap.size wd ls m (i + 1) v' w' from ⟨xs ++ [(⟨x, ⟨(i : Int), besL wd ls i m⟩⟩, A3, c3)], by
    rw [List.map_append, HX.out.1, List.take_succ_eq_append_getElem (by rw [entsL_len]; exact HLT.out), entsL_get HLT.out, HE.out]; rfl, by
    rw [cellsE_append]
    show World.ownsRow _ _ _ _ _ _ (cellsE xs ++ [.bool x.f0, .string x.f1, .string x.f2, .int .u64 x.f3.f0, .int .u64 x.f3.f1, .int .u64 (i : Int), .slice A3 (besL wd ls i m).length c3])
    rw [besL_len]
    exact hown, fun z hz => by
    rcases List.mem_append.1 hz with h | h
    ·
     exact ((HX.out.2.2 z h).below hb4).grown (ownB HX.out.2.1 hb4) hgr
    ·
     rw [List.mem_singleton] at h
     subst h
     refine OwnB.grown (b := w1.heap.size) (OwnB.below ?_ hb4) (ownB HX.out.2.1 hb4) hgr
     show World.ownsRow _ w1.heap.size _ _ (.slice A3 (besL wd ls i m).length c3) (besL wd ls i m).length _
     rw [besL_len]
     exact own_base HOWN.out (HB.out.size)⟩)
   clear hown hgr hnil hb4
   go_wp2
   go_roundw
   case rel => exact ⟨i + 1, by go_num, ⟨by have := HLT.out; omega⟩, HB', HO'⟩
   case measure => simp [intOf]; have := HLT.out; omega
  ·
   obtain rfl : i = ls.length := by have := HI.out; omega
   have b1 : decide ((ls.length : Int) < (ls.length : Int)) = false := decide_eq_false (by omega)
   have b2 : decide (ls.length < ls.length) = false := decide_eq_false hlt
   have HQ := aM' (HO.out.low HB1.out.size)
   go_wp2
   go_ret
   exact ⟨_, _, rfl, HQ.out, HB1.out.trans (HB.out.mono HB1.out.size)⟩
end Go.Proofs.YtfcodmdckcihmaaDoor.P
namespace Go.Proofs.YtfcodmdckcihmaaDoor.P
open Go.RowKit Go.Proofs.YtfcodmdckcihmaaDoorW.PrintWords Go.Proofs.YtfcodmdckcihmaaDoorW.PrintLast Go.Proofs.YtfcodmdckcihmaaDoorW.PrintMore
set_option linter.unusedVariables false
set_option linter.unusedSimpArgs false
set_option linter.unnecessarySimpa false
theorem heqRoot (d : Nat) (w : World) (x0 y0 : ByteArray) (x1 y1 : Int) (x2 y2 : Int) (x3 y3 : Int) :
  (Op.equalIn (d + 3) 41 (.agg #[.string x0, .int .u64 x1, .int .u64 x2, .int .i64 x3]) (.agg #[.string y0, .int .u64 y1, .int .u64 y2, .int .i64 y3])).run Tryd.prog w = .ok (x0.toList == y0.toList && ((x1 == y1 && (x2 == y2)) && (x3 == y3))) w := by
 refine eqA_of Tryd.underlying41 (by kernel_rfl) ?_
 refine eqf_cons (by rfl) (by go_simp; rfl) (by go_simp; rfl) (by go_simp) ?_
 refine eqf_cons (by rfl) (by go_simp) (by go_simp) (eqAU128 (d + 0) w _ _ _ _) ?_
 exact eqf_last (by rfl) (by go_simp; rfl) (by go_simp; rfl) (by go_simp)
end Go.Proofs.YtfcodmdckcihmaaDoor.P
namespace Go.Proofs.YtfcodmdckcihmaaDoor.P
open Go.RowKit Go.Proofs.YtfcodmdckcihmaaDoorW.PrintWords Go.Proofs.YtfcodmdckcihmaaDoorW.PrintLast Go.Proofs.YtfcodmdckcihmaaDoorW.PrintMore
set_option linter.unusedVariables false
set_option linter.unusedSimpArgs false
set_option linter.unnecessarySimpa false
attribute [local go_sem high] eqANode heqRoot eqALeaf
theorem greatL_ok {l : List SLeaf} (h : greatL l = false) : l.length ≤ 70 ∧ ∀ x ∈ l, x.f1.size ≤ 200 ∧ x.f2.size ≤ 200 := by
 unfold greatL at h
 simp only [Bool.or_eq_false_iff, decide_eq_false_iff_not, List.any_eq_false] at h
 refine ⟨by omega, fun x hx => ?_⟩
 have := h.2 x hx
 simp at this
 omega
structure TB (w : World) (a ar : Nat) (wd : Int) (l : List SLeaf) (V : World) : Prop where
 t : TreeR a (treeT wd l) V
 r : RefT ar wd l V
 b : Below w.heap.size w V
theorem TB.below {w : World} {a ar : Nat} {wd : Int} {l : List SLeaf} {V V' : World} (h : TB w a ar wd l V) (hb : Below V.heap.size V V') : TB w a ar wd l V' := ⟨h.t.below hb, h.r.below hb, h.b.trans (hb.mono h.b.size)⟩
structure KB (w V0 : World) (g n : Nat) (V : World) : Prop where
 k : ∀ k, k ≠ g → V.heap[k]? = V0.heap[k]?
 c : ∃ cs, V.heap[g]? = some (.cells cs 36 (0, 0)) ∧ n * 5 ≤ cs.size
 b : Below w.heap.size w V
 s : V.heap.size = V0.heap.size
theorem KB.cell {w V0 V : World} {g n i : Nat} (h : KB w V0 g n V) (hi : i < n) : (∃ v, V.cell? ⟨g, i * 5 + 1, none⟩ = some v) ∧ V.frozen? ⟨g, i * 5 + 1, none⟩ = false := by
 obtain ⟨cs, h1, h2⟩ := h.c
 exact ⟨⟨cs[i * 5 + 1]'(by omega), by rw [blk_cell h1]; simp [show i * 5 + 1 < cs.size by omega]⟩, blk_frozen h1 _⟩
theorem KB.put {w V0 V : World} {g n i : Nat} (h : KB w V0 g n V) (hg : w.heap.size ≤ g) (v : Value) : KB w V0 g n (V.setCell ⟨g, i, none⟩ v) := by
 obtain ⟨cs, h1, h2⟩ := h.c
 exact ⟨fun k hk => (Below.heap_setCell _ _ _ _ hk).trans (h.k k hk), ⟨cs.setIfInBounds i v, blk_put h1 i v rfl, by simpa using h2⟩, below_set h.b hg, by simpa using h.s⟩
theorem KB.start {w V0 : World} {base g n cap : Nat} {xs : List SLeaf} (h : V0.ownsRow base 36 5 (.slice (some ⟨g, 0, none⟩) n cap) n (cellsL xs)) (hB : Below w.heap.size w V0) : KB w V0 g n V0 := by
 rcases h.2 with ⟨e, _⟩ | ⟨g', cap', cur, e, _, h2, h3, _, h5, _⟩
 ·
  cases e
 ·
  cases e
  exact ⟨fun _ _ => rfl, ⟨cur, h2, by rw [h5]; exact Nat.mul_le_mul_right 5 h3⟩, hB, rfl⟩
end Go.Proofs.YtfcodmdckcihmaaDoor.P
namespace Go.Proofs.YtfcodmdckcihmaaDoor.P
open Go.RowKit Go.Proofs.YtfcodmdckcihmaaDoorW.PrintWords Go.Proofs.YtfcodmdckcihmaaDoorW.PrintLast Go.Proofs.YtfcodmdckcihmaaDoorW.PrintMore
set_option linter.unusedVariables false
set_option linter.unusedSimpArgs false
set_option linter.unnecessarySimpa false
attribute [local go_sem high] eqANode heqRoot eqALeaf
structure LeafC (V : World) (ap : Addr) (y : SLeaf) : Prop where
 p0 : V.cell? ap = some (.bool y.f0)
 p1 : V.cell? ⟨ap.block, ap.off + 1, none⟩ = some (.string y.f1)
 p2 : V.cell? ⟨ap.block, ap.off + 2, none⟩ = some (.string y.f2)
 p3 : V.cell? ⟨ap.block, ap.off + 3, none⟩ = some (.int .u64 y.f3.f0)
 p4 : V.cell? ⟨ap.block, ap.off + 4, none⟩ = some (.int .u64 y.f3.f1)
theorem leafC_at {V : World} {A : Option Addr} {l : List SLeaf} {p : Nat} (h : Kd.C kLeaf V A l.length l) (hp : p < l.length) (hn : l.length ≤ 1024) : ∃ ad, A = some ad ∧ LeafC V (ad.add (p * 5)) l[p] := by
 obtain ⟨ad, e1, p0, p1, p2, p3, p4⟩ := at_TLeaf h (p : Int) (by omega) (by omega)
 have e3 : rd_TLeaf l (p : Int) = l[p] := by rw [rd_TLeaf, Int.toNat_natCast]; simp [List.getD_eq_getElem?_getD, hp]
 rw [e3, Int.toNat_natCast] at p0 p1 p2 p3 p4
 exact ⟨ad, e1, ⟨p0, p1, p2, p3, p4⟩⟩
theorem LeafC.below {V V' : World} {ap : Addr} {y : SLeaf} (h : LeafC V ap y) (hb : Below V.heap.size V V') : LeafC V' ap y := ⟨pw_cell_below hb h.p0, pw_cell_below hb h.p1, pw_cell_below hb h.p2, pw_cell_below hb h.p3, pw_cell_below hb h.p4⟩
structure At18 (w w' : World) (g12 g17 : Nat) (rt : SNode) (m : Int) (ap : Addr) (y : SLeaf) : Prop where
 b : Below w.heap.size w w'
 r : w'.heap[g12]? = some (.cells #[.string rt.f0, .int .u64 rt.f1.f0, .int .u64 rt.f1.f1, .int .i64 m] 41 (0, 0))
 k : w'.heap[g17]? = some (.cells #[.bool y.f0, .string y.f1, .string y.f2, .int .u64 y.f3.f0, .int .u64 y.f3.f1] 36 (0, 0))
 l : LeafC w' ap y
theorem At18.of {w W : World} {g12 g17 : Nat} {rt : SNode} {m : Int} {ap : Addr} {y : SLeaf} {C : Prop} (h : C ∧ At18 w W g12 g17 rt m ap y) : At18 w W g12 g17 rt m ap y := h.2
theorem At18.keep {w W w' : World} {g12 g17 : Nat} {rt : SNode} {m : Int} {ap : Addr} {y : SLeaf} (k : Below W.heap.size W w') (h : At18 w W g12 g17 rt m ap y) : At18 w w' g12 g17 rt m ap y := ⟨h.b.trans (k.mono h.b.size), blk_below h.r k, blk_below h.k k, h.l.below k⟩
theorem At18.cells {w w' : World} {g12 g17 : Nat} {rt : SNode} {m : Int} {ap : Addr} {y : SLeaf} (h : At18 w w' g12 g17 rt m ap y) : ((w'.cell? ⟨g12, 0, none⟩ = some (.string rt.f0) ∧ w'.cell? ⟨g12, 1, none⟩ = some (.int .u64 rt.f1.f0) ∧ w'.cell? ⟨g12, 2, none⟩ = some (.int .u64 rt.f1.f1) ∧ w'.cell? ⟨g12, 3, none⟩ = some (.int .i64 m)) ∧ (w'.cell? ⟨g17, 0, none⟩ = some (.bool y.f0) ∧ w'.cell? ⟨g17, 1, none⟩ = some (.string y.f1) ∧ w'.cell? ⟨g17, 2, none⟩ = some (.string y.f2) ∧ w'.cell? ⟨g17, 3, none⟩ = some (.int .u64 y.f3.f0) ∧ w'.cell? ⟨g17, 4, none⟩ = some (.int .u64 y.f3.f1)) ∧ (w'.cell? ap = some (.bool y.f0) ∧ w'.cell? ⟨ap.block, ap.off + 1, none⟩ = some (.string y.f1) ∧ w'.cell? ⟨ap.block, ap.off + 2, none⟩ = some (.string y.f2) ∧ w'.cell? ⟨ap.block, ap.off + 3, none⟩ = some (.int .u64 y.f3.f0) ∧ w'.cell? ⟨ap.block, ap.off + 4, none⟩ = some (.int .u64 y.f3.f1))) ∧ At18 w w' g12 g17 rt m ap y :=
 ⟨⟨⟨(blk_cell h.r 0).trans rfl, (blk_cell h.r 1).trans rfl, (blk_cell h.r 2).trans rfl, (blk_cell h.r 3).trans rfl⟩, ⟨(blk_cell h.k 0).trans rfl, (blk_cell h.k 1).trans rfl, (blk_cell h.k 2).trans rfl, (blk_cell h.k 3).trans rfl, (blk_cell h.k 4).trans rfl⟩, ⟨h.l.p0, h.l.p1, h.l.p2, h.l.p3, h.l.p4⟩⟩, h⟩
structure At28 (w w' : World) (g12 : Nat) (rt : SNode) (m : Int) (ap : Addr) (y : SLeaf) : Prop where
 b : Below w.heap.size w w'
 r : w'.heap[g12]? = some (.cells #[.string rt.f0, .int .u64 rt.f1.f0, .int .u64 rt.f1.f1, .int .i64 m] 41 (0, 0))
 l : LeafC w' ap y
theorem At28.of {w W : World} {g12 : Nat} {rt : SNode} {m : Int} {ap : Addr} {y : SLeaf} {C : Prop} (h : C ∧ At28 w W g12 rt m ap y) : At28 w W g12 rt m ap y := h.2
theorem At28.keep {w W w' : World} {g12 : Nat} {rt : SNode} {m : Int} {ap : Addr} {y : SLeaf} (k : Below W.heap.size W w') (h : At28 w W g12 rt m ap y) : At28 w w' g12 rt m ap y := ⟨h.b.trans (k.mono h.b.size), blk_below h.r k, h.l.below k⟩
theorem At28.cells {w w' : World} {g12 : Nat} {rt : SNode} {m : Int} {ap : Addr} {y : SLeaf} (h : At28 w w' g12 rt m ap y) : ((w'.cell? ⟨g12, 0, none⟩ = some (.string rt.f0) ∧ w'.cell? ⟨g12, 1, none⟩ = some (.int .u64 rt.f1.f0) ∧ w'.cell? ⟨g12, 2, none⟩ = some (.int .u64 rt.f1.f1) ∧ w'.cell? ⟨g12, 3, none⟩ = some (.int .i64 m)) ∧ (w'.cell? ap = some (.bool y.f0) ∧ w'.cell? ⟨ap.block, ap.off + 1, none⟩ = some (.string y.f1) ∧ w'.cell? ⟨ap.block, ap.off + 2, none⟩ = some (.string y.f2) ∧ w'.cell? ⟨ap.block, ap.off + 3, none⟩ = some (.int .u64 y.f3.f0) ∧ w'.cell? ⟨ap.block, ap.off + 4, none⟩ = some (.int .u64 y.f3.f1))) ∧ At28 w w' g12 rt m ap y :=
 ⟨⟨⟨(blk_cell h.r 0).trans rfl, (blk_cell h.r 1).trans rfl, (blk_cell h.r 2).trans rfl, (blk_cell h.r 3).trans rfl⟩, ⟨h.l.p0, h.l.p1, h.l.p2, h.l.p3, h.l.p4⟩⟩, h⟩
end Go.Proofs.YtfcodmdckcihmaaDoor.P
namespace Go.Proofs.YtfcodmdckcihmaaDoor.P
open Go.RowKit Go.Proofs.YtfcodmdckcihmaaDoorW.PrintWords Go.Proofs.YtfcodmdckcihmaaDoorW.PrintLast Go.Proofs.YtfcodmdckcihmaaDoorW.PrintMore
set_option linter.unusedVariables false
set_option linter.unusedSimpArgs false
set_option linter.unnecessarySimpa false
attribute [local go_sem high] eqANode heqRoot eqALeaf
def lf16 (i : Nat) : SLeaf := ⟨false, strOfNums [97 + (i : Int)], ⟨#[]⟩, ⟨0, (i : Int)⟩⟩
def l16 : List SLeaf := (List.range 4).map lf16
theorem l16_ok : ∀ x ∈ l16, OkL x := by
 intro x hx
 obtain ⟨i, hi, rfl⟩ := List.mem_map.1 hx
 have := List.mem_range.1 hi
 refine ⟨?_, by show (0 : Nat) ≤ _; omega, ⟨by show (0 : Int) ≤ 0 ∧ (0 : Int) < 18446744073709551616; decide, by show (0 : Int) ≤ (i : Int) ∧ (i : Int) < 18446744073709551616; omega⟩⟩
 show (strOfNums [97 + (i : Int)]).size ≤ 1000000
 rw [strOfNums_size]; simp
theorem l16_new : newI 7 l16 = 0 := by decide +kernel
theorem l16_len : l16.length = 4 := rfl
theorem l16_s1 : shapeN 7 2 2 (besL 7 l16 2 2) = 0 := by decide +kernel
theorem l16_s2 : shapeN 7 1 2 (besL 7 l16 2 2) = 160 := by decide +kernel
theorem l16_s3 : shapeN 6 2 2 (besL 7 l16 2 2) = 70 := by decide +kernel
theorem l16_s4 : shapeN 7 64 2 (besL 7 l16 2 2) = 120 := by decide +kernel
theorem l16_b : besL 7 l16 2 2 = [leafNodeI 7 (lf16 3), (upV 7 1 (l16.map (leafNodeI 7))).getD 0 nodeZ] := by rfl
structure At16 (w w' : World) (g9 g10 ga gc c : Nat) (y z : SLeaf) (s0 s1 : SNode) : Prop where
 b : Below w.heap.size w w'
 k : w'.heap[g9]? = some (.cells #[.bool y.f0, .string y.f1, .string y.f2, .int .u64 y.f3.f0, .int .u64 y.f3.f1, .int .u64 2, .slice (some ⟨ga, 0, none⟩) 2 c] 70 (0, 0))
 n : w'.heap[g10]? = some (.cells #[.string s1.f0, .int .u64 s1.f1.f0, .int .u64 s1.f1.f1] 46 (0, 0))
 l : LeafC w' ⟨gc, 15, none⟩ z
 s : Kd.C kNode w' (some ⟨ga, 0, none⟩) 2 [s0, s1]
theorem At16.keep {w W w' : World} {g9 g10 ga gc c : Nat} {y z : SLeaf} {s0 s1 : SNode} (k : Below W.heap.size W w') (h : At16 w W g9 g10 ga gc c y z s0 s1) : At16 w w' g9 g10 ga gc c y z s0 s1 := ⟨h.b.trans (k.mono h.b.size), blk_below h.k k, blk_below h.n k, h.l.below k, Kd.C_below h.s k⟩
theorem At16.of {w W : World} {g9 g10 ga gc c : Nat} {y z : SLeaf} {s0 s1 : SNode} {C : Prop} (h : C ∧ At16 w W g9 g10 ga gc c y z s0 s1) : At16 w W g9 g10 ga gc c y z s0 s1 := h.2
theorem At16.cells {w w' : World} {g9 g10 ga gc c : Nat} {y z : SLeaf} {s0 s1 : SNode} (h : At16 w w' g9 g10 ga gc c y z s0 s1) : ((w'.cell? ⟨g9, 0, none⟩ = some (.bool y.f0) ∧ w'.cell? ⟨g9, 1, none⟩ = some (.string y.f1) ∧ w'.cell? ⟨g9, 2, none⟩ = some (.string y.f2) ∧ w'.cell? ⟨g9, 3, none⟩ = some (.int .u64 y.f3.f0) ∧ w'.cell? ⟨g9, 4, none⟩ = some (.int .u64 y.f3.f1) ∧ w'.cell? ⟨g9, 5, none⟩ = some (.int .u64 2) ∧ w'.cell? ⟨g9, 6, none⟩ = some (.slice (some ⟨ga, 0, none⟩) 2 c)) ∧ (w'.cell? ⟨g10, 0, none⟩ = some (.string s1.f0) ∧ w'.cell? ⟨g10, 1, none⟩ = some (.int .u64 s1.f1.f0) ∧ w'.cell? ⟨g10, 2, none⟩ = some (.int .u64 s1.f1.f1)) ∧ (w'.cell? ⟨gc, 15, none⟩ = some (.bool z.f0) ∧ w'.cell? ⟨gc, 16, none⟩ = some (.string z.f1) ∧ w'.cell? ⟨gc, 17, none⟩ = some (.string z.f2) ∧ w'.cell? ⟨gc, 18, none⟩ = some (.int .u64 z.f3.f0) ∧ w'.cell? ⟨gc, 19, none⟩ = some (.int .u64 z.f3.f1)) ∧ (w'.cell? ⟨ga, 0, none⟩ = some (.string s0.f0) ∧ w'.cell? ⟨ga, 1, none⟩ = some (.int .u64 s0.f1.f0) ∧ w'.cell? ⟨ga, 2, none⟩ = some (.int .u64 s0.f1.f1)) ∧ (w'.cell? ⟨ga, 3, none⟩ = some (.string s1.f0) ∧ w'.cell? ⟨ga, 4, none⟩ = some (.int .u64 s1.f1.f0) ∧ w'.cell? ⟨ga, 5, none⟩ = some (.int .u64 s1.f1.f1))) ∧ At16 w w' g9 g10 ga gc c y z s0 s1 := by
 obtain ⟨ad, had, p0, p1, p2⟩ := at_TNode h.s 0 (by decide) (by decide)
 cases had
 obtain ⟨ad, had, q0, q1, q2⟩ := at_TNode h.s 1 (by decide) (by decide)
 cases had
 exact ⟨⟨⟨(blk_cell h.k 0).trans rfl, (blk_cell h.k 1).trans rfl, (blk_cell h.k 2).trans rfl, (blk_cell h.k 3).trans rfl, (blk_cell h.k 4).trans rfl, (blk_cell h.k 5).trans rfl, (blk_cell h.k 6).trans rfl⟩, ⟨(blk_cell h.n 0).trans rfl, (blk_cell h.n 1).trans rfl, (blk_cell h.n 2).trans rfl⟩, ⟨h.l.p0, h.l.p1, h.l.p2, h.l.p3, h.l.p4⟩, ⟨p0, p1, p2⟩, ⟨q0, q1, q2⟩⟩, h⟩
theorem At16.shape {w w' : World} {g9 g10 ga gc c : Nat} {y z : SLeaf} {s0 s1 : SNode} (h : At16 w w' g9 g10 ga gc c y z s0 s1) (hc : 2 ≤ c) (a0 a1 r : Int) (hf : proof_Shape.f a0 a1 2 [s0, s1] = some r) :
  Calls Tryd.prog 39 #[.int .i64 a0, .int .i64 a1, .agg #[.int .u64 2, .slice (some ⟨ga, 0, none⟩) 2 c]] w' fun e w2 => e = .returned (.int .i64 r) ∧ Below w'.heap.size w' w2 :=
 proof_Shape.calls a0 a1 2 _ c [s0, s1] r w' h.s hc hf
set_option maxRecDepth 100000 in
set_option maxHeartbeats 4000000 in
theorem awake16.calls (w : World) (hK : LaidT w) : Calls Tryd.prog 36 #[] w fun e w' => e = .returned (.bool true) ∧ Below w.heap.size w w' := by
 have HK := aM' hK
 clear hK
 obtain ⟨i0, hi, hz0, hz1, hz2⟩ := info_parts leafInfo
 go_enter Tryd.func36, Tryd.ntmps36
 go_wp2
 go_loopw [1, 2] (fun v1 v2 wr => ∃ i : Nat, v2 = .int .i64 (i : Int) ∧ Aside0 (i ≤ 4) ∧ Aside0 (Below w.heap.size w wr) ∧ Aside0 (wr.ownsRow w.heap.size 36 5 v1 i (cellsL (l16.take i)))) (fun _ v2 _ => 4 - (intOf v2).toNat)
 case atStart => exact ⟨0, rfl, ⟨by decide⟩, ⟨Below.refl _ _⟩, ⟨World.ownsRow_nil _ _ _ _⟩⟩
 case round =>
  obtain ⟨i, rfl, HI, HB, HO⟩ := hrel
  obtain ⟨A8, c8, rfl⟩ : ∃ A8 c8, u1 = .slice A8 i c8 := by
   rcases HO.out.2 with ⟨h, h0⟩ | ⟨g, cap, cur, h, _⟩
   ·
    exact ⟨none, 0, by rw [h, h0]⟩
   ·
    exact ⟨_, _, h⟩
  have hi4 : i ≤ 4 := HI.out
  by_cases hlt : i < 4
  ·
   have b1 : decide ((i : Int) < 4) = true := decide_eq_true (by omega)
   have b2 : decide (i < 4) = true := decide_eq_true hlt
   have w8 : IntKind.u8.wrap (i : Int) = (i : Int) := IntWalk.u8_in _ (by omega)
   obtain ⟨c, hc⟩ : ∃ c : Int, c = 97 + (i : Int) := ⟨_, rfl⟩
   have wc : IntKind.u8.wrap (97 + (i : Int)) = c := by rw [hc]; exact IntWalk.u8_in _ (by omega)
   have wu : IntKind.u64.wrap (i : Int) = (i : Int) := wrapu64_id (by omega) (by omega)
   have hcv := run_convert_bytes_arg (P := Tryd.prog) (w := wr.alloc (.cells #[.int .u8 c] 5)) 125 5 Tryd.underlying125 Tryd.underlying5 wr.heap.size 0 1 1 [c] rfl (fun j hj => by obtain rfl : j = 0 := (by omega); exact blk_cell (blk_new wr _) 0) 9 Tryd.underlying9
   obtain ⟨s, hs⟩ : ∃ s, s = strOfNums [c] := ⟨_, rfl⟩
   rw [← hs] at hcv
   have HTK := aM' (show l16.take (i + 1) = l16.take i ++ [⟨false, s, ⟨#[]⟩, ⟨0, (i : Int)⟩⟩] by
    rw [List.take_succ_eq_append_getElem (by rw [l16_len]; exact hlt)]
    congr 2
    rw [hs, hc]
    simp [l16, lf16])
   clear hs hc
   have hb1 : Below wr.heap.size wr (wr.alloc (.cells #[.int .u8 c] 5)) := below_alloc (Below.refl _ _) _
   have HB1 := aM' (HB.out.trans (hb1.mono HB.out.size))
   have HO1 := aM' (ownB HO.out hb1)
   go_wp2_with (at_builtin; refine wpList_append_own _ rfl _ _ 22 rfl w.heap.size 36 i0 (.agg #[.bool false, .string ⟨#[]⟩, .string ⟨#[]⟩, .int .u64 0, .int .u64 0]) 5 56 Tryd.underlying22 hi hz0 hz1 hz2 rfl (by decide) (.slice A8 i c8) i _ rfl (ownB HO1.out (below_alloc (Below.refl _ _) (.cells #[.bool false, .string s, .string ⟨#[]⟩, .int .u64 0, .int .u64 (i : Int)] 36))) ⟨wr.heap.size + 1, 0, none⟩ 1 1 [.bool false, .string s, .string ⟨#[]⟩, .int .u64 0, .int .u64 (i : Int)] rfl rfl ?c2 ?c3 ?c4 ?c5 ?c6 ?_)
   case c2 =>
    have h := blk_new (wr.alloc (.cells #[.int .u8 c] 5)) (.cells #[.bool false, .string s, .string ⟨#[]⟩, .int .u64 0, .int .u64 (i : Int)] 36)
    rw [World.size_alloc] at h
    exact World.news_of_block h
   case c3 =>
    intro u hu
    simp only [List.mem_cons, List.not_mem_nil, or_false] at hu
    rcases hu with rfl | rfl | rfl | rfl | rfl <;> rfl
   case c4 => unfold maxLen; omega
   case c5 => omega
   case c6 => rw [World.size_alloc]; have := HB1.out.size; omega
   intro v' w' hown hgr hnil
   have HB' := aM' (below_grown (below_alloc HB1.out (.cells #[.bool false, .string s, .string ⟨#[]⟩, .int .u64 0, .int .u64 (i : Int)] 36)) hgr (fun r e => (HO1.out.lt r e).1))
   have hown2 : w'.ownsRow w.heap.size 36 5 v' (i + 1) (cellsL (l16.take (i + 1))) := by
    rw [HTK.out, cellsL_append]; exact hown
   have HO' := aM' hown2
   clear hown hgr hnil hown2 hb1 hcv w8 wc wu
   go_wp2
   go_roundw
   case rel => exact ⟨i + 1, by go_num, ⟨by omega⟩, HB', HO'⟩
   case measure => simp [intOf]; omega
  ·
   obtain rfl : i = 4 := by omega
   have b1 : decide (((4 : Nat) : Int) < 4) = false := by decide
   have b2 : decide (4 < 4) = false := by decide
   have ho := HO.out
   rw [show l16.take 4 = l16 from rfl] at ho
   obtain ⟨gc, cc, hv, -, -⟩ := ho.form (by decide)
   cases hv
   have hol := ownLeaves_C ho
   have HOL := aM' hol
   clear ho hol hi4
   go_wp2_with fail
   refine (treeNew.calls 7 (some ⟨gc, 0, none⟩) c8 l16 wr (HK.out.below HB.out) HOL.out.2.2 HOL.out.2.1 (by decide) l16_ok).mono ?_
   rintro e w3 ⟨hb, h⟩
   rcases h with ⟨-, a, gl, cl, VV, gs, rfl, hO⟩ | ⟨hn, -⟩
   case inr => exact absurd l16_new hn
   have HB3 := aM' (HB.out.trans (hb.mono HB.out.size))
   have HO3 := aM' hO
   have HC3 := aM' (Kd.C_below HOL.out.2.2 hb)
   have HKK := aM' (newI_zero l16_new l16_ok)
   clear hb hO
   go_wp2_with fail
   refine (proofOf.calls _ a gl cl VV gs 7 l16 2 2 w3 HO3.out HKK.out (by decide) (by decide) (by decide) (by decide)).mono ?_
   rintro e w4 ⟨A, c, rfl, hown, hb⟩
   obtain ⟨y, hy⟩ : ∃ y, y = l16[2]'(by decide) := ⟨_, rfl⟩
   rw [← hy]
   have HY := aM' hy
   clear hy
   obtain ⟨g9, hg9⟩ : ∃ g, g = w4.heap.size := ⟨_, rfl⟩
   obtain ⟨W5, hW5⟩ : ∃ V, V = w4.alloc (.cells #[.bool y.f0, .string y.f1, .string y.f2, .int .u64 y.f3.f0, .int .u64 y.f3.f1, .int .u64 2, .slice A 2 c] 70) := ⟨_, rfl⟩
   have hb5 : Below w3.heap.size w3 W5 := by rw [hW5]; exact below_alloc hb _
   have HB5 := aM' (HB3.out.trans (hb5.mono HB3.out.size))
   have HO5 := aM' (HO3.out.keep hb5)
   have HOW5 := aM' (show W5.ownsRow w3.heap.size 46 3 (.slice A 2 c) 2 (cellsN (besL 7 l16 2 2)) by rw [hW5]; exact ownB hown (below_alloc (Below.refl _ _) _))
   have HC5 := aM' (Kd.C_below HC3.out hb5)
   have HG9 := aM' (show W5.heap[g9]? = some (.cells #[.bool y.f0, .string y.f1, .string y.f2, .int .u64 y.f3.f0, .int .u64 y.f3.f1, .int .u64 2, .slice A 2 c] 70 (0, 0)) by rw [hW5, hg9]; exact blk_new _ _)
   go_wp2_with fail
   simp only [← hg9, ← hW5]
   clear hb hown hb5 hW5 hg9
   refine (proofOfNo.calls _ a gl cl VV gs 7 l16 4 W5 HO5.out HKK.out (by decide) (by decide)).mono ?_
   rintro e w6 ⟨rfl, hb⟩
   have HB6 := aM' (HB5.out.trans (hb.mono HB5.out.size))
   have HO6 := aM' (HO5.out.keep hb)
   have HOW6 := aM' (ownB HOW5.out hb)
   have HC6 := aM' (Kd.C_below HC5.out hb)
   have HG6 := aM' (blk_below HG9.out hb)
   clear hb
   go_upto_region 9 with (fail)
   obtain ⟨W7, hW7⟩ : ∃ V, V = w6.alloc (.cells #[.bool false, .string ⟨#[]⟩, .string ⟨#[]⟩, .int .u64 0, .int .u64 0, .int .u64 0, .slice none 0 0] 70) := ⟨_, rfl⟩
   have hb7 : Below w6.heap.size w6 W7 := by rw [hW7]; exact below_alloc (Below.refl _ _) _
   have HB7 := aM' (HB6.out.trans (hb7.mono HB6.out.size))
   have HO7 := aM' (HO6.out.keep hb7)
   have HOW7 := aM' (ownB HOW6.out hb7)
   have HC7 := aM' (Kd.C_below HC6.out hb7)
   have HG7 := aM' (blk_below HG6.out hb7)
   rw [← hW7]
   clear hb7 hW7
   have x0 := blk_cell HG7.out 0
   have x1 := blk_cell HG7.out 1
   have x2 := blk_cell HG7.out 2
   have x3 := blk_cell HG7.out 3
   have x4 := blk_cell HG7.out 4
   have x5 := blk_cell HG7.out 5
   have x6 := blk_cell HG7.out 6
   simp at x0 x1 x2 x3 x4 x5 x6
   obtain ⟨ad, had, hl⟩ := leafC_at HC7.out (p := 2) (by decide) (by decide)
   cases had
   rw [← HY.out] at hl
   have y0 : W7.cell? ⟨gc, 10, none⟩ = some (.bool y.f0) := hl.p0
   have y1 : W7.cell? ⟨gc, 11, none⟩ = some (.string y.f1) := hl.p1
   have y2 : W7.cell? ⟨gc, 12, none⟩ = some (.string y.f2) := hl.p2
   have y3 : W7.cell? ⟨gc, 13, none⟩ = some (.int .u64 y.f3.f0) := hl.p3
   have y4 : W7.cell? ⟨gc, 14, none⟩ = some (.int .u64 y.f3.f1) := hl.p4
   clear hl
   have c24 : decide ((2 : Int) < 4) = true := by decide
   go_quiet (fail)
   obtain ⟨W8, hW8⟩ : ∃ V, V = W7.drewN nq := ⟨_, rfl⟩
   have hb8 : Below W7.heap.size W7 W8 := by rw [hW8]; exact pw_below_drewN (Below.refl _ _) nq
   have HB8 := aM' (HB7.out.trans (hb8.mono HB7.out.size))
   have HO8 := aM' (HO7.out.keep hb8)
   have HOW8 := aM' (ownB HOW7.out hb8)
   have HC8 := aM' (Kd.C_below HC7.out hb8)
   have HG8 := aM' (blk_below HG7.out hb8)
   rw [← hW8]
   clear hb8 hW8 x0 x1 x2 x3 x4 x5 x6 y0 y1 y2 y3 y4
   obtain ⟨nx, hnx⟩ : ∃ z, z = (upV 7 1 (l16.map (leafNodeI 7))).getD 0 nodeZ := ⟨_, rfl⟩
   have HNX := aM' (node_is HKK.out (m := 2) (by decide) (n := 1) (by decide) (p := 0) (by decide) (q := 0) (by decide) hnx)
   have HNE := aM' hnx
   clear hnx
   go_wp2_with fail
   refine (HO8.out.nodeC HKK.out (by decide) HNX.out).mono ?_
   rintro e w9 ⟨rfl, hb⟩
   have HB9 := aM' (HB8.out.trans (hb.mono HB8.out.size))
   have HOW9 := aM' (ownB HOW8.out hb)
   have HC9 := aM' (Kd.C_below HC8.out hb)
   have HG9' := aM' (blk_below HG8.out hb)
   clear hb
   obtain ⟨ga, rfl⟩ : ∃ ga, A = some ⟨ga, 0, none⟩ := by
    obtain ⟨gx, cx, hv, -, -⟩ := HOW9.out.form (by decide)
    cases hv
    exact ⟨gx, rfl⟩
   obtain ⟨-, hcap, hs⟩ := ownNodes_C HOW9.out
   obtain ⟨z, hz⟩ : ∃ z, z = lf16 3 := ⟨_, rfl⟩
   obtain ⟨s0, hs0⟩ : ∃ s, s = leafNodeI 7 z := ⟨_, rfl⟩
   have hbe : besL 7 l16 2 2 = [s0, nx] := by rw [l16_b, hs0, hz, HNE.out]
   rw [hbe] at hs
   have H1 := aM' (show proof_Shape.f 7 2 2 [s0, nx] = some 0 by rw [proofShape_eq, ← hbe, l16_s1])
   have H2 := aM' (show proof_Shape.f 7 1 2 [s0, nx] = some 160 by rw [proofShape_eq, ← hbe, l16_s2])
   have H3 := aM' (show proof_Shape.f 6 2 2 [s0, nx] = some 70 by rw [proofShape_eq, ← hbe, l16_s3])
   have H4 := aM' (show proof_Shape.f 7 64 2 [s0, nx] = some 120 by rw [proofShape_eq, ← hbe, l16_s4])
   obtain ⟨kl, hkl⟩ := (tagLeafNode_ev 7 z (by rw [hz]; decide +kernel) (by rw [hz]; decide +kernel)).rounds
   rw [← hs0] at hkl
   have HLN := aM' hkl
   have HLC := aM' (show LeafC w9 ⟨gc, 15, none⟩ z by
    obtain ⟨ad, had, hl⟩ := leafC_at HC9.out (p := 3) (by decide) (by decide)
    cases had
    rw [hz]; exact hl)
   have HSS := aM' hs
   have HCAP := aM' hcap
   clear hz hs0 hbe hkl hs hcap
   go_upto_region 12 with (fail)
   obtain ⟨g10, hg10⟩ : ∃ g, g = w9.heap.size := ⟨_, rfl⟩
   obtain ⟨W10, hW10⟩ : ∃ V, V = w9.alloc (.cells #[.string nx.f0, .int .u64 nx.f1.f0, .int .u64 nx.f1.f1] 46) := ⟨_, rfl⟩
   have hb10 : Below w9.heap.size w9 W10 := by rw [hW10]; exact below_alloc (Below.refl _ _) _
   have HS := aM' (show At16 w W10 g9 g10 ga gc c y z s0 nx from ⟨HB9.out.trans (hb10.mono HB9.out.size), blk_below HG9'.out hb10, by rw [hW10, hg10]; exact blk_new _ _, HLC.out.below hb10, Kd.C_below HSS.out hb10⟩)
   simp only [← hg10, ← hW10]
   clear hg10 hW10 hb10
   have HSD := aM' (HS.out.keep (below_drew (Below.refl _ _)))
   have c34 : decide ((3 : Int) < 4) = true := by decide
   have c02 : decide ((0 : Int) < 2) = true := by decide
   have c12 : decide ((1 : Int) < 2) = true := by decide
   go_region_held3 (fun w' => ((w'.cell? ⟨g9, 0, none⟩ = some (.bool y.f0) ∧ w'.cell? ⟨g9, 1, none⟩ = some (.string y.f1) ∧ w'.cell? ⟨g9, 2, none⟩ = some (.string y.f2) ∧ w'.cell? ⟨g9, 3, none⟩ = some (.int .u64 y.f3.f0) ∧ w'.cell? ⟨g9, 4, none⟩ = some (.int .u64 y.f3.f1) ∧ w'.cell? ⟨g9, 5, none⟩ = some (.int .u64 2) ∧ w'.cell? ⟨g9, 6, none⟩ = some (.slice (some ⟨ga, 0, none⟩) 2 c)) ∧ (w'.cell? ⟨g10, 0, none⟩ = some (.string nx.f0) ∧ w'.cell? ⟨g10, 1, none⟩ = some (.int .u64 nx.f1.f0) ∧ w'.cell? ⟨g10, 2, none⟩ = some (.int .u64 nx.f1.f1)) ∧ (w'.cell? ⟨gc, 15, none⟩ = some (.bool z.f0) ∧ w'.cell? ⟨gc, 16, none⟩ = some (.string z.f1) ∧ w'.cell? ⟨gc, 17, none⟩ = some (.string z.f2) ∧ w'.cell? ⟨gc, 18, none⟩ = some (.int .u64 z.f3.f0) ∧ w'.cell? ⟨gc, 19, none⟩ = some (.int .u64 z.f3.f1)) ∧ (w'.cell? ⟨ga, 0, none⟩ = some (.string s0.f0) ∧ w'.cell? ⟨ga, 1, none⟩ = some (.int .u64 s0.f1.f0) ∧ w'.cell? ⟨ga, 2, none⟩ = some (.int .u64 s0.f1.f1)) ∧ (w'.cell? ⟨ga, 3, none⟩ = some (.string nx.f0) ∧ w'.cell? ⟨ga, 4, none⟩ = some (.int .u64 nx.f1.f0) ∧ w'.cell? ⟨ga, 5, none⟩ = some (.int .u64 nx.f1.f1))) ∧ At16 w w' g9 g10 ga gc c y z s0 nx) (first | exact HSD.out.cells | exact (At16.keep (by assumption) (At16.of (by assumption))).cells) (first | (go_at_call 34; (with_reducible refine (tag_LeafNode.calls kl 7 z.f0 z.f1 z.f2 z.f3.f0 z.f3.f1 s0.f0 s0.f1.f0 s0.f1.f1 _ (HK.out.below (At16.of (by assumption)).b) HLN.out).mono ?_); rintro e w' ⟨rfl, hb⟩) | (go_at_call 39; (first | (with_reducible refine ((At16.of (by assumption)).shape HCAP.out 7 2 0 H1.out).mono ?_) | (with_reducible refine ((At16.of (by assumption)).shape HCAP.out 7 1 160 H2.out).mono ?_) | (with_reducible refine ((At16.of (by assumption)).shape HCAP.out 6 2 70 H3.out).mono ?_) | (with_reducible refine ((At16.of (by assumption)).shape HCAP.out 7 64 120 H4.out).mono ?_)); rintro e w' ⟨rfl, hb⟩))
   all_goals
    go_wp2
    go_ret
    exact ⟨by simp, (At16.of (by assumption)).b⟩
end Go.Proofs.YtfcodmdckcihmaaDoor.P
namespace Go.Proofs.YtfcodmdckcihmaaDoor.P
open Go.RowKit Go.Proofs.YtfcodmdckcihmaaDoorW.PrintWords Go.Proofs.YtfcodmdckcihmaaDoorW.PrintLast Go.Proofs.YtfcodmdckcihmaaDoorW.PrintMore
set_option linter.unusedVariables false
set_option linter.unusedSimpArgs false
set_option linter.unnecessarySimpa false
theorem besV_def (w : Int) (l : List SNode) (p i : Nat) : besV w l p i = (upV w i l).getD (besN (p / 2 ^ i)) zeroN := rfl
theorem bes_same {w : Int} {K : Nat} {l : List SNode} (hl : l.length = 2 ^ K) {p : Nat} (hp : p < 2 ^ K) (x : SNode) {i k : Nat} (hk : k < K) (h : besN (i / 2 ^ k) ≠ p / 2 ^ k) : besV w (l.set p x) i k = besV w l i k := by
 rw [besV_def, besV_def, upV_set w hl hp x k (by omega)]
 rw [List.getD_eq_getElem?_getD, List.getD_eq_getElem?_getD, List.getElem?_set_ne (Ne.symm h)]
theorem bes_self (q : Nat) : besN q ≠ q := by unfold besN; split <;> omega
theorem bes_half (q : Nat) : besN q / 2 = q / 2 := by unfold besN; split <;> omega
theorem bes_once {i p j k : Nat} (hjk : j < k) (h : besN (i / 2 ^ j) = p / 2 ^ j) : besN (i / 2 ^ k) ≠ p / 2 ^ k := by
 intro h2
 have e : ∀ x : Nat, x / 2 ^ k = x / 2 ^ j / 2 / 2 ^ (k - j - 1) := fun x => by
  rw [Nat.div_div_eq_div_mul, Nat.div_div_eq_div_mul, ← Nat.pow_succ', ← Nat.pow_add]
  congr 2; omega
 have h3 : i / 2 ^ k = p / 2 ^ k := by rw [e, e, ← h, bes_half]
 rw [← h3] at h2
 exact bes_self _ h2
theorem changes_besL {wd : Int} {ls : List SLeaf} {m p : Nat} {x : SLeaf} (hn : NewOk wd ls) (hm : m = ls.length.log2) (hp : p < ls.length) {i k : Nat} (hk : k < m) (h : besN (i / 2 ^ k) ≠ p / 2 ^ k) :
  (besL wd (ls.set p x) i m).getD k nodeZ = (besL wd ls i m).getD k nodeZ := by
 have hl : (ls.map (leafNodeI wd)).length = 2 ^ m := by rw [List.length_map, hm]; exact hn.p
 unfold besL
 rw [List.map_set]
 simp only [List.getD_eq_getElem?_getD, List.getElem?_map, List.getElem?_range hk, Option.map_some, Option.getD_some]
 exact bes_same hl (by rw [List.length_map] at hl; omega) _ hk h
theorem changes_own {wd : Int} {ls : List SLeaf} {m p : Nat} {x : SLeaf} (hn : NewOk wd ls) (hm : m = ls.length.log2) (hp : p < ls.length) : besL wd (ls.set p x) p m = besL wd ls p m := by
 have hl : (ls.map (leafNodeI wd)).length = 2 ^ m := by rw [List.length_map, hm]; exact hn.p
 unfold besL
 rw [List.map_set]
 exact List.map_congr_left fun k hk => bes_same hl (by rw [List.length_map] at hl; omega) _ (List.mem_range.1 hk) (bes_self _)
end Go.Proofs.YtfcodmdckcihmaaDoor.P
namespace Go.Proofs.YtfcodmdckcihmaaDoor.P
open Go.RowKit Go.Proofs.YtfcodmdckcihmaaDoorW.PrintWords Go.Proofs.YtfcodmdckcihmaaDoorW.PrintLast Go.Proofs.YtfcodmdckcihmaaDoorW.PrintMore
set_option linter.unusedVariables false
set_option linter.unusedSimpArgs false
set_option linter.unnecessarySimpa false
def eqN (a b : SNode) : Bool := a.f0.toList == b.f0.toList && (a.f1.f0 == b.f1.f0 && a.f1.f1 == b.f1.f1)
theorem eqN_refl (a : SNode) : eqN a a = true := by simp [eqN]
theorem eqN_not (a b : SNode) : (!(a.f0.toList == b.f0.toList) || ((!(a.f1.f0 == b.f1.f0) || (!(a.f1.f1 == b.f1.f1))))) = !eqN a b := by
 unfold eqN
 cases (a.f0.toList == b.f0.toList) <;> cases (a.f1.f0 == b.f1.f0) <;> cases (a.f1.f1 == b.f1.f1) <;> rfl
def sameL : List SNode → List SNode → Bool
 | [], [] => true
 | a :: l, b :: m => eqN a b && sameL l m
 | _, _ => false
theorem sameL_refl : ∀ l, sameL l l = true
 | [] => rfl
 | a :: l => by rw [sameL, eqN_refl, sameL_refl l]; rfl
theorem sameL_len : ∀ l m : List SNode, l.length ≠ m.length → sameL l m = false
 | [], [], h => absurd rfl h
 | [], _ :: _, _ => rfl
 | _ :: _, [], _ => rfl
 | a :: l, b :: m, h => by rw [sameL, sameL_len l m (by simpa using h)]; simp
theorem sameL_drop (l m : List SNode) (i : Nat) (h : i < l.length) (h' : i < m.length) : sameL (l.drop i) (m.drop i) = (eqN l[i] m[i] && sameL (l.drop (i + 1)) (m.drop (i + 1))) := by
 rw [List.drop_eq_getElem_cons h, List.drop_eq_getElem_cons h', sameL]
theorem same14_loop (l m : List SNode) (hl : l.length ≤ 9223372036854775807) (hm : l.length = m.length) : ∀ d i : Nat, i + d = l.length → Ev (fun k => paymasterref14_Same.l0 k l m (i : Int)) (sameL (l.drop i) (m.drop i)) := by
 intro d
 induction d with
 | zero =>
  intro i hi
  refine Ev.step (f := fun _ => some true) (fun k => ?_) (ev_eq (Ev.now true) ?_)
  ·
   rw [paymasterref14_Same.l0, if_neg (by omega)]
  ·
   rw [List.drop_of_length_le (by omega), List.drop_of_length_le (by omega)]; rfl
 | succ d ih =>
  intro i hi
  have h1 : i < l.length := by omega
  have h2 : i < m.length := by omega
  rw [sameL_drop l m i h1 h2]
  cases hb : eqN l[i] m[i] with
  | false =>
   refine Ev.step (f := fun _ => some false) (fun k => ?_) (ev_eq (Ev.now false) (by simp))
   rw [paymasterref14_Same.l0, if_pos (by omega), if_pos (by omega), if_pos (by omega), rdNode_nat l i h1, rdNode_nat m i h2, eqN_not, hb, if_pos (by rfl)]
  | true =>
   refine Ev.step (f := fun k => paymasterref14_Same.l0 k l m ((i + 1 : Nat) : Int)) (fun k => ?_) (ev_eq (ih (i + 1) (by omega)) (by simp))
   rw [paymasterref14_Same.l0, if_pos (by omega), if_pos (by omega), if_pos (by omega), rdNode_nat l i h1, rdNode_nat m i h2, eqN_not, hb, if_neg (by simp), wrap64_id (by omega) (by omega)]; rfl
theorem same14_ev (l m : List SNode) (hl : l.length ≤ 9223372036854775807) : Ev (fun k => paymasterref14_Same.f k l m) (sameL l m) := by
 unfold paymasterref14_Same.f
 by_cases h : l.length = m.length
 ·
  refine Ev.congr (fun k => by rw [if_pos (by omega)]; rfl) (ev_eq (same14_loop l m hl h l.length 0 (by omega)) (by simp))
 ·
  exact Ev.some_ (fun k => by rw [if_neg (by omega), sameL_len l m h])
end Go.Proofs.YtfcodmdckcihmaaDoor.P
namespace Go.Proofs.YtfcodmdckcihmaaDoor.P
open Go.RowKit Go.Proofs.YtfcodmdckcihmaaDoorW.PrintWords Go.Proofs.YtfcodmdckcihmaaDoorW.PrintLast Go.Proofs.YtfcodmdckcihmaaDoorW.PrintMore
set_option linter.unusedVariables false
set_option linter.unusedSimpArgs false
set_option linter.unnecessarySimpa false
attribute [local go_sem high] eqANode heqRoot eqALeaf
attribute [local go_sem] sel_true
abbrev GcW (V : World) (ap : Addr) (A : Option Addr) (m c : Nat) : Prop := V.cell? ⟨ap.block, ap.off + 6, none⟩ = some (.slice A m c)
abbrev GcL (V : World) (ap : Addr) (x : SLeaf) : Prop := V.cell? ap = some (.bool x.f0) ∧ V.cell? ⟨ap.block, ap.off + 1, none⟩ = some (.string x.f1) ∧ V.cell? ⟨ap.block, ap.off + 2, none⟩ = some (.string x.f2) ∧ V.cell? ⟨ap.block, ap.off + 3, none⟩ = some (.int .u64 x.f3.f0) ∧ V.cell? ⟨ap.block, ap.off + 4, none⟩ = some (.int .u64 x.f3.f1)
theorem ent_cells {W : World} {A : Option Addr} {n m c : Nat} {wd : Int} {ls : List SLeaf} (h : Kd.C kEntry W A n (entsL wd ls m)) (hn : n = ls.length) (i : Nat) (hi : i < ls.length) : ∃ ad A6 c6, A = some ad ∧ m ≤ c6 ∧ (∀ V, Below W.heap.size W V → GcL V (ad.add (i * 7)) ls[i] ∧ GcW V (ad.add (i * 7)) A6 m c6 ∧ Kd.C kNode V A6 m (besL wd ls i m)) := by
 subst hn
 have hl : (entsL wd ls m).length = ls.length := entsL_len ..
 obtain ⟨ad, A6, c6, e, h0, h1, h2, h3, h4, h5, h6, h7, h8⟩ := at_TEntry h (i : Int) (by omega) (by omega)
 have er : rd_TEntry (entsL wd ls m) (i : Int) = entE wd ls i m := by
  have : rd_TEntry (entsL wd ls m) (i : Int) = (entsL wd ls m)[i]'(by omega) := by simp [rd_TEntry, hl, hi]
  rw [this]; exact entsL_get hi
 have e0 := entE_leaf (wd := wd) (m := m) hi
 have e1 : (entE wd ls i m).f1.f1 = besL wd ls i m := rfl
 rw [er] at h0 h1 h2 h3 h4 h6 h7 h8
 rw [Int.toNat_natCast] at h0 h1 h2 h3 h4 h6
 rw [e0] at h0 h1 h2 h3 h4
 rw [e1, besL_len] at h6 h7 h8
 exact ⟨ad, A6, c6, e, h7, fun V hV => ⟨⟨pw_cell_below hV h0, pw_cell_below hV h1, pw_cell_below hV h2, pw_cell_below hV h3, pw_cell_below hV h4⟩, pw_cell_below hV h6, Kd.C_below h8 hV⟩⟩
theorem same_self.calls (A B : Option Addr) (M ca cb : Nat) (S T : List SNode) (w : World) (ha : Kd.C kNode w A M S) (hb : Kd.C kNode w B M T) (hca : M ≤ ca) (hcb : M ≤ cb) (h : S = T) :
  Calls Tryd.prog 38 #[.slice A M ca, .slice B M cb] w fun e w' => e = .returned (.bool true) ∧ Below w.heap.size w w' := by
 subst h
 have hS : S.length = M := ha.1
 subst hS
 obtain ⟨k, hk⟩ := (same14_ev S S (by have := ha.2.1; omega)).rounds
 rw [sameL_refl] at hk
 exact (paymasterref14_Same.calls k A ca S B cb S true w ha hca hb hcb hk).mono fun e w' h => ⟨h.1, h.2.below⟩
theorem bits_bes_i (n : Nat) (h : n < 1000) : Go.bits .xor .i64 (n : Int) 1 = (besN n : Int) := by
 have h1 : (BitVec.ofInt 64 (n : Int)).toNat = n := by
  rw [BitVec.ofInt_natCast, BitVec.toNat_ofNat]; exact Nat.mod_eq_of_lt (by omega)
 have h2 : (BitVec.ofInt 64 (1 : Int)).toNat = 1 := by decide
 show IntKind.i64.wrap ((BitVec.ofInt 64 (n : Int) ^^^ BitVec.ofInt 64 (1 : Int)).toNat : Int) = _
 rw [BitVec.toNat_xor, h1, h2, xor_one]
 exact IntWalk.i64_in _ (by unfold besN; split <;> omega)
theorem change_at {wd : Int} {ls : List SLeaf} {m p i k : Nat} {x : SLeaf} (hn : NewOk wd ls) (hm : m = ls.length.log2) (hp : p < ls.length) (hk : k < m) (h : eqN ((besL wd ls i m).getD k nodeZ) ((besL wd (ls.set p x) i m).getD k nodeZ) = false) : besN (i / 2 ^ k) = p / 2 ^ k := by
 refine Classical.byContradiction fun hne => ?_
 rw [changes_besL hn hm hp hk hne, eqN_refl] at h
 cases h
theorem bne_node (s t : SNode) : (!(s.f0.toList == t.f0.toList) || (!(s.f1.f0 == t.f1.f0) || !(s.f1.f1 == t.f1.f1))) = !eqN s t := eqN_not s t
theorem BS3 {W V V' : World} {C : Prop} (hb : Below V.heap.size V V') (h : C ∧ Below W.heap.size W V) : Below W.heap.size W V' := h.2.trans (hb.mono h.2.size)
set_option maxRecDepth 100000 in
set_option maxHeartbeats 8000000 in
theorem lawPChanges.calls (wd : Int) (A : Option Addr) (c : Nat) (ls : List SLeaf) (pos : Int) (x : SLeaf) (w : World) (hK : LaidT w) (hr : Kd.C kLeaf w A ls.length ls) (hc : ls.length ≤ c) (hub : ∀ x ∈ ls, OkU x.f3) (hxu : OkU x.f3) (hll : ls.length ≤ 9223372036854775807) (hpos : 0 ≤ pos ∧ pos < 65536) :
  Calls Tryd.prog 9 #[.int .i64 wd, .slice A ls.length c, .int .u16 pos, leafV x] w fun e w' => e = .returned (.bool true) ∧ Below w.heap.size w w' := by
 have HK := aM' hK
 have HR := aM' hr
 have HC := aM' hc
 have HPOS := aM' hpos
 have HUB := aM' (And.intro hub hxu)
 obtain ⟨kg, hkg⟩ := (great15_ev ls hll).rounds
 obtain ⟨kx, hkx⟩ := (great15_ev [x] (by simp)).rounds
 have HKX := aM' hkx
 obtain ⟨gr, hgr⟩ : ∃ g, g = greatL ls := ⟨_, rfl⟩
 obtain ⟨gx, hgx⟩ : ∃ g, g = greatL [x] := ⟨_, rfl⟩
 rw [← hgr] at hkg
 have HG := aM' hkg
 have HGR := aM' hgr
 have HGX := aM' hgx
 obtain ⟨W0, hW0⟩ : ∃ V, V = w.alloc (.cells (acL x) 36) := ⟨_, rfl⟩
 have HB0 := aM' (show Below w.heap.size w W0 by rw [hW0]; exact below_alloc (Below.refl _ _) _)
 have HX0 := aM' (show W0.heap[w.heap.size]? = some (.cells (acL x) 36 (0, 0)) by rw [hW0]; exact blk_new _ _)
 clear hK hr hc hub hxu hll hpos hkg hgr hgx hkx
 go_enter Tryd.func9, Tryd.ntmps9
 go_wp2_with fail
 rw [← hW0]
 clear hW0
 refine (awake16.calls W0 (HK.out.below HB0.out)).mono ?_
 rintro e w1 ⟨rfl, hb⟩
 have HB1 := aM' (HB0.out.trans (hb.mono HB0.out.size))
 have HX1 := aM' (blk_below HX0.out hb)
 clear hb
 go_wp2_with fail
 refine (paymasterlaw15_Great.calls kg A c ls gr _ (Kd.C_below HR.out HB1.out) HC.out HG.out).mono ?_
 rintro e w2 ⟨rfl, hd⟩
 obtain ⟨nd, rfl⟩ := hd
 obtain ⟨W2, hW2⟩ : ∃ V, V = w1.drewN nd := ⟨_, rfl⟩
 have HB2 := aM' (show Below w.heap.size w W2 by rw [hW2]; exact pw_below_drewN HB1.out nd)
 have HX2 := aM' (show W2.heap[w.heap.size]? = some (.cells (acL x) 36 (0, 0)) by rw [hW2]; exact blk_drewN HX1.out nd)
 rw [← hW2]
 clear hW2
 cases gr with
 | true =>
  go_wp2
  go_ret
  exact ⟨rfl, HB2.out⟩
 | false =>
  have x0 := blk_cell HX2.out 0
  have x1 := blk_cell HX2.out 1
  have x2 := blk_cell HX2.out 2
  have x3 := blk_cell HX2.out 3
  have x4 := blk_cell HX2.out 4
  simp at x0 x1 x2 x3 x4
  obtain ⟨W3, hW3⟩ : ∃ V, V = W2.alloc (.cells #[.bool x.f0, .string x.f1, .string x.f2, .int .u64 x.f3.f0, .int .u64 x.f3.f1] 36) := ⟨_, rfl⟩
  have HB3 := aM' (show Below w.heap.size w W3 by rw [hW3]; exact below_alloc HB2.out _)
  have HX3 := aM' (show W3.heap[w.heap.size]? = some (.cells (acL x) 36 (0, 0)) by rw [hW3]; exact blk_alloc HX2.out _)
  have hz := hW3 ▸ blk_new W2 (.cells #[.bool x.f0, .string x.f1, .string x.f2, .int .u64 x.f3.f0, .int .u64 x.f3.f1] 36)
  have HCX := aM' (litL_C (xs := [x]) hz rfl (by simp))
  clear hz
  go_wp2_with fail
  rw [← hW3]
  clear hW3 x0 x1 x2 x3 x4
  refine (paymasterlaw15_Great.calls kx (some ⟨W2.heap.size, 0, none⟩) 1 [x] gx W3 HCX.out (by simp) (by rw [HGX.out]; exact HKX.out)).mono ?_
  rintro e w4 ⟨rfl, hd⟩
  obtain ⟨nd, rfl⟩ := hd
  obtain ⟨W4, hW4⟩ : ∃ V, V = W3.drewN nd := ⟨_, rfl⟩
  have HB4 := aM' (show Below w.heap.size w W4 by rw [hW4]; exact pw_below_drewN HB3.out nd)
  have HX4 := aM' (show W4.heap[w.heap.size]? = some (.cells (acL x) 36 (0, 0)) by rw [hW4]; exact blk_drewN HX3.out nd)
  rw [← hW4]
  clear hW4
  cases gx with
  | true =>
   go_wp2
   go_ret
   exact ⟨rfl, HB4.out⟩
  | false =>
   obtain ⟨h70, hsz⟩ := greatL_ok HGR.out.symm
   obtain ⟨-, hsx⟩ := greatL_ok HGX.out.symm
   have HOK := aM' (show ∀ y ∈ ls, OkL y from fun y hy => ⟨by have := (hsz y hy).1; omega, by have := (hsz y hy).2; omega, HUB.out.1 y hy⟩)
   have HOX := aM' (show OkL x from ⟨by have := (hsx x (by simp)).1; omega, by have := (hsx x (by simp)).2; omega, HUB.out.2⟩)
   have H70 := aM' h70
   clear h70 hsz hsx
   go_wp2_with fail
   refine (treeNew.calls wd A c ls W4 (HK.out.below HB4.out) (Kd.C_below HR.out HB4.out) HC.out (by have := H70.out; omega) HOK.out).mono ?_
   rintro e w5 ⟨hb, h⟩
   have HB5 := aM' (HB4.out.trans (hb.mono HB4.out.size))
   have HX5 := aM' (blk_below HX4.out hb)
   rcases h with ⟨hz, ta, gl, cl, VV, gs, rfl, hO⟩ | ⟨hnz, rfl⟩
   case inr =>
    have b0 : (newI wd ls == 0) = false := by simp [hnz]
    have HNZ := aM' hnz
    clear hb hnz
    generalize newI wd ls = er at b0 HNZ
    go_wp2
    go_ret
    exact ⟨rfl, HB5.out⟩
   case inl =>
    have HZ := aM' hz
    have HO5 := aM' hO
    have HBASE := aM' HB4.out.size
    have HKK := aM' (newI_zero hz HOK.out)
    clear hb hz hO
    have hpos1 := (levels_ok HKK.out (by have := H70.out; omega)).2.2
    obtain ⟨p, hp⟩ : ∃ p : Nat, (p : Int) = pos % (ls.length : Int) := ⟨(pos % (ls.length : Int)).toNat, by rw [Int.toNat_of_nonneg (Int.emod_nonneg _ (by omega))]⟩
    have hpl : p < ls.length := by have := Int.emod_lt_of_pos pos (show (0 : Int) < (ls.length : Int) by omega); omega
    have HPL := aM' hpl
    have hw0 : IntKind.i64.wrap pos = pos := IntWalk.i64_in _ (by have := HPOS.out; omega)
    have hrem : Int.tmod pos (ls.length : Int) = (p : Int) := by rw [hp]; exact Int.tmod_eq_emod_of_nonneg HPOS.out.1
    have hwp : IntKind.u64.wrap (p : Int) = (p : Int) := wrapu64_id (by omega) (by have := H70.out; omega)
    have hne : ((ls.length : Nat) : Int) ≠ 0 := by omega
    obtain ⟨m, hm⟩ : ∃ m, m = ls.length.log2 := ⟨_, rfl⟩
    have HMM := aM' hm
    have HL1024 := aM' (show ls.length ≤ 1024 by have := H70.out; omega)
    have hm6 : m ≤ 6 := by
     rcases Nat.lt_or_ge 6 m with h1 | h1
     ·
      have h2 := Nat.pow_le_pow_right (n := 2) (by decide) (show 7 ≤ m by omega)
      have h3 := HKK.out.p
      rw [← HMM.out] at h3
      have := H70.out
      omega
     ·
      exact h1
    have HM6 := aM' hm6
    clear hm hp hpl hpos1 hm6
    go_wp2_with fail
    refine (proofAllOwn.calls _ ta gl cl VV gs wd ls m w5 HO5.out HKK.out HL1024.out HMM.out (by have := HM6.out; omega)).mono ?_
    rintro e w6 ⟨Aw, cw, rfl, hal, hb⟩
    have HAL6 := aM' hal
    have HB6 := aM' (HB5.out.trans (hb.mono HB5.out.size))
    have HX6 := aM' (blk_below HX5.out hb)
    have HO6 := aM' (HO5.out.keep hb)
    have HS6 := aM' hb.size
    clear hal hb
    have x0 := blk_cell HX6.out 0
    have x1 := blk_cell HX6.out 1
    have x2 := blk_cell HX6.out 2
    have x3 := blk_cell HX6.out 3
    have x4 := blk_cell HX6.out 4
    simp at x0 x1 x2 x3 x4
    go_wp2_with fail
    refine (tSet.calls _ ta gl cl VV gs wd ls p x w6 (HK.out.below HB6.out) HO6.out HKK.out (by have := H70.out; omega) HOX.out (by have := HPL.out; have := H70.out; omega)).mono ?_
    rintro e w8 ⟨rfl, hO, hT⟩
    have HPG := aM' (show ∀ k ∈ parts gl gs, W4.heap.size ≤ k ∧ k < w5.heap.size from fun k hk => HO5.out.lt k hk)
    have HO8 := aM' hO
    have HAL8 := aM' (HAL6.out.tch hT (fun k hk => (HPG.out k hk).2))
    have HB8 := aM' (HB6.out.trans (hT.toBelow (b := w.heap.size) (fun k hk => Nat.le_trans HBASE.out (HPG.out k hk).1) HB6.out.size))
    have HX8 := aM' ((hT.block _ (blk_lt HX6.out) (fun hm => by have := (HPG.out _ hm).1; have := blk_lt HX4.out; omega)).trans HX6.out)
    have HNI := aM' (newI_set (x := x) HZ.out HPL.out)
    obtain ⟨f, hf⟩ : ∃ f, f = setI wd ls p x := ⟨_, rfl⟩
    simp only [← hf]
    have HF := aM' hf
    rw [← hf] at HNI
    clear hO hT hf x0 x1 x2 x3 x4
    by_cases h0 : f = 0
    case neg =>
     have b0 : (f == 0) = false := by simp [h0]
     clear h0
     go_wp2
     go_ret
     exact ⟨rfl, HB8.out⟩
    subst h0
    obtain ⟨k, hk⟩ : ∃ k, k = ls.set p x := ⟨_, rfl⟩
    have HKE := aM' hk
    have hs : setL wd ls p x = k := by unfold setL; rw [if_pos HF.out.symm, hk]
    have HKL := aM' (show k.length = ls.length by rw [hk, List.length_set])
    rw [hs] at HO8
    have HKK2 := aM' (show NewOk wd k from newI_zero (by rw [hk]; exact HNI.out) (fun y hy => by
     rw [hk] at hy
     rcases List.mem_or_eq_of_mem_set hy with h | rfl
     ·
      exact HOK.out y h
     ·
      exact HOX.out))
    have HLS := aM' (show k.length ≤ 1024 by rw [HKL.out]; exact HL1024.out)
    have HMS := aM' (show m = k.length.log2 by rw [HKL.out]; exact HMM.out)
    clear hs hk
    have q := proofAllOwn.calls _ ta gl cl VV gs wd k m w8 HO8.out HKK2.out HLS.out HMS.out (by have := HM6.out; omega)
    rw [HKL.out] at q
    have HQ := aM' q
    clear q
    go_wp2_with fail
    refine HQ.out.mono ?_
    rintro e w13 ⟨An, cn, rfl, hal, hb⟩
    have HB13 := aM' (HB8.out.trans (hb.mono HB8.out.size))
    have HX13 := aM' (blk_below HX8.out hb)
    have HO13 := aM' (HO8.out.keep hb)
    obtain ⟨-, hrw⟩ := (HAL8.out.below hb).read rfl
    obtain ⟨-, hrn⟩ := hal.read HKL.out.symm
    have HRW := aM' hrw
    have HRN := aM' hrn
    obtain ⟨adw, Aw6, cw6, hadw, hcw6, hcw⟩ := ent_cells (c := cw) hrw rfl p HPL.out
    obtain ⟨adn, An6, cn6, hadn, hcn6, hcn⟩ := ent_cells (c := cn) hrn HKL.out.symm p (by rw [HKL.out]; exact HPL.out)
    subst hadw hadn
    have hkp : k[p]'(by rw [HKL.out]; exact HPL.out) = x := by have := HKE.out; subst this; simp
    rw [hkp] at hcn
    obtain ⟨aw, haw⟩ : ∃ z, z = adw.add (p * 7) := ⟨_, rfl⟩
    obtain ⟨an, han⟩ : ∃ z, z = adn.add (p * 7) := ⟨_, rfl⟩
    rw [← haw] at hcw
    rw [← han] at hcn
    have HCW := aM' hcw
    have HCN := aM' hcn
    have HC6 := aM' (And.intro hcw6 hcn6)
    have HSM := aM' (show besL wd ls p m = besL wd k p m by rw [HKE.out]; exact (changes_own HKK.out HMM.out HPL.out).symm)
    clear hb hal hrw hrn hcw hcn hcw6 hcn6 hkp
    have hpl2 : (p : Int) < (ls.length : Int) := by have := HPL.out; omega
    have hpl3 : p < ls.length := HPL.out
    have haw2 := haw.symm
    have han2 := han.symm
    clear haw han
    go_upto_region 13 with (fail)
    have HAE := aM' (show ∀ V : World, Below w13.heap.size w13 V → (GcW V aw Aw6 m cw6 ∧ GcL V an x ∧ GcW V an An6 m cn6 ∧ (V.cell? ⟨w.heap.size, 0, none⟩ = some (.bool x.f0) ∧ V.cell? ⟨w.heap.size, 1, none⟩ = some (.string x.f1) ∧ V.cell? ⟨w.heap.size, 2, none⟩ = some (.string x.f2) ∧ V.cell? ⟨w.heap.size, 3, none⟩ = some (.int .u64 x.f3.f0) ∧ V.cell? ⟨w.heap.size, 4, none⟩ = some (.int .u64 x.f3.f1))) ∧ Below w13.heap.size w13 V from fun V h => ⟨⟨(HCW.out V h).2.1, (HCN.out V h).1, (HCN.out V h).2.1, (blk_cell (blk_below HX13.out h) 0).trans rfl, (blk_cell (blk_below HX13.out h) 1).trans rfl, (blk_cell (blk_below HX13.out h) 2).trans rfl, (blk_cell (blk_below HX13.out h) 3).trans rfl, (blk_cell (blk_below HX13.out h) 4).trans rfl⟩, h⟩)
    have HSE := aM' (below_drew (Below.refl w13.heap.size w13))
    have HSC := aM' (show ∀ V : World, Below w13.heap.size w13 V → Calls Tryd.prog 38 #[.slice Aw6 m cw6, .slice An6 m cn6] V fun e w' => e = .returned (.bool true) ∧ Below V.heap.size V w' from fun V h => same_self.calls Aw6 An6 m cw6 cn6 _ _ V (HCW.out V h).2.2 (HCN.out V h).2.2 HC6.out.1 HC6.out.2 HSM.out)
    go_region_held3 (fun V => (GcW V aw Aw6 m cw6 ∧ GcL V an x ∧ GcW V an An6 m cn6 ∧ (V.cell? ⟨w.heap.size, 0, none⟩ = some (.bool x.f0) ∧ V.cell? ⟨w.heap.size, 1, none⟩ = some (.string x.f1) ∧ V.cell? ⟨w.heap.size, 2, none⟩ = some (.string x.f2) ∧ V.cell? ⟨w.heap.size, 3, none⟩ = some (.int .u64 x.f3.f0) ∧ V.cell? ⟨w.heap.size, 4, none⟩ = some (.int .u64 x.f3.f1))) ∧ Below w13.heap.size w13 V) (first | exact HAE.out _ HSE.out | exact HAE.out _ (BS3 (by assumption) (by assumption))) (first | (go_at_call 38; (with_reducible refine (HSC.out _ (And.right (by assumption))).mono ?_); rintro e w' ⟨rfl, hb⟩))
    have HBB := aM' (show Below w13.heap.size w13 _ from And.right (by assumption))
    obtain ⟨ad, had, -⟩ := leafC_at HR.out HPL.out (by have := H70.out; omega)
    subst had
    go_wp2
    go_loopw [14] (fun v14 wr => ∃ i : Nat, v14 = .int .i64 (i : Int) ∧ Aside0 (i ≤ ls.length) ∧ Aside0 (Below w13.heap.size w13 wr)) (fun v14 _ => ls.length - (intOf v14).toNat)
    case atStart => exact ⟨0, rfl, ⟨Nat.zero_le _⟩, HBB⟩
    case round =>
     obtain ⟨i, rfl, HI, HBR⟩ := hrel
     by_cases hlt : i < ls.length
     ·
      have b1 : decide ((i : Int) < (ls.length : Int)) = true := decide_eq_true (by omega)
      have b2 : decide (i < ls.length) = true := decide_eq_true hlt
      have HLT := aM' hlt
      obtain ⟨adw', Bw6, dw6, hadw, hdw6, hcw⟩ := ent_cells (c := cw) HRW.out rfl i hlt
      cases hadw
      obtain ⟨adn', Bn6, dn6, hadn, hdn6, hcn⟩ := ent_cells (c := cn) HRN.out HKL.out.symm i (by rw [HKL.out]; exact hlt)
      cases hadn
      obtain ⟨y, hy⟩ : ∃ y, y = ls[i]'hlt := ⟨_, rfl⟩
      obtain ⟨z, hz⟩ : ∃ z, z = k[i]'(by rw [HKL.out]; exact hlt) := ⟨_, rfl⟩
      rw [← hz] at hcn
      have HZY := aM' (show i ≠ p → z = y from fun hne => by
       have := HKE.out
       subst this
       rw [hz, hy, List.getElem_set_ne (Ne.symm hne)])
      obtain ⟨bw, hbw⟩ : ∃ z, z = adw.add (i * 7) := ⟨_, rfl⟩
      obtain ⟨bn, hbn⟩ : ∃ z, z = adn.add (i * 7) := ⟨_, rfl⟩
      obtain ⟨bl, hbl⟩ : ∃ z, z = ad.add (i * 5) := ⟨_, rfl⟩
      rw [← hbw] at hcw
      rw [← hbn] at hcn
      have HCW2 := aM' hcw
      have HCN2 := aM' hcn
      have HCL2 := aM' (show ∀ V : World, Below w13.heap.size w13 V → GcL V bl y from fun V hV => by
       obtain ⟨ad', e, h⟩ := leafC_at (Kd.C_below HR.out (HB13.out.trans (hV.mono HB13.out.size))) hlt (by have := H70.out; omega)
       cases e
       rw [hbl, hy]
       exact ⟨h.p0, h.p1, h.p2, h.p3, h.p4⟩)
      clear hcw hcn hy hz
      have hii : (i : Int) < (ls.length : Int) := by omega
      have hbw2 := hbw.symm
      have hbn2 := hbn.symm
      have hbl2 := hbl.symm
      clear hbw hbn hbl hpl2 hpl3 haw2 han2
      have HHC := aM' (show ∀ V : World, Below w13.heap.size w13 V → Calls Tryd.prog 19 #[ptrT ta] V fun e w' => e = .returned (.int .i64 (m : Int)) ∧ Below V.heap.size V w' from fun V hV => ((HO13.out.keep hV).heightC HKK2.out HLS.out HMS.out).mono fun e w' h => ⟨h.1, by rw [← h.2]; exact Below.refl _ _⟩)
      have HSE2 := aM' (below_drew HBR.out)
      by_cases hip : i = p
      ·
       have HIP := aM' (show (i : Int) = (p : Int) by rw [hip])
       have kb : ((i : Int) == (p : Int)) = true := by simp [hip]
       clear hip
       go_upto_region 18 with (fail)
       refine region_inv (fun l a W => a = ({ tmps := #[.int .i64 wd, .slice (some ad) ls.length c, .int .u16 pos, leafV x, undef, undef, undef, .pointer (some ⟨w.heap.size, 0, none⟩), u8, ptrT ta, .int .i64 0, .slice (some adw) ls.length cw, .int .i64 (p : Int), .slice (some adn) ls.length cn, .int .i64 (i : Int), u15, u16, .bool true, .bool false, .slice (some ad) ls.length c, .bool false, .bool false, .agg #[.bool x.f0, .string x.f1, .string x.f2, .int .u64 x.f3.f0, .int .u64 x.f3.f1], .slice (some ⟨W2.heap.size, 0, none⟩) 1 1, .bool false, .bool false, .tuple #[ptrT ta, .int .i64 0], .int .i64 wd, .slice (some ad) ls.length c, .tuple #[ptrT ta, .int .i64 0], ptrT ta, .int .i64 0, .int .i64 0, .bool false, ptrT ta, .slice (some adw) ls.length cw, .int .u16 pos, .int .i64 pos, .slice (some ad) ls.length c, .int .i64 (ls.length : Int), .int .i64 (p : Int), ptrT ta, .int .i64 (p : Int), .int .u64 (p : Int), .agg #[.bool x.f0, .string x.f1, .string x.f2, .int .u64 x.f3.f0, .int .u64 x.f3.f1], .int .i64 0, .bool false, ptrT ta, .slice (some adn) ls.length cn, .slice (some adw) ls.length cw, .int .i64 (ls.length : Int), .slice (some ad) ls.length c, .int .i64 (ls.length : Int), .bool false, .bool false, .slice (some adn) ls.length cn, .int .i64 (ls.length : Int), .slice (some ad) ls.length c, .int .i64 (ls.length : Int), .bool false, .bool false, .bool false, .slice (some adn) ls.length cn, .int .i64 (p : Int), .pointer (some an), .pointer (some an), .agg #[.bool x.f0, .string x.f1, .string x.f2, .int .u64 x.f3.f0, .int .u64 x.f3.f1], .agg #[.bool x.f0, .string x.f1, .string x.f2, .int .u64 x.f3.f0, .int .u64 x.f3.f1], .bool false, .bool false, .bool false, .slice (some adw) ls.length cw, .int .i64 (p : Int), .pointer (some aw), .pointer (some ⟨aw.block, aw.off + 5, none⟩), .pointer (some ⟨aw.block, aw.off + 5 + 1, none⟩), .slice Aw6 m cw6, .slice (some adn) ls.length cn, .int .i64 (p : Int), .pointer (some an), .pointer (some ⟨an.block, an.off + 5, none⟩), .pointer (some ⟨an.block, an.off + 5 + 1, none⟩), .slice An6 m cn6, .bool true, .bool false, .bool false, .int .i64 (i : Int), .slice (some ad) ls.length c, .int .i64 (ls.length : Int), .bool true, u90, u91, sel (l 0) (.slice (some adw) ls.length cw) (u92), sel (l 1) (.int .i64 (i : Int)) (u93), sel (l 2) (.pointer (some bw)) (u94), sel (l 3) (.pointer (some ⟨bw.block, bw.off + 5, none⟩)) (u95), sel (l 4) (.pointer (some ⟨bw.block, bw.off + 6, none⟩)) (u96), sel (l 5) (.slice Bw6 m dw6) (u97), sel (l 6) (.int .i64 (m : Int)) (u98), sel (l 7) (ptrT ta) (u99), sel (l 8) (.int .i64 (m : Int)) (u100), sel (l 9) (.bool false) (u101), sel (l 10) (.bool false) (u102), sel (l 11) (.slice (some adn) ls.length cn) (u103), sel (l 12) (.int .i64 (i : Int)) (u104), sel (l 13) (.pointer (some bn)) (u105), sel (l 14) (.pointer (some ⟨bn.block, bn.off + 5, none⟩)) (u106), sel (l 15) (.pointer (some ⟨bn.block, bn.off + 6, none⟩)) (u107), sel (l 16) (.slice Bn6 m dn6) (u108), sel (l 17) (.int .i64 (m : Int)) (u109), sel (l 18) (ptrT ta) (u110), sel (l 19) (.int .i64 (m : Int)) (u111), sel (l 20) (.bool false) (u112), sel (l 21) (.bool false) (u113), sel (l 22) (.bool false) (u114), sel (l 23) (.int .i64 (i : Int)) (u115), sel (l 24) (.int .i64 (p : Int)) (u116), sel (l 25) (.bool false) (u117), sel (l 26) (.bool false) (u118), sel (l 27) (undef) (u119), sel (l 28) (undef) (u120), sel (l 29) (undef) (u121), sel (l 30) (undef) (u122), sel (l 31) (undef) (u123), sel (l 32) (undef) (u124), sel (l 33) (undef) (u125), sel (l 34) (undef) (u126), sel (l 35) (undef) (u127), sel (l 36) (undef) (u128), sel (l 37) (.bool false) (u129), sel (l 38) (.bool false) (u130), u131, u132, u133, u134, u135, u136, u137, u138, u139, u140, u141, u142, u143, u144, u145, u146, u147, u148, u149, u150, u151, u152, u153, u154, u155, u156, u157, u158, u159, u160, u161, u162, u163, u164, u165, u166, u167, u168, u169], defers := [] } : Act) ∧ Below w13.heap.size w13 W) 39 rfl rfl (by kernel_rfl) ?h0 ?hend ?hstep
       case h0 => exact ⟨rfl, HSE2.out⟩
       case hstep =>
        refine rg_cons (rg_cons (rg_cons (rg_cons (rg_cons (rg_cons (rg_cons (rg_cons (rg_cons (rg_cons (rg_cons (rg_cons (rg_cons (rg_cons (rg_cons (rg_cons (rg_cons (rg_cons (rg_cons (rg_cons (rg_cons (rg_cons (rg_cons (rg_cons (rg_cons (rg_cons (rg_cons (rg_cons (rg_cons (rg_cons (rg_cons (rg_cons (rg_cons (rg_cons (rg_cons (rg_cons (rg_cons (rg_cons (rg_cons (rg_nil) ?s0) ?s1) ?s2) ?s3) ?s4) ?s5) ?s6) ?s7) ?s8) ?s9) ?s10) ?s11) ?s12) ?s13) ?s14) ?s15) ?s16) ?s17) ?s18) ?s19) ?s20) ?s21) ?s22) ?s23) ?s24) ?s25) ?s26) ?s27) ?s28) ?s29) ?s30) ?s31) ?s32) ?s33) ?s34) ?s35) ?s36) ?s37) ?s38
        case s0 =>
         refine rg_step rfl ?_
         rintro l a W ⟨rfl, hI⟩ hl hd
         clear hd
         refine rg_val (v := .slice (some adw) ls.length cw) (w' := W) rfl (by go_simp) ?_
         refine ⟨?_, ?_⟩
         ·
          simp only [Act.put, List.setIfInBounds_toArray, List.set_cons_zero, List.set_cons_succ]; rfl
         ·
          exact hI
        case s1 =>
         refine rg_step rfl ?_
         rintro l a W ⟨rfl, hI⟩ hl hd
         clear hd
         refine rg_val (v := .int .i64 (i : Int)) (w' := W) rfl (by go_simp) ?_
         refine ⟨?_, ?_⟩
         ·
          simp only [Act.put, List.setIfInBounds_toArray, List.set_cons_zero, List.set_cons_succ]; rfl
         ·
          exact hI
        case s2 =>
         refine rg_step rfl ?_
         rintro l a W ⟨rfl, hI⟩ hl hd
         have d0 := hd 0 (by decide)
         have d1 := hd 1 (by decide)
         clear hd
         refine rg_val (v := .pointer (some bw)) (w' := W) rfl (by go_simp; try rfl) ?_
         refine ⟨?_, ?_⟩
         ·
          simp only [Act.put, List.setIfInBounds_toArray, List.set_cons_zero, List.set_cons_succ]; rfl
         ·
          exact hI
        case s3 =>
         refine rg_step rfl ?_
         rintro l a W ⟨rfl, hI⟩ hl hd
         have d2 := hd 2 (by decide)
         clear hd
         refine rg_val (v := .pointer (some ⟨bw.block, bw.off + 5, none⟩)) (w' := W) rfl (by go_simp) ?_
         refine ⟨?_, ?_⟩
         ·
          simp only [Act.put, List.setIfInBounds_toArray, List.set_cons_zero, List.set_cons_succ]; rfl
         ·
          exact hI
        case s4 =>
         refine rg_step rfl ?_
         rintro l a W ⟨rfl, hI⟩ hl hd
         have d3 := hd 3 (by decide)
         clear hd
         refine rg_val (v := .pointer (some ⟨bw.block, bw.off + 6, none⟩)) (w' := W) rfl (by go_simp) ?_
         refine ⟨?_, ?_⟩
         ·
          simp only [Act.put, List.setIfInBounds_toArray, List.set_cons_zero, List.set_cons_succ]; rfl
         ·
          exact hI
        case s5 =>
         refine rg_step rfl ?_
         rintro l a W ⟨rfl, hI⟩ hl hd
         have d4 := hd 4 (by decide)
         clear hd
         obtain ⟨⟨y0, y1, y2, y3, y4⟩, y6, -⟩ := HCW2.out W hI
         refine rg_val (v := .slice Bw6 m dw6) (w' := W) rfl (by go_simp) ?_
         refine ⟨?_, ?_⟩
         ·
          simp only [Act.put, List.setIfInBounds_toArray, List.set_cons_zero, List.set_cons_succ]; rfl
         ·
          exact hI
        case s6 =>
         refine rg_step rfl ?_
         rintro l a W ⟨rfl, hI⟩ hl hd
         have d5 := hd 5 (by decide)
         clear hd
         refine rg_val (v := .int .i64 (m : Int)) (w' := W) rfl (by go_simp) ?_
         refine ⟨?_, ?_⟩
         ·
          simp only [Act.put, List.setIfInBounds_toArray, List.set_cons_zero, List.set_cons_succ]; rfl
         ·
          exact hI
        case s7 =>
         refine rg_step rfl ?_
         rintro l a W ⟨rfl, hI⟩ hl hd
         clear hd
         refine rg_val (v := ptrT ta) (w' := W) rfl (by go_simp) ?_
         refine ⟨?_, ?_⟩
         ·
          simp only [Act.put, List.setIfInBounds_toArray, List.set_cons_zero, List.set_cons_succ]; rfl
         ·
          exact hI
        case s8 =>
         refine rg_step rfl ?_
         rintro l a W ⟨rfl, hI⟩ hl hd
         have d7 := hd 7 (by decide)
         clear hd
         refine rg_call rfl (by go_simp; exact ⟨rfl, rfl⟩) ?_
         refine (HHC.out W hI).mono ?_
         rintro x W' ⟨rfl, hb⟩
         refine ⟨_, rfl, ?_, ?_⟩
         ·
          simp only [Act.put, List.setIfInBounds_toArray, List.set_cons_zero, List.set_cons_succ]; rfl
         ·
          exact hI.trans (hb.mono hI.size)
        case s9 =>
         refine rg_step rfl ?_
         rintro l a W ⟨rfl, hI⟩ hl hd
         have d6 := hd 6 (by decide)
         have d8 := hd 8 (by decide)
         clear hd
         refine rg_val (v := .bool false) (w' := W) rfl (by go_simp) ?_
         refine ⟨?_, ?_⟩
         ·
          simp only [Act.put, List.setIfInBounds_toArray, List.set_cons_zero, List.set_cons_succ]; rfl
         ·
          exact hI
        case s10 =>
         refine rg_step rfl ?_
         rintro l a W ⟨rfl, hI⟩ hl hd
         have d9 := hd 9 (by decide)
         clear hd
         refine rg_val (v := .bool false) (w' := W) rfl (by go_simp) ?_
         refine ⟨?_, ?_⟩
         ·
          simp only [Act.put, List.setIfInBounds_toArray, List.set_cons_zero, List.set_cons_succ]; rfl
         ·
          exact hI
        case s11 =>
         refine rg_step rfl ?_
         rintro l a W ⟨rfl, hI⟩ hl hd
         have d10 := hd 10 (by decide)
         clear hd
         refine rg_val (v := .slice (some adn) ls.length cn) (w' := W) (by simp only [d10, sel_true]; rfl) (by go_simp) ?_
         refine ⟨?_, ?_⟩
         ·
          simp only [Act.put, List.setIfInBounds_toArray, List.set_cons_zero, List.set_cons_succ]; rfl
         ·
          exact hI
        case s12 =>
         refine rg_step rfl ?_
         rintro l a W ⟨rfl, hI⟩ hl hd
         have d10 := hd 10 (by decide)
         clear hd
         refine rg_val (v := .int .i64 (i : Int)) (w' := W) (by simp only [d10, sel_true]; rfl) (by go_simp) ?_
         refine ⟨?_, ?_⟩
         ·
          simp only [Act.put, List.setIfInBounds_toArray, List.set_cons_zero, List.set_cons_succ]; rfl
         ·
          exact hI
        case s13 =>
         refine rg_step rfl ?_
         rintro l a W ⟨rfl, hI⟩ hl hd
         have d10 := hd 10 (by decide)
         have d11 := hd 11 (by decide)
         have d12 := hd 12 (by decide)
         clear hd
         refine rg_val (v := .pointer (some bn)) (w' := W) (by simp only [d10, sel_true]; rfl) (by go_simp; try rfl) ?_
         refine ⟨?_, ?_⟩
         ·
          simp only [Act.put, List.setIfInBounds_toArray, List.set_cons_zero, List.set_cons_succ]; rfl
         ·
          exact hI
        case s14 =>
         refine rg_step rfl ?_
         rintro l a W ⟨rfl, hI⟩ hl hd
         have d10 := hd 10 (by decide)
         have d13 := hd 13 (by decide)
         clear hd
         refine rg_val (v := .pointer (some ⟨bn.block, bn.off + 5, none⟩)) (w' := W) (by simp only [d10, sel_true]; rfl) (by go_simp) ?_
         refine ⟨?_, ?_⟩
         ·
          simp only [Act.put, List.setIfInBounds_toArray, List.set_cons_zero, List.set_cons_succ]; rfl
         ·
          exact hI
        case s15 =>
         refine rg_step rfl ?_
         rintro l a W ⟨rfl, hI⟩ hl hd
         have d10 := hd 10 (by decide)
         have d14 := hd 14 (by decide)
         clear hd
         refine rg_val (v := .pointer (some ⟨bn.block, bn.off + 6, none⟩)) (w' := W) (by simp only [d10, sel_true]; rfl) (by go_simp) ?_
         refine ⟨?_, ?_⟩
         ·
          simp only [Act.put, List.setIfInBounds_toArray, List.set_cons_zero, List.set_cons_succ]; rfl
         ·
          exact hI
        case s16 =>
         refine rg_step rfl ?_
         rintro l a W ⟨rfl, hI⟩ hl hd
         have d10 := hd 10 (by decide)
         have d15 := hd 15 (by decide)
         clear hd
         obtain ⟨⟨y0, y1, y2, y3, y4⟩, y6, -⟩ := HCN2.out W hI
         refine rg_val (v := .slice Bn6 m dn6) (w' := W) (by simp only [d10, sel_true]; rfl) (by go_simp) ?_
         refine ⟨?_, ?_⟩
         ·
          simp only [Act.put, List.setIfInBounds_toArray, List.set_cons_zero, List.set_cons_succ]; rfl
         ·
          exact hI
        case s17 =>
         refine rg_step rfl ?_
         rintro l a W ⟨rfl, hI⟩ hl hd
         have d10 := hd 10 (by decide)
         have d16 := hd 16 (by decide)
         clear hd
         refine rg_val (v := .int .i64 (m : Int)) (w' := W) (by simp only [d10, sel_true]; rfl) (by go_simp) ?_
         refine ⟨?_, ?_⟩
         ·
          simp only [Act.put, List.setIfInBounds_toArray, List.set_cons_zero, List.set_cons_succ]; rfl
         ·
          exact hI
        case s18 =>
         refine rg_step rfl ?_
         rintro l a W ⟨rfl, hI⟩ hl hd
         have d10 := hd 10 (by decide)
         clear hd
         refine rg_val (v := ptrT ta) (w' := W) (by simp only [d10, sel_true]; rfl) (by go_simp) ?_
         refine ⟨?_, ?_⟩
         ·
          simp only [Act.put, List.setIfInBounds_toArray, List.set_cons_zero, List.set_cons_succ]; rfl
         ·
          exact hI
        case s19 =>
         refine rg_step rfl ?_
         rintro l a W ⟨rfl, hI⟩ hl hd
         have d10 := hd 10 (by decide)
         have d18 := hd 18 (by decide)
         clear hd
         refine rg_call (by simp only [d10, sel_true]; rfl) (by go_simp; exact ⟨rfl, rfl⟩) ?_
         refine (HHC.out W hI).mono ?_
         rintro x W' ⟨rfl, hb⟩
         refine ⟨_, rfl, ?_, ?_⟩
         ·
          simp only [Act.put, List.setIfInBounds_toArray, List.set_cons_zero, List.set_cons_succ]; rfl
         ·
          exact hI.trans (hb.mono hI.size)
        case s20 =>
         refine rg_step rfl ?_
         rintro l a W ⟨rfl, hI⟩ hl hd
         have d10 := hd 10 (by decide)
         have d17 := hd 17 (by decide)
         have d19 := hd 19 (by decide)
         clear hd
         refine rg_val (v := .bool false) (w' := W) (by simp only [d10, sel_true]; rfl) (by go_simp) ?_
         refine ⟨?_, ?_⟩
         ·
          simp only [Act.put, List.setIfInBounds_toArray, List.set_cons_zero, List.set_cons_succ]; rfl
         ·
          exact hI
        case s21 =>
         refine rg_step rfl ?_
         rintro l a W ⟨rfl, hI⟩ hl hd
         have d10 := hd 10 (by decide)
         have d20 := hd 20 (by decide)
         clear hd
         refine rg_val (v := .bool false) (w' := W) rfl (by go_simp) ?_
         refine ⟨?_, ?_⟩
         ·
          simp only [Act.put, List.setIfInBounds_toArray, List.set_cons_zero, List.set_cons_succ]; rfl
         ·
          exact hI
        case s22 =>
         refine rg_step rfl ?_
         rintro l a W ⟨rfl, hI⟩ hl hd
         have d21 := hd 21 (by decide)
         clear hd
         refine rg_val (v := .bool false) (w' := W) rfl (by go_simp) ?_
         refine ⟨?_, ?_⟩
         ·
          simp only [Act.put, List.setIfInBounds_toArray, List.set_cons_zero, List.set_cons_succ]; rfl
         ·
          exact hI
        case s23 =>
         refine rg_step rfl ?_
         rintro l a W ⟨rfl, hI⟩ hl hd
         have d22 := hd 22 (by decide)
         clear hd
         refine rg_val (v := .int .i64 (i : Int)) (w' := W) (by simp only [d22, sel_true]; rfl) (by go_simp) ?_
         refine ⟨?_, ?_⟩
         ·
          simp only [Act.put, List.setIfInBounds_toArray, List.set_cons_zero, List.set_cons_succ]; rfl
         ·
          exact hI
        case s24 =>
         refine rg_step rfl ?_
         rintro l a W ⟨rfl, hI⟩ hl hd
         have d22 := hd 22 (by decide)
         clear hd
         refine rg_val (v := .int .i64 (p : Int)) (w' := W) (by simp only [d22, sel_true]; rfl) (by go_simp) ?_
         refine ⟨?_, ?_⟩
         ·
          simp only [Act.put, List.setIfInBounds_toArray, List.set_cons_zero, List.set_cons_succ]; rfl
         ·
          exact hI
        case s25 =>
         refine rg_step rfl ?_
         rintro l a W ⟨rfl, hI⟩ hl hd
         have d22 := hd 22 (by decide)
         have d23 := hd 23 (by decide)
         have d24 := hd 24 (by decide)
         clear hd
         refine rg_val (v := .bool false) (w' := W) (by simp only [d22, sel_true]; rfl) (by go_simp; try exact HIP.out) ?_
         refine ⟨?_, ?_⟩
         ·
          simp only [Act.put, List.setIfInBounds_toArray, List.set_cons_zero, List.set_cons_succ]; rfl
         ·
          exact hI
        case s26 =>
         refine rg_step rfl ?_
         rintro l a W ⟨rfl, hI⟩ hl hd
         have d22 := hd 22 (by decide)
         have d25 := hd 25 (by decide)
         clear hd
         refine rg_val (v := .bool false) (w' := W) (by simp only [d22, sel_true]; rfl) (by go_simp) ?_
         refine ⟨?_, ?_⟩
         ·
          simp only [Act.put, List.setIfInBounds_toArray, List.set_cons_zero, List.set_cons_succ]; rfl
         ·
          exact hI
        case s27 =>
         refine rg_step rfl ?_
         rintro l a W ⟨rfl, hI⟩ hl hd
         have d26 := hd 26 (by decide)
         clear hd
         refine rg_not (by simp only [d26, sel_true]; rfl) ?_
         refine ⟨?_, ?_⟩
         ·
          simp only [Act.put, List.setIfInBounds_toArray, List.set_cons_zero, List.set_cons_succ]; rfl
         ·
          exact hI
        case s28 =>
         refine rg_step rfl ?_
         rintro l a W ⟨rfl, hI⟩ hl hd
         have d26 := hd 26 (by decide)
         clear hd
         refine rg_not (by simp only [d26, sel_true]; rfl) ?_
         refine ⟨?_, ?_⟩
         ·
          simp only [Act.put, List.setIfInBounds_toArray, List.set_cons_zero, List.set_cons_succ]; rfl
         ·
          exact hI
        case s29 =>
         refine rg_step rfl ?_
         rintro l a W ⟨rfl, hI⟩ hl hd
         have d26 := hd 26 (by decide)
         clear hd
         refine rg_not (by simp only [d26, sel_true]; rfl) ?_
         refine ⟨?_, ?_⟩
         ·
          simp only [Act.put, List.setIfInBounds_toArray, List.set_cons_zero, List.set_cons_succ]; rfl
         ·
          exact hI
        case s30 =>
         refine rg_step rfl ?_
         rintro l a W ⟨rfl, hI⟩ hl hd
         have d26 := hd 26 (by decide)
         clear hd
         refine rg_not (by simp only [d26, sel_true]; rfl) ?_
         refine ⟨?_, ?_⟩
         ·
          simp only [Act.put, List.setIfInBounds_toArray, List.set_cons_zero, List.set_cons_succ]; rfl
         ·
          exact hI
        case s31 =>
         refine rg_step rfl ?_
         rintro l a W ⟨rfl, hI⟩ hl hd
         have d26 := hd 26 (by decide)
         clear hd
         refine rg_not (by simp only [d26, sel_true]; rfl) ?_
         refine ⟨?_, ?_⟩
         ·
          simp only [Act.put, List.setIfInBounds_toArray, List.set_cons_zero, List.set_cons_succ]; rfl
         ·
          exact hI
        case s32 =>
         refine rg_step rfl ?_
         rintro l a W ⟨rfl, hI⟩ hl hd
         have d26 := hd 26 (by decide)
         clear hd
         refine rg_not (by simp only [d26, sel_true]; rfl) ?_
         refine ⟨?_, ?_⟩
         ·
          simp only [Act.put, List.setIfInBounds_toArray, List.set_cons_zero, List.set_cons_succ]; rfl
         ·
          exact hI
        case s33 =>
         refine rg_step rfl ?_
         rintro l a W ⟨rfl, hI⟩ hl hd
         have d26 := hd 26 (by decide)
         clear hd
         refine rg_not (by simp only [d26, sel_true]; rfl) ?_
         refine ⟨?_, ?_⟩
         ·
          simp only [Act.put, List.setIfInBounds_toArray, List.set_cons_zero, List.set_cons_succ]; rfl
         ·
          exact hI
        case s34 =>
         refine rg_step rfl ?_
         rintro l a W ⟨rfl, hI⟩ hl hd
         have d26 := hd 26 (by decide)
         clear hd
         refine rg_not (by simp only [d26, sel_true]; rfl) ?_
         refine ⟨?_, ?_⟩
         ·
          simp only [Act.put, List.setIfInBounds_toArray, List.set_cons_zero, List.set_cons_succ]; rfl
         ·
          exact hI
        case s35 =>
         refine rg_step rfl ?_
         rintro l a W ⟨rfl, hI⟩ hl hd
         have d26 := hd 26 (by decide)
         clear hd
         refine rg_not (by simp only [d26, sel_true]; rfl) ?_
         refine ⟨?_, ?_⟩
         ·
          simp only [Act.put, List.setIfInBounds_toArray, List.set_cons_zero, List.set_cons_succ]; rfl
         ·
          exact hI
        case s36 =>
         refine rg_step rfl ?_
         rintro l a W ⟨rfl, hI⟩ hl hd
         have d26 := hd 26 (by decide)
         clear hd
         refine rg_not (by simp only [d26, sel_true]; rfl) ?_
         refine ⟨?_, ?_⟩
         ·
          simp only [Act.put, List.setIfInBounds_toArray, List.set_cons_zero, List.set_cons_succ]; rfl
         ·
          exact hI
        case s37 =>
         refine rg_step rfl ?_
         rintro l a W ⟨rfl, hI⟩ hl hd
         have d22 := hd 22 (by decide)
         have d26 := hd 26 (by decide)
         have d36 := hd 36 (by decide)
         clear hd
         refine rg_val (v := .bool false) (w' := W) (by simp only [d22, sel_true]; rfl) (by go_simp) ?_
         refine ⟨?_, ?_⟩
         ·
          simp only [Act.put, List.setIfInBounds_toArray, List.set_cons_zero, List.set_cons_succ]; rfl
         ·
          exact hI
        case s38 =>
         refine rg_step rfl ?_
         rintro l a W ⟨rfl, hI⟩ hl hd
         have d22 := hd 22 (by decide)
         have d37 := hd 37 (by decide)
         clear hd
         refine rg_val (v := .bool false) (w' := W) rfl (by go_simp) ?_
         refine ⟨?_, ?_⟩
         ·
          simp only [Act.put, List.setIfInBounds_toArray, List.set_cons_zero, List.set_cons_succ]; rfl
         ·
          exact hI
       case hend =>
        rintro l a W ⟨rfl, hI⟩ hall
        have e0 := hall 0 (by decide)
        have e1 := hall 1 (by decide)
        have e2 := hall 2 (by decide)
        have e3 := hall 3 (by decide)
        have e4 := hall 4 (by decide)
        have e5 := hall 5 (by decide)
        have e6 := hall 6 (by decide)
        have e7 := hall 7 (by decide)
        have e8 := hall 8 (by decide)
        have e9 := hall 9 (by decide)
        have e10 := hall 10 (by decide)
        have e11 := hall 11 (by decide)
        have e12 := hall 12 (by decide)
        have e13 := hall 13 (by decide)
        have e14 := hall 14 (by decide)
        have e15 := hall 15 (by decide)
        have e16 := hall 16 (by decide)
        have e17 := hall 17 (by decide)
        have e18 := hall 18 (by decide)
        have e19 := hall 19 (by decide)
        have e20 := hall 20 (by decide)
        have e21 := hall 21 (by decide)
        have e22 := hall 22 (by decide)
        have e23 := hall 23 (by decide)
        have e24 := hall 24 (by decide)
        have e25 := hall 25 (by decide)
        have e26 := hall 26 (by decide)
        have e27 := hall 27 (by decide)
        have e28 := hall 28 (by decide)
        have e29 := hall 29 (by decide)
        have e30 := hall 30 (by decide)
        have e31 := hall 31 (by decide)
        have e32 := hall 32 (by decide)
        have e33 := hall 33 (by decide)
        have e34 := hall 34 (by decide)
        have e35 := hall 35 (by decide)
        have e36 := hall 36 (by decide)
        have e37 := hall 37 (by decide)
        have e38 := hall 38 (by decide)
        clear hall
        simp only [e0, e1, e2, e3, e4, e5, e6, e7, e8, e9, e10, e11, e12, e13, e14, e15, e16, e17, e18, e19, e20, e21, e22, e23, e24, e25, e26, e27, e28, e29, e30, e31, e32, e33, e34, e35, e36, e37, e38, sel_true]
        clear e0 e1 e2 e3 e4 e5 e6 e7 e8 e9 e10 e11 e12 e13 e14 e15 e16 e17 e18 e19 e20 e21 e22 e23 e24 e25 e26 e27 e28 e29 e30 e31 e32 e33 e34 e35 e36 e37 e38
        have HBI := aM' hI
        clear hI
        go_wp2
        go_loopw [15, 16] (fun v15 v16 wr => ∃ o n : Nat, v16 = .int .i64 (n : Int) ∧ v15 = .int .i64 (o : Int) ∧ Aside0 (n ≤ m) ∧ Aside0 (o = 0 ∨ (o = 1 ∧ ∃ j, j < n ∧ besN (i / 2 ^ j) = p / 2 ^ j)) ∧ Aside0 (Below w13.heap.size w13 wr)) (fun _ v16 _ => m - (intOf v16).toNat)
        case atStart => exact ⟨0, 0, rfl, rfl, ⟨Nat.zero_le _⟩, ⟨.inl rfl⟩, HBI⟩
        case round =>
         obtain ⟨o, n, rfl, rfl, HN, HO, HBK⟩ := hrel
         have hn6 : n ≤ 6 := by have := HN.out; have := HM6.out; omega
         have ho1 : o ≤ 1 := by rcases HO.out with h | h <;> omega
         go_wp2_with fail
         refine ((HO13.out.keep HBK.out).heightC HKK2.out HLS.out HMS.out).mono ?_
         rintro e _ ⟨rfl, rfl⟩
         by_cases hnm : n < m
         ·
          have d1 : decide ((n : Int) < (m : Int)) = true := decide_eq_true (by omega)
          have d2 : decide (n < m) = true := decide_eq_true hnm
          have HNM := aM' hnm
          obtain ⟨-, w6c, hkw⟩ := HCW2.out _ HBK.out
          obtain ⟨-, n6c, hkn⟩ := HCN2.out _ HBK.out
          obtain ⟨aw3, ew3, p0, p1, p2⟩ := at_TNode hkw (n : Int) (by omega) (by omega)
          obtain ⟨an3, en3, q0, q1, q2⟩ := at_TNode hkn (n : Int) (by omega) (by omega)
          subst ew3 en3
          obtain ⟨s, hs⟩ : ∃ s, s = (besL wd ls i m).getD n nodeZ := ⟨_, rfl⟩
          obtain ⟨t, ht⟩ : ∃ t, t = (besL wd k i m).getD n nodeZ := ⟨_, rfl⟩
          have e1 : rd_TNode (besL wd ls i m) (n : Int) = s := by rw [hs, rd_TNode, Int.toNat_natCast]; rfl
          have e2 : rd_TNode (besL wd k i m) (n : Int) = t := by rw [ht, rd_TNode, Int.toNat_natCast]; rfl
          rw [e1, Int.toNat_natCast] at p0 p1 p2
          rw [e2, Int.toNat_natCast] at q0 q1 q2
          obtain ⟨pw, hpw⟩ : ∃ z, z = aw3.add (n * 3) := ⟨_, rfl⟩
          obtain ⟨pn, hpn⟩ : ∃ z, z = an3.add (n * 3) := ⟨_, rfl⟩
          rw [← hpw] at p0 p1 p2
          rw [← hpn] at q0 q1 q2
          have hpw2 := hpw.symm
          have hpn2 := hpn.symm
          have hbit := bne_node s t
          obtain ⟨bq, hbq⟩ : ∃ b, b = eqN s t := ⟨_, rfl⟩
          rw [← hbq] at hbit
          have HBE := aM' (show bq = false → besN (i / 2 ^ n) = p / 2 ^ n from fun h => change_at (wd := wd) (x := x) HKK.out HMM.out HPL.out HNM.out (by rw [← HKE.out, ← hs, ← ht, ← hbq]; exact h))
          clear hs ht e1 e2 hpw hpn hbq hkw hkn
          have hnmi : (n : Int) < (m : Int) := by omega
          cases bq with
          | true =>
           have kq : (!(s.f0.toList == t.f0.toList) || (!(s.f1.f0 == t.f1.f0) || !(s.f1.f1 == t.f1.f1))) = false := hbit
           clear hbit
           go_upto_region 24 with (fail)
           go_quiet (fail)
           have HBQ := aM' (pw_below_drewN HBK.out nq)
           have HO2 := aM' (show o = 0 ∨ (o = 1 ∧ ∃ j, j < n + 1 ∧ besN (i / 2 ^ j) = p / 2 ^ j) from HO.out.imp id (fun h => ⟨h.1, h.2.imp fun j hj => ⟨by omega, hj.2⟩⟩))
           clear kq p0 p1 p2 q0 q1 q2 w6c n6c
           go_wp2
           go_roundw
           case rel => exact ⟨o, n + 1, by go_num, rfl, ⟨by have := HNM.out; omega⟩, HO2, HBQ⟩
           case measure => simp [intOf]; have := HNM.out; omega
          | false =>
           have kq : (!(s.f0.toList == t.f0.toList) || (!(s.f1.f0 == t.f1.f0) || !(s.f1.f1 == t.f1.f1))) = true := hbit
           clear hbit
           have hbe := HBE.out rfl
           obtain rfl : o = 0 := by
            rcases HO.out with h | ⟨-, j, hj, h⟩
            ·
             exact h
            ·
             exact absurd hbe (bes_once hj h)
           obtain ⟨qi, hqi⟩ : ∃ q, q = i / 2 ^ n := ⟨_, rfl⟩
           obtain ⟨qp, hqp⟩ : ∃ q, q = p / 2 ^ n := ⟨_, rfl⟩
           have hsi : (i : Int) / 2 ^ n = (qi : Int) := by rw [hqi]; simp
           have hsp : (p : Int) / 2 ^ n = (qp : Int) := by rw [hqp]; simp
           have hwn : IntKind.u64.wrap (n : Int) = (n : Int) := wrapu64_id (by omega) (by omega)
           have hxo : Go.bits .xor .i64 (qi : Int) 1 = (qp : Int) := by
            rw [bits_bes_i qi (by rw [hqi]; have := Nat.div_le_self i (2 ^ n); have := HLT.out; have := H70.out; omega), hqi, hqp, hbe]
           have HO2 := aM' hbe
           clear hbe hqi hqp
           go_upto_region 24 with (fail)
           go_quiet (fail)
           have HBQ := aM' (pw_below_drewN HBK.out nq)
           clear kq p0 p1 p2 q0 q1 q2 w6c n6c
           go_wp2
           go_roundw
           case rel => exact ⟨1, n + 1, by go_num, rfl, ⟨by have := HNM.out; omega⟩, ⟨.inr ⟨rfl, n, by omega, HO2.out⟩⟩, HBQ⟩
           case measure => simp [intOf]; have := HNM.out; omega
         ·
          have d1 : decide ((n : Int) < (m : Int)) = false := decide_eq_false (by omega)
          have d2 : decide (n < m) = false := decide_eq_false hnm
          have d3 : decide ((1 : Int) < (o : Int)) = false := decide_eq_false (by omega)
          have d4 : decide (1 < o) = false := decide_eq_false (by omega)
          have hi70 : i < 70 := by have := HLT.out; have := H70.out; omega
          go_wp2
          go_roundw
          case rel => exact ⟨i + 1, by go_num, ⟨by have := HLT.out; omega⟩, HBK⟩
          case measure => simp [intOf]; have := HLT.out; omega
      ·
       have HIP := aM' (show ¬ (i : Int) = (p : Int) by omega)
       have kb : ((i : Int) == (p : Int)) = false := by simp; omega
       have hzy := HZY.out hip
       subst hzy
       clear hip
       go_upto_region 18 with (fail)
       refine region_inv (fun l a W => a = ({ tmps := #[.int .i64 wd, .slice (some ad) ls.length c, .int .u16 pos, leafV x, undef, undef, undef, .pointer (some ⟨w.heap.size, 0, none⟩), u8, ptrT ta, .int .i64 0, .slice (some adw) ls.length cw, .int .i64 (p : Int), .slice (some adn) ls.length cn, .int .i64 (i : Int), u15, u16, .bool true, .bool false, .slice (some ad) ls.length c, .bool false, .bool false, .agg #[.bool x.f0, .string x.f1, .string x.f2, .int .u64 x.f3.f0, .int .u64 x.f3.f1], .slice (some ⟨W2.heap.size, 0, none⟩) 1 1, .bool false, .bool false, .tuple #[ptrT ta, .int .i64 0], .int .i64 wd, .slice (some ad) ls.length c, .tuple #[ptrT ta, .int .i64 0], ptrT ta, .int .i64 0, .int .i64 0, .bool false, ptrT ta, .slice (some adw) ls.length cw, .int .u16 pos, .int .i64 pos, .slice (some ad) ls.length c, .int .i64 (ls.length : Int), .int .i64 (p : Int), ptrT ta, .int .i64 (p : Int), .int .u64 (p : Int), .agg #[.bool x.f0, .string x.f1, .string x.f2, .int .u64 x.f3.f0, .int .u64 x.f3.f1], .int .i64 0, .bool false, ptrT ta, .slice (some adn) ls.length cn, .slice (some adw) ls.length cw, .int .i64 (ls.length : Int), .slice (some ad) ls.length c, .int .i64 (ls.length : Int), .bool false, .bool false, .slice (some adn) ls.length cn, .int .i64 (ls.length : Int), .slice (some ad) ls.length c, .int .i64 (ls.length : Int), .bool false, .bool false, .bool false, .slice (some adn) ls.length cn, .int .i64 (p : Int), .pointer (some an), .pointer (some an), .agg #[.bool x.f0, .string x.f1, .string x.f2, .int .u64 x.f3.f0, .int .u64 x.f3.f1], .agg #[.bool x.f0, .string x.f1, .string x.f2, .int .u64 x.f3.f0, .int .u64 x.f3.f1], .bool false, .bool false, .bool false, .slice (some adw) ls.length cw, .int .i64 (p : Int), .pointer (some aw), .pointer (some ⟨aw.block, aw.off + 5, none⟩), .pointer (some ⟨aw.block, aw.off + 5 + 1, none⟩), .slice Aw6 m cw6, .slice (some adn) ls.length cn, .int .i64 (p : Int), .pointer (some an), .pointer (some ⟨an.block, an.off + 5, none⟩), .pointer (some ⟨an.block, an.off + 5 + 1, none⟩), .slice An6 m cn6, .bool true, .bool false, .bool false, .int .i64 (i : Int), .slice (some ad) ls.length c, .int .i64 (ls.length : Int), .bool true, u90, u91, sel (l 0) (.slice (some adw) ls.length cw) (u92), sel (l 1) (.int .i64 (i : Int)) (u93), sel (l 2) (.pointer (some bw)) (u94), sel (l 3) (.pointer (some ⟨bw.block, bw.off + 5, none⟩)) (u95), sel (l 4) (.pointer (some ⟨bw.block, bw.off + 6, none⟩)) (u96), sel (l 5) (.slice Bw6 m dw6) (u97), sel (l 6) (.int .i64 (m : Int)) (u98), sel (l 7) (ptrT ta) (u99), sel (l 8) (.int .i64 (m : Int)) (u100), sel (l 9) (.bool false) (u101), sel (l 10) (.bool false) (u102), sel (l 11) (.slice (some adn) ls.length cn) (u103), sel (l 12) (.int .i64 (i : Int)) (u104), sel (l 13) (.pointer (some bn)) (u105), sel (l 14) (.pointer (some ⟨bn.block, bn.off + 5, none⟩)) (u106), sel (l 15) (.pointer (some ⟨bn.block, bn.off + 6, none⟩)) (u107), sel (l 16) (.slice Bn6 m dn6) (u108), sel (l 17) (.int .i64 (m : Int)) (u109), sel (l 18) (ptrT ta) (u110), sel (l 19) (.int .i64 (m : Int)) (u111), sel (l 20) (.bool false) (u112), sel (l 21) (.bool false) (u113), sel (l 22) (.bool false) (u114), sel (l 23) (.int .i64 (i : Int)) (u115), sel (l 24) (.int .i64 (p : Int)) (u116), sel (l 25) (.bool true) (u117), sel (l 26) (.bool true) (u118), sel (l 27) (.slice (some adn) ls.length cn) (u119), sel (l 28) (.int .i64 (i : Int)) (u120), sel (l 29) (.pointer (some bn)) (u121), sel (l 30) (.pointer (some bn)) (u122), sel (l 31) (.agg #[.bool z.f0, .string z.f1, .string z.f2, .int .u64 z.f3.f0, .int .u64 z.f3.f1]) (u123), sel (l 32) (.slice (some ad) ls.length c) (u124), sel (l 33) (.int .i64 (i : Int)) (u125), sel (l 34) (.pointer (some bl)) (u126), sel (l 35) (.agg #[.bool z.f0, .string z.f1, .string z.f2, .int .u64 z.f3.f0, .int .u64 z.f3.f1]) (u127), sel (l 36) (.bool false) (u128), sel (l 37) (.bool false) (u129), sel (l 38) (.bool false) (u130), u131, u132, u133, u134, u135, u136, u137, u138, u139, u140, u141, u142, u143, u144, u145, u146, u147, u148, u149, u150, u151, u152, u153, u154, u155, u156, u157, u158, u159, u160, u161, u162, u163, u164, u165, u166, u167, u168, u169], defers := [] } : Act) ∧ Below w13.heap.size w13 W) 39 rfl rfl (by kernel_rfl) ?h0 ?hend ?hstep
       case h0 => exact ⟨rfl, HSE2.out⟩
       case hstep =>
        refine rg_cons (rg_cons (rg_cons (rg_cons (rg_cons (rg_cons (rg_cons (rg_cons (rg_cons (rg_cons (rg_cons (rg_cons (rg_cons (rg_cons (rg_cons (rg_cons (rg_cons (rg_cons (rg_cons (rg_cons (rg_cons (rg_cons (rg_cons (rg_cons (rg_cons (rg_cons (rg_cons (rg_cons (rg_cons (rg_cons (rg_cons (rg_cons (rg_cons (rg_cons (rg_cons (rg_cons (rg_cons (rg_cons (rg_cons (rg_nil) ?s0) ?s1) ?s2) ?s3) ?s4) ?s5) ?s6) ?s7) ?s8) ?s9) ?s10) ?s11) ?s12) ?s13) ?s14) ?s15) ?s16) ?s17) ?s18) ?s19) ?s20) ?s21) ?s22) ?s23) ?s24) ?s25) ?s26) ?s27) ?s28) ?s29) ?s30) ?s31) ?s32) ?s33) ?s34) ?s35) ?s36) ?s37) ?s38
        case s0 =>
         refine rg_step rfl ?_
         rintro l a W ⟨rfl, hI⟩ hl hd
         clear hd
         refine rg_val (v := .slice (some adw) ls.length cw) (w' := W) rfl (by go_simp) ?_
         refine ⟨?_, ?_⟩
         ·
          simp only [Act.put, List.setIfInBounds_toArray, List.set_cons_zero, List.set_cons_succ]; rfl
         ·
          exact hI
        case s1 =>
         refine rg_step rfl ?_
         rintro l a W ⟨rfl, hI⟩ hl hd
         clear hd
         refine rg_val (v := .int .i64 (i : Int)) (w' := W) rfl (by go_simp) ?_
         refine ⟨?_, ?_⟩
         ·
          simp only [Act.put, List.setIfInBounds_toArray, List.set_cons_zero, List.set_cons_succ]; rfl
         ·
          exact hI
        case s2 =>
         refine rg_step rfl ?_
         rintro l a W ⟨rfl, hI⟩ hl hd
         have d0 := hd 0 (by decide)
         have d1 := hd 1 (by decide)
         clear hd
         refine rg_val (v := .pointer (some bw)) (w' := W) rfl (by go_simp; try rfl) ?_
         refine ⟨?_, ?_⟩
         ·
          simp only [Act.put, List.setIfInBounds_toArray, List.set_cons_zero, List.set_cons_succ]; rfl
         ·
          exact hI
        case s3 =>
         refine rg_step rfl ?_
         rintro l a W ⟨rfl, hI⟩ hl hd
         have d2 := hd 2 (by decide)
         clear hd
         refine rg_val (v := .pointer (some ⟨bw.block, bw.off + 5, none⟩)) (w' := W) rfl (by go_simp) ?_
         refine ⟨?_, ?_⟩
         ·
          simp only [Act.put, List.setIfInBounds_toArray, List.set_cons_zero, List.set_cons_succ]; rfl
         ·
          exact hI
        case s4 =>
         refine rg_step rfl ?_
         rintro l a W ⟨rfl, hI⟩ hl hd
         have d3 := hd 3 (by decide)
         clear hd
         refine rg_val (v := .pointer (some ⟨bw.block, bw.off + 6, none⟩)) (w' := W) rfl (by go_simp) ?_
         refine ⟨?_, ?_⟩
         ·
          simp only [Act.put, List.setIfInBounds_toArray, List.set_cons_zero, List.set_cons_succ]; rfl
         ·
          exact hI
        case s5 =>
         refine rg_step rfl ?_
         rintro l a W ⟨rfl, hI⟩ hl hd
         have d4 := hd 4 (by decide)
         clear hd
         obtain ⟨⟨y0, y1, y2, y3, y4⟩, y6, -⟩ := HCW2.out W hI
         refine rg_val (v := .slice Bw6 m dw6) (w' := W) rfl (by go_simp) ?_
         refine ⟨?_, ?_⟩
         ·
          simp only [Act.put, List.setIfInBounds_toArray, List.set_cons_zero, List.set_cons_succ]; rfl
         ·
          exact hI
        case s6 =>
         refine rg_step rfl ?_
         rintro l a W ⟨rfl, hI⟩ hl hd
         have d5 := hd 5 (by decide)
         clear hd
         refine rg_val (v := .int .i64 (m : Int)) (w' := W) rfl (by go_simp) ?_
         refine ⟨?_, ?_⟩
         ·
          simp only [Act.put, List.setIfInBounds_toArray, List.set_cons_zero, List.set_cons_succ]; rfl
         ·
          exact hI
        case s7 =>
         refine rg_step rfl ?_
         rintro l a W ⟨rfl, hI⟩ hl hd
         clear hd
         refine rg_val (v := ptrT ta) (w' := W) rfl (by go_simp) ?_
         refine ⟨?_, ?_⟩
         ·
          simp only [Act.put, List.setIfInBounds_toArray, List.set_cons_zero, List.set_cons_succ]; rfl
         ·
          exact hI
        case s8 =>
         refine rg_step rfl ?_
         rintro l a W ⟨rfl, hI⟩ hl hd
         have d7 := hd 7 (by decide)
         clear hd
         refine rg_call rfl (by go_simp; exact ⟨rfl, rfl⟩) ?_
         refine (HHC.out W hI).mono ?_
         rintro x W' ⟨rfl, hb⟩
         refine ⟨_, rfl, ?_, ?_⟩
         ·
          simp only [Act.put, List.setIfInBounds_toArray, List.set_cons_zero, List.set_cons_succ]; rfl
         ·
          exact hI.trans (hb.mono hI.size)
        case s9 =>
         refine rg_step rfl ?_
         rintro l a W ⟨rfl, hI⟩ hl hd
         have d6 := hd 6 (by decide)
         have d8 := hd 8 (by decide)
         clear hd
         refine rg_val (v := .bool false) (w' := W) rfl (by go_simp) ?_
         refine ⟨?_, ?_⟩
         ·
          simp only [Act.put, List.setIfInBounds_toArray, List.set_cons_zero, List.set_cons_succ]; rfl
         ·
          exact hI
        case s10 =>
         refine rg_step rfl ?_
         rintro l a W ⟨rfl, hI⟩ hl hd
         have d9 := hd 9 (by decide)
         clear hd
         refine rg_val (v := .bool false) (w' := W) rfl (by go_simp) ?_
         refine ⟨?_, ?_⟩
         ·
          simp only [Act.put, List.setIfInBounds_toArray, List.set_cons_zero, List.set_cons_succ]; rfl
         ·
          exact hI
        case s11 =>
         refine rg_step rfl ?_
         rintro l a W ⟨rfl, hI⟩ hl hd
         have d10 := hd 10 (by decide)
         clear hd
         refine rg_val (v := .slice (some adn) ls.length cn) (w' := W) (by simp only [d10, sel_true]; rfl) (by go_simp) ?_
         refine ⟨?_, ?_⟩
         ·
          simp only [Act.put, List.setIfInBounds_toArray, List.set_cons_zero, List.set_cons_succ]; rfl
         ·
          exact hI
        case s12 =>
         refine rg_step rfl ?_
         rintro l a W ⟨rfl, hI⟩ hl hd
         have d10 := hd 10 (by decide)
         clear hd
         refine rg_val (v := .int .i64 (i : Int)) (w' := W) (by simp only [d10, sel_true]; rfl) (by go_simp) ?_
         refine ⟨?_, ?_⟩
         ·
          simp only [Act.put, List.setIfInBounds_toArray, List.set_cons_zero, List.set_cons_succ]; rfl
         ·
          exact hI
        case s13 =>
         refine rg_step rfl ?_
         rintro l a W ⟨rfl, hI⟩ hl hd
         have d10 := hd 10 (by decide)
         have d11 := hd 11 (by decide)
         have d12 := hd 12 (by decide)
         clear hd
         refine rg_val (v := .pointer (some bn)) (w' := W) (by simp only [d10, sel_true]; rfl) (by go_simp; try rfl) ?_
         refine ⟨?_, ?_⟩
         ·
          simp only [Act.put, List.setIfInBounds_toArray, List.set_cons_zero, List.set_cons_succ]; rfl
         ·
          exact hI
        case s14 =>
         refine rg_step rfl ?_
         rintro l a W ⟨rfl, hI⟩ hl hd
         have d10 := hd 10 (by decide)
         have d13 := hd 13 (by decide)
         clear hd
         refine rg_val (v := .pointer (some ⟨bn.block, bn.off + 5, none⟩)) (w' := W) (by simp only [d10, sel_true]; rfl) (by go_simp) ?_
         refine ⟨?_, ?_⟩
         ·
          simp only [Act.put, List.setIfInBounds_toArray, List.set_cons_zero, List.set_cons_succ]; rfl
         ·
          exact hI
        case s15 =>
         refine rg_step rfl ?_
         rintro l a W ⟨rfl, hI⟩ hl hd
         have d10 := hd 10 (by decide)
         have d14 := hd 14 (by decide)
         clear hd
         refine rg_val (v := .pointer (some ⟨bn.block, bn.off + 6, none⟩)) (w' := W) (by simp only [d10, sel_true]; rfl) (by go_simp) ?_
         refine ⟨?_, ?_⟩
         ·
          simp only [Act.put, List.setIfInBounds_toArray, List.set_cons_zero, List.set_cons_succ]; rfl
         ·
          exact hI
        case s16 =>
         refine rg_step rfl ?_
         rintro l a W ⟨rfl, hI⟩ hl hd
         have d10 := hd 10 (by decide)
         have d15 := hd 15 (by decide)
         clear hd
         obtain ⟨⟨y0, y1, y2, y3, y4⟩, y6, -⟩ := HCN2.out W hI
         refine rg_val (v := .slice Bn6 m dn6) (w' := W) (by simp only [d10, sel_true]; rfl) (by go_simp) ?_
         refine ⟨?_, ?_⟩
         ·
          simp only [Act.put, List.setIfInBounds_toArray, List.set_cons_zero, List.set_cons_succ]; rfl
         ·
          exact hI
        case s17 =>
         refine rg_step rfl ?_
         rintro l a W ⟨rfl, hI⟩ hl hd
         have d10 := hd 10 (by decide)
         have d16 := hd 16 (by decide)
         clear hd
         refine rg_val (v := .int .i64 (m : Int)) (w' := W) (by simp only [d10, sel_true]; rfl) (by go_simp) ?_
         refine ⟨?_, ?_⟩
         ·
          simp only [Act.put, List.setIfInBounds_toArray, List.set_cons_zero, List.set_cons_succ]; rfl
         ·
          exact hI
        case s18 =>
         refine rg_step rfl ?_
         rintro l a W ⟨rfl, hI⟩ hl hd
         have d10 := hd 10 (by decide)
         clear hd
         refine rg_val (v := ptrT ta) (w' := W) (by simp only [d10, sel_true]; rfl) (by go_simp) ?_
         refine ⟨?_, ?_⟩
         ·
          simp only [Act.put, List.setIfInBounds_toArray, List.set_cons_zero, List.set_cons_succ]; rfl
         ·
          exact hI
        case s19 =>
         refine rg_step rfl ?_
         rintro l a W ⟨rfl, hI⟩ hl hd
         have d10 := hd 10 (by decide)
         have d18 := hd 18 (by decide)
         clear hd
         refine rg_call (by simp only [d10, sel_true]; rfl) (by go_simp; exact ⟨rfl, rfl⟩) ?_
         refine (HHC.out W hI).mono ?_
         rintro x W' ⟨rfl, hb⟩
         refine ⟨_, rfl, ?_, ?_⟩
         ·
          simp only [Act.put, List.setIfInBounds_toArray, List.set_cons_zero, List.set_cons_succ]; rfl
         ·
          exact hI.trans (hb.mono hI.size)
        case s20 =>
         refine rg_step rfl ?_
         rintro l a W ⟨rfl, hI⟩ hl hd
         have d10 := hd 10 (by decide)
         have d17 := hd 17 (by decide)
         have d19 := hd 19 (by decide)
         clear hd
         refine rg_val (v := .bool false) (w' := W) (by simp only [d10, sel_true]; rfl) (by go_simp) ?_
         refine ⟨?_, ?_⟩
         ·
          simp only [Act.put, List.setIfInBounds_toArray, List.set_cons_zero, List.set_cons_succ]; rfl
         ·
          exact hI
        case s21 =>
         refine rg_step rfl ?_
         rintro l a W ⟨rfl, hI⟩ hl hd
         have d10 := hd 10 (by decide)
         have d20 := hd 20 (by decide)
         clear hd
         refine rg_val (v := .bool false) (w' := W) rfl (by go_simp) ?_
         refine ⟨?_, ?_⟩
         ·
          simp only [Act.put, List.setIfInBounds_toArray, List.set_cons_zero, List.set_cons_succ]; rfl
         ·
          exact hI
        case s22 =>
         refine rg_step rfl ?_
         rintro l a W ⟨rfl, hI⟩ hl hd
         have d21 := hd 21 (by decide)
         clear hd
         refine rg_val (v := .bool false) (w' := W) rfl (by go_simp) ?_
         refine ⟨?_, ?_⟩
         ·
          simp only [Act.put, List.setIfInBounds_toArray, List.set_cons_zero, List.set_cons_succ]; rfl
         ·
          exact hI
        case s23 =>
         refine rg_step rfl ?_
         rintro l a W ⟨rfl, hI⟩ hl hd
         have d22 := hd 22 (by decide)
         clear hd
         refine rg_val (v := .int .i64 (i : Int)) (w' := W) (by simp only [d22, sel_true]; rfl) (by go_simp) ?_
         refine ⟨?_, ?_⟩
         ·
          simp only [Act.put, List.setIfInBounds_toArray, List.set_cons_zero, List.set_cons_succ]; rfl
         ·
          exact hI
        case s24 =>
         refine rg_step rfl ?_
         rintro l a W ⟨rfl, hI⟩ hl hd
         have d22 := hd 22 (by decide)
         clear hd
         refine rg_val (v := .int .i64 (p : Int)) (w' := W) (by simp only [d22, sel_true]; rfl) (by go_simp) ?_
         refine ⟨?_, ?_⟩
         ·
          simp only [Act.put, List.setIfInBounds_toArray, List.set_cons_zero, List.set_cons_succ]; rfl
         ·
          exact hI
        case s25 =>
         refine rg_step rfl ?_
         rintro l a W ⟨rfl, hI⟩ hl hd
         have d22 := hd 22 (by decide)
         have d23 := hd 23 (by decide)
         have d24 := hd 24 (by decide)
         clear hd
         refine rg_val (v := .bool true) (w' := W) (by simp only [d22, sel_true]; rfl) (by go_simp; try exact HIP.out) ?_
         refine ⟨?_, ?_⟩
         ·
          simp only [Act.put, List.setIfInBounds_toArray, List.set_cons_zero, List.set_cons_succ]; rfl
         ·
          exact hI
        case s26 =>
         refine rg_step rfl ?_
         rintro l a W ⟨rfl, hI⟩ hl hd
         have d22 := hd 22 (by decide)
         have d25 := hd 25 (by decide)
         clear hd
         refine rg_val (v := .bool true) (w' := W) (by simp only [d22, sel_true]; rfl) (by go_simp) ?_
         refine ⟨?_, ?_⟩
         ·
          simp only [Act.put, List.setIfInBounds_toArray, List.set_cons_zero, List.set_cons_succ]; rfl
         ·
          exact hI
        case s27 =>
         refine rg_step rfl ?_
         rintro l a W ⟨rfl, hI⟩ hl hd
         have d26 := hd 26 (by decide)
         clear hd
         refine rg_val (v := .slice (some adn) ls.length cn) (w' := W) (by simp only [d26, sel_true]; rfl) (by go_simp) ?_
         refine ⟨?_, ?_⟩
         ·
          simp only [Act.put, List.setIfInBounds_toArray, List.set_cons_zero, List.set_cons_succ]; rfl
         ·
          exact hI
        case s28 =>
         refine rg_step rfl ?_
         rintro l a W ⟨rfl, hI⟩ hl hd
         have d26 := hd 26 (by decide)
         clear hd
         refine rg_val (v := .int .i64 (i : Int)) (w' := W) (by simp only [d26, sel_true]; rfl) (by go_simp) ?_
         refine ⟨?_, ?_⟩
         ·
          simp only [Act.put, List.setIfInBounds_toArray, List.set_cons_zero, List.set_cons_succ]; rfl
         ·
          exact hI
        case s29 =>
         refine rg_step rfl ?_
         rintro l a W ⟨rfl, hI⟩ hl hd
         have d26 := hd 26 (by decide)
         have d27 := hd 27 (by decide)
         have d28 := hd 28 (by decide)
         clear hd
         refine rg_val (v := .pointer (some bn)) (w' := W) (by simp only [d26, sel_true]; rfl) (by go_simp; try rfl) ?_
         refine ⟨?_, ?_⟩
         ·
          simp only [Act.put, List.setIfInBounds_toArray, List.set_cons_zero, List.set_cons_succ]; rfl
         ·
          exact hI
        case s30 =>
         refine rg_step rfl ?_
         rintro l a W ⟨rfl, hI⟩ hl hd
         have d26 := hd 26 (by decide)
         have d29 := hd 29 (by decide)
         clear hd
         refine rg_val (v := .pointer (some bn)) (w' := W) (by simp only [d26, sel_true]; rfl) (by go_simp) ?_
         refine ⟨?_, ?_⟩
         ·
          simp only [Act.put, List.setIfInBounds_toArray, List.set_cons_zero, List.set_cons_succ]; rfl
         ·
          exact hI
        case s31 =>
         refine rg_step rfl ?_
         rintro l a W ⟨rfl, hI⟩ hl hd
         have d26 := hd 26 (by decide)
         have d30 := hd 30 (by decide)
         clear hd
         obtain ⟨⟨y0, y1, y2, y3, y4⟩, y6, -⟩ := HCN2.out W hI
         refine rg_val (v := .agg #[.bool z.f0, .string z.f1, .string z.f2, .int .u64 z.f3.f0, .int .u64 z.f3.f1]) (w' := W) (by simp only [d26, sel_true]; rfl) (by go_simp) ?_
         refine ⟨?_, ?_⟩
         ·
          simp only [Act.put, List.setIfInBounds_toArray, List.set_cons_zero, List.set_cons_succ]; rfl
         ·
          exact hI
        case s32 =>
         refine rg_step rfl ?_
         rintro l a W ⟨rfl, hI⟩ hl hd
         have d26 := hd 26 (by decide)
         clear hd
         refine rg_val (v := .slice (some ad) ls.length c) (w' := W) (by simp only [d26, sel_true]; rfl) (by go_simp) ?_
         refine ⟨?_, ?_⟩
         ·
          simp only [Act.put, List.setIfInBounds_toArray, List.set_cons_zero, List.set_cons_succ]; rfl
         ·
          exact hI
        case s33 =>
         refine rg_step rfl ?_
         rintro l a W ⟨rfl, hI⟩ hl hd
         have d26 := hd 26 (by decide)
         clear hd
         refine rg_val (v := .int .i64 (i : Int)) (w' := W) (by simp only [d26, sel_true]; rfl) (by go_simp) ?_
         refine ⟨?_, ?_⟩
         ·
          simp only [Act.put, List.setIfInBounds_toArray, List.set_cons_zero, List.set_cons_succ]; rfl
         ·
          exact hI
        case s34 =>
         refine rg_step rfl ?_
         rintro l a W ⟨rfl, hI⟩ hl hd
         have d26 := hd 26 (by decide)
         have d32 := hd 32 (by decide)
         have d33 := hd 33 (by decide)
         clear hd
         refine rg_val (v := .pointer (some bl)) (w' := W) (by simp only [d26, sel_true]; rfl) (by go_simp; try rfl) ?_
         refine ⟨?_, ?_⟩
         ·
          simp only [Act.put, List.setIfInBounds_toArray, List.set_cons_zero, List.set_cons_succ]; rfl
         ·
          exact hI
        case s35 =>
         refine rg_step rfl ?_
         rintro l a W ⟨rfl, hI⟩ hl hd
         have d26 := hd 26 (by decide)
         have d34 := hd 34 (by decide)
         clear hd
         obtain ⟨y0, y1, y2, y3, y4⟩ := HCL2.out W hI
         refine rg_val (v := .agg #[.bool z.f0, .string z.f1, .string z.f2, .int .u64 z.f3.f0, .int .u64 z.f3.f1]) (w' := W) (by simp only [d26, sel_true]; rfl) (by go_simp) ?_
         refine ⟨?_, ?_⟩
         ·
          simp only [Act.put, List.setIfInBounds_toArray, List.set_cons_zero, List.set_cons_succ]; rfl
         ·
          exact hI
        case s36 =>
         refine rg_step rfl ?_
         rintro l a W ⟨rfl, hI⟩ hl hd
         have d26 := hd 26 (by decide)
         have d31 := hd 31 (by decide)
         have d35 := hd 35 (by decide)
         clear hd
         refine rg_val (v := .bool false) (w' := W) (by simp only [d26, sel_true]; rfl) (by go_simp) ?_
         refine ⟨?_, ?_⟩
         ·
          simp only [Act.put, List.setIfInBounds_toArray, List.set_cons_zero, List.set_cons_succ]; rfl
         ·
          exact hI
        case s37 =>
         refine rg_step rfl ?_
         rintro l a W ⟨rfl, hI⟩ hl hd
         have d22 := hd 22 (by decide)
         have d26 := hd 26 (by decide)
         have d36 := hd 36 (by decide)
         clear hd
         refine rg_val (v := .bool false) (w' := W) (by simp only [d22, sel_true]; rfl) (by go_simp) ?_
         refine ⟨?_, ?_⟩
         ·
          simp only [Act.put, List.setIfInBounds_toArray, List.set_cons_zero, List.set_cons_succ]; rfl
         ·
          exact hI
        case s38 =>
         refine rg_step rfl ?_
         rintro l a W ⟨rfl, hI⟩ hl hd
         have d22 := hd 22 (by decide)
         have d37 := hd 37 (by decide)
         clear hd
         refine rg_val (v := .bool false) (w' := W) rfl (by go_simp) ?_
         refine ⟨?_, ?_⟩
         ·
          simp only [Act.put, List.setIfInBounds_toArray, List.set_cons_zero, List.set_cons_succ]; rfl
         ·
          exact hI
       case hend =>
        rintro l a W ⟨rfl, hI⟩ hall
        have e0 := hall 0 (by decide)
        have e1 := hall 1 (by decide)
        have e2 := hall 2 (by decide)
        have e3 := hall 3 (by decide)
        have e4 := hall 4 (by decide)
        have e5 := hall 5 (by decide)
        have e6 := hall 6 (by decide)
        have e7 := hall 7 (by decide)
        have e8 := hall 8 (by decide)
        have e9 := hall 9 (by decide)
        have e10 := hall 10 (by decide)
        have e11 := hall 11 (by decide)
        have e12 := hall 12 (by decide)
        have e13 := hall 13 (by decide)
        have e14 := hall 14 (by decide)
        have e15 := hall 15 (by decide)
        have e16 := hall 16 (by decide)
        have e17 := hall 17 (by decide)
        have e18 := hall 18 (by decide)
        have e19 := hall 19 (by decide)
        have e20 := hall 20 (by decide)
        have e21 := hall 21 (by decide)
        have e22 := hall 22 (by decide)
        have e23 := hall 23 (by decide)
        have e24 := hall 24 (by decide)
        have e25 := hall 25 (by decide)
        have e26 := hall 26 (by decide)
        have e27 := hall 27 (by decide)
        have e28 := hall 28 (by decide)
        have e29 := hall 29 (by decide)
        have e30 := hall 30 (by decide)
        have e31 := hall 31 (by decide)
        have e32 := hall 32 (by decide)
        have e33 := hall 33 (by decide)
        have e34 := hall 34 (by decide)
        have e35 := hall 35 (by decide)
        have e36 := hall 36 (by decide)
        have e37 := hall 37 (by decide)
        have e38 := hall 38 (by decide)
        clear hall
        simp only [e0, e1, e2, e3, e4, e5, e6, e7, e8, e9, e10, e11, e12, e13, e14, e15, e16, e17, e18, e19, e20, e21, e22, e23, e24, e25, e26, e27, e28, e29, e30, e31, e32, e33, e34, e35, e36, e37, e38, sel_true]
        clear e0 e1 e2 e3 e4 e5 e6 e7 e8 e9 e10 e11 e12 e13 e14 e15 e16 e17 e18 e19 e20 e21 e22 e23 e24 e25 e26 e27 e28 e29 e30 e31 e32 e33 e34 e35 e36 e37 e38
        have HBI := aM' hI
        clear hI
        go_wp2
        go_loopw [15, 16] (fun v15 v16 wr => ∃ o n : Nat, v16 = .int .i64 (n : Int) ∧ v15 = .int .i64 (o : Int) ∧ Aside0 (n ≤ m) ∧ Aside0 (o = 0 ∨ (o = 1 ∧ ∃ j, j < n ∧ besN (i / 2 ^ j) = p / 2 ^ j)) ∧ Aside0 (Below w13.heap.size w13 wr)) (fun _ v16 _ => m - (intOf v16).toNat)
        case atStart => exact ⟨0, 0, rfl, rfl, ⟨Nat.zero_le _⟩, ⟨.inl rfl⟩, HBI⟩
        case round =>
         obtain ⟨o, n, rfl, rfl, HN, HO, HBK⟩ := hrel
         have hn6 : n ≤ 6 := by have := HN.out; have := HM6.out; omega
         have ho1 : o ≤ 1 := by rcases HO.out with h | h <;> omega
         go_wp2_with fail
         refine ((HO13.out.keep HBK.out).heightC HKK2.out HLS.out HMS.out).mono ?_
         rintro e _ ⟨rfl, rfl⟩
         by_cases hnm : n < m
         ·
          have d1 : decide ((n : Int) < (m : Int)) = true := decide_eq_true (by omega)
          have d2 : decide (n < m) = true := decide_eq_true hnm
          have HNM := aM' hnm
          obtain ⟨-, w6c, hkw⟩ := HCW2.out _ HBK.out
          obtain ⟨-, n6c, hkn⟩ := HCN2.out _ HBK.out
          obtain ⟨aw3, ew3, p0, p1, p2⟩ := at_TNode hkw (n : Int) (by omega) (by omega)
          obtain ⟨an3, en3, q0, q1, q2⟩ := at_TNode hkn (n : Int) (by omega) (by omega)
          subst ew3 en3
          obtain ⟨s, hs⟩ : ∃ s, s = (besL wd ls i m).getD n nodeZ := ⟨_, rfl⟩
          obtain ⟨t, ht⟩ : ∃ t, t = (besL wd k i m).getD n nodeZ := ⟨_, rfl⟩
          have e1 : rd_TNode (besL wd ls i m) (n : Int) = s := by rw [hs, rd_TNode, Int.toNat_natCast]; rfl
          have e2 : rd_TNode (besL wd k i m) (n : Int) = t := by rw [ht, rd_TNode, Int.toNat_natCast]; rfl
          rw [e1, Int.toNat_natCast] at p0 p1 p2
          rw [e2, Int.toNat_natCast] at q0 q1 q2
          obtain ⟨pw, hpw⟩ : ∃ z, z = aw3.add (n * 3) := ⟨_, rfl⟩
          obtain ⟨pn, hpn⟩ : ∃ z, z = an3.add (n * 3) := ⟨_, rfl⟩
          rw [← hpw] at p0 p1 p2
          rw [← hpn] at q0 q1 q2
          have hpw2 := hpw.symm
          have hpn2 := hpn.symm
          have hbit := bne_node s t
          obtain ⟨bq, hbq⟩ : ∃ b, b = eqN s t := ⟨_, rfl⟩
          rw [← hbq] at hbit
          have HBE := aM' (show bq = false → besN (i / 2 ^ n) = p / 2 ^ n from fun h => change_at (wd := wd) (x := x) HKK.out HMM.out HPL.out HNM.out (by rw [← HKE.out, ← hs, ← ht, ← hbq]; exact h))
          clear hs ht e1 e2 hpw hpn hbq hkw hkn
          have hnmi : (n : Int) < (m : Int) := by omega
          cases bq with
          | true =>
           have kq : (!(s.f0.toList == t.f0.toList) || (!(s.f1.f0 == t.f1.f0) || !(s.f1.f1 == t.f1.f1))) = false := hbit
           clear hbit
           go_upto_region 24 with (fail)
           go_quiet (fail)
           have HBQ := aM' (pw_below_drewN HBK.out nq)
           have HO2 := aM' (show o = 0 ∨ (o = 1 ∧ ∃ j, j < n + 1 ∧ besN (i / 2 ^ j) = p / 2 ^ j) from HO.out.imp id (fun h => ⟨h.1, h.2.imp fun j hj => ⟨by omega, hj.2⟩⟩))
           clear kq p0 p1 p2 q0 q1 q2 w6c n6c
           go_wp2
           go_roundw
           case rel => exact ⟨o, n + 1, by go_num, rfl, ⟨by have := HNM.out; omega⟩, HO2, HBQ⟩
           case measure => simp [intOf]; have := HNM.out; omega
          | false =>
           have kq : (!(s.f0.toList == t.f0.toList) || (!(s.f1.f0 == t.f1.f0) || !(s.f1.f1 == t.f1.f1))) = true := hbit
           clear hbit
           have hbe := HBE.out rfl
           obtain rfl : o = 0 := by
            rcases HO.out with h | ⟨-, j, hj, h⟩
            ·
             exact h
            ·
             exact absurd hbe (bes_once hj h)
           obtain ⟨qi, hqi⟩ : ∃ q, q = i / 2 ^ n := ⟨_, rfl⟩
           obtain ⟨qp, hqp⟩ : ∃ q, q = p / 2 ^ n := ⟨_, rfl⟩
           have hsi : (i : Int) / 2 ^ n = (qi : Int) := by rw [hqi]; simp
           have hsp : (p : Int) / 2 ^ n = (qp : Int) := by rw [hqp]; simp
           have hwn : IntKind.u64.wrap (n : Int) = (n : Int) := wrapu64_id (by omega) (by omega)
           have hxo : Go.bits .xor .i64 (qi : Int) 1 = (qp : Int) := by
            rw [bits_bes_i qi (by rw [hqi]; have := Nat.div_le_self i (2 ^ n); have := HLT.out; have := H70.out; omega), hqi, hqp, hbe]
           have HO2 := aM' hbe
           clear hbe hqi hqp
           go_upto_region 24 with (fail)
           go_quiet (fail)
           have HBQ := aM' (pw_below_drewN HBK.out nq)
           clear kq p0 p1 p2 q0 q1 q2 w6c n6c
           go_wp2
           go_roundw
           case rel => exact ⟨1, n + 1, by go_num, rfl, ⟨by have := HNM.out; omega⟩, ⟨.inr ⟨rfl, n, by omega, HO2.out⟩⟩, HBQ⟩
           case measure => simp [intOf]; have := HNM.out; omega
         ·
          have d1 : decide ((n : Int) < (m : Int)) = false := decide_eq_false (by omega)
          have d2 : decide (n < m) = false := decide_eq_false hnm
          have d3 : decide ((1 : Int) < (o : Int)) = false := decide_eq_false (by omega)
          have d4 : decide (1 < o) = false := decide_eq_false (by omega)
          have hi70 : i < 70 := by have := HLT.out; have := H70.out; omega
          go_wp2
          go_roundw
          case rel => exact ⟨i + 1, by go_num, ⟨by have := HLT.out; omega⟩, HBK⟩
          case measure => simp [intOf]; have := HLT.out; omega
     ·
      have b1 : decide ((i : Int) < (ls.length : Int)) = false := decide_eq_false (by omega)
      have b2 : decide (i < ls.length) = false := decide_eq_false hlt
      go_wp2
      go_ret
      exact ⟨rfl, HB13.out.trans (HBR.out.mono HB13.out.size)⟩
def law16_ProofChanges.f (wd : Int) (ls : List SLeaf) (pos : Int) (x0 : Bool) (x1 x2 : ByteArray) (x3 x4 : Int) : Option Bool := if ((0 ≤ pos ∧ pos < 65536) ∧ ls.length ≤ 9223372036854775807) ∧ (∀ x ∈ ls, (0 ≤ x.f3.f0 ∧ x.f3.f0 < 18446744073709551616) ∧ 0 ≤ x.f3.f1 ∧ x.f3.f1 < 18446744073709551616) ∧ (0 ≤ x3 ∧ x3 < 18446744073709551616) ∧ 0 ≤ x4 ∧ x4 < 18446744073709551616 then some true else none
theorem law16_ProofChanges.calls (wd : Int) (A : Option Addr) (c : Nat) (ls : List SLeaf) (pos : Int) (x0 : Bool) (x1 x2 : ByteArray) (x3 x4 : Int) (r : Bool) (w : World) (hK : LaidT w) (hr : Kd.C kLeaf w A ls.length ls) (hc : ls.length ≤ c) (h : law16_ProofChanges.f wd ls pos x0 x1 x2 x3 x4 = some r) :
  Calls Tryd.prog 9 #[.int .i64 wd, .slice A ls.length c, .int .u16 pos, .agg #[.bool x0, .string x1, .string x2, .int .u64 x3, .int .u64 x4]] w fun e w' => e = .returned (.bool r) ∧ Below w.heap.size w w' := by
 unfold law16_ProofChanges.f at h
 split at h
 ·
  next hh =>
  cases h
  exact lawPChanges.calls wd A c ls pos ⟨x0, x1, x2, ⟨x3, x4⟩⟩ w hK hr hc (fun x hx => by obtain ⟨h1, h2⟩ := hh.2.1 x hx; exact ⟨h1, h2⟩) ⟨hh.2.2.1, hh.2.2.2⟩ hh.1.2 hh.1.1
 ·
  cases h
end Go.Proofs.YtfcodmdckcihmaaDoor.P
namespace Go.Proofs.YtfcodmdckcihmaaDoor.P
open Go.RowKit Go.Proofs.YtfcodmdckcihmaaDoorW.PrintWords Go.Proofs.YtfcodmdckcihmaaDoorW.PrintLast Go.Proofs.YtfcodmdckcihmaaDoorW.PrintMore
set_option linter.unusedVariables false
set_option linter.unusedSimpArgs false
set_option linter.unnecessarySimpa false
theorem wf_u16c {n : Int} (h : (Lit.int .u16 n).wf = true) : 0 ≤ n ∧ n < 65536 := by
 simp [Lit.wf, IntKind.min, IntKind.max, IntKind.signed, IntKind.bits] at h
 omega
theorem pure_ProofChanges : ∀ (y0 : Int) (y1 : (List SLeaf)) (y2 : Int) (y3 : SLeaf), (Lit.int .i64 y0).wf = true → (y1.length ≤ 140737488355328 ∧ ∀ q0 ∈ y1, wfLeaf q0) → (Lit.int .u16 y2).wf = true → wfLeaf y3 → law16_ProofChanges.f y0 y1 y2 y3.f0 y3.f1 y3.f2 y3.f3.f0 y3.f3.f1 = some true := fun _ _ _ _ _ hl h2 h3 => by
 unfold law16_ProofChanges.f
 rw [if_pos ⟨⟨wf_u16c h2, by omega⟩, fun x hx => ⟨wf_u64 (hl.2 x hx).2.2.2.1, wf_u64 (hl.2 x hx).2.2.2.2⟩, wf_u64 h3.2.2.2.1, wf_u64 h3.2.2.2.2⟩]
end Go.Proofs.YtfcodmdckcihmaaDoor.P
namespace Go.Proofs.YtfcodmdckcihmaaDoor.proofChanges
open Go.Proofs.YtfcodmdckcihmaaDoor.P Go.ChangeShapes Go.WideShapes Go.ChangeAt Go.RowKit
open Go.ChangeMaps (open_string shut_string)
open Go.Proofs.YtfcodmdckcihmaaDoorW.PrintWords Go.Proofs.YtfcodmdckcihmaaDoorW.PrintLast Go.Proofs.YtfcodmdckcihmaaDoorW.PrintMore
set_option linter.unusedVariables false
set_option linter.unusedSimpArgs false
theorem own : ownKnob Tryd.prog.godebug = none := by kernel_rfl
theorem laidOut : laidOutB Tryd.prog = true := by kernel_rfl
set_option maxRecDepth 100000 in
theorem lifted (os : Os) (started : os.Started) (H : Type) (enc : TypeId × Value → H) :
    ReturnsInHanded {} Tryd.checked os 9 .any (fun w args => (Rows.proofChangesSpec.pre enc Tryd.prog Tryd.f9 [] false w args ∧ laidMetH Tryd.prog Rows.proofChangesRow.laid w) ∧ sizedMet enc Tryd.prog Tryd.f9 (OpenSpec.ofChange Rows.proofChangesSpec) false w args)
      (Rows.proofChangesSpec.post enc Tryd.prog Tryd.f9 false true false false) := by
  refine returnsInHanded_of_change_and (C := Tryd.checked) (X := fun w _ => laidMetH Tryd.prog Rows.proofChangesRow.laid w) (fun _ _ _ hh h => h.of_heap hh) own started (by kernel_rfl) Tryd.func9
    (ChangeSpec.witness_at (enc := enc) (C := Tryd.checked) (os := os) (X := fun w _ => laidMetH Tryd.prog Rows.proofChangesRow.laid w) false (P.laidWorldT os) #[.int .i64 0, .slice none 0 0, .int .u16 0, .agg #[.bool false, .string ByteArray.empty, .string ByteArray.empty, .int .u64 0, .int .u64 0]] 8 rfl (by kernel_rfl) (by kernel_rfl) (by kernel_rfl) (by kernel_rfl) (by kernel_rfl) (P.laidWorldT_met os _)) ?_
  intro W base args ds gs before hval0 hW _ hsz0 hL _
  have hval : ∀ (j : Nat) t v, Tryd.f9.params[j]? = some t → args[j]? = some v → Value.okWide Tryd.prog W .any base t v := hval0
  have hW' := hW
  obtain ⟨p, q, hA0, hV, rfl, hfz, hnd⟩ := hW
  have hA : DataW.TrodAll enc Tryd.prog W 0 (fun _ => true) true Tryd.f9.params.toList args.toList ds p := hA0
  rw [Tryd.params9] at hA hval
  obtain ⟨v0, vs0, d0, ds0, p0, q0, hargs, rfl, rfl, h0, r0⟩ := trodAll_cons hA
  obtain ⟨v1, vs1, d1, ds1, p1, q1, rfl, rfl, rfl, h1, r1⟩ := trodAll_cons r0
  obtain ⟨v2, vs2, d2, ds2, p2, q2, rfl, rfl, rfl, h2, r2⟩ := trodAll_cons r1
  obtain ⟨v3, vs3, d3, ds3, p3, q3, rfl, rfl, rfl, h3, r3⟩ := trodAll_cons r2
  obtain ⟨rfl, rfl, rfl⟩ := trodAll_nil r3
  obtain rfl : args = #[v0, v1, v2, v3] := by cases args; simp_all
  obtain ⟨rfl, rfl⟩ := trodVars_none hV
  have hz0 : Sized Tryd.prog 3 d0 := Sized.each hsz0 (j := 0) rfl rfl
  have hz1 : Sized Tryd.prog 22 d1 := Sized.each hsz0 (j := 1) rfl rfl
  have hz2 : Sized Tryd.prog 50 d2 := Sized.each hsz0 (j := 2) rfl rfl
  have hz3 : Sized Tryd.prog 36 d3 := Sized.each hsz0 (j := 3) rfl rfl
  have k0 := h0
  have lt0 : ∀ x ∈ p0, x.block < W.heap.size := by obtain ⟨m, hm⟩ := k0; exact DataW.trod_lt m _ _ _ hm
  obtain ⟨y0, rfl, rfl, rfl, w0⟩ := open_int Tryd.underlying3 (hval 0 3 v0 rfl rfl) h0
  have k1 := h1
  have lt1 : ∀ x ∈ p1, x.block < W.heap.size := by obtain ⟨m, hm⟩ := k1; exact DataW.trod_lt m _ _ _ hm
  obtain ⟨a1, len1, cap1, rfl⟩ := okWide_slice Tryd.underlying22 (hval 1 22 v1 rfl rfl)
  obtain ⟨y1, hk1, w1⟩ := (Rd.slice Tryd.underlying22 (by kernel_rfl) (of_decide_eq_true (by kernel_rfl)) rdLeaf).cell rfl h1 hz1
  obtain ⟨A1, c1, e1, l1, g1⟩ := hk1
  rw [List.cons.injEq] at e1
  obtain ⟨e1, -⟩ := e1
  injection e1 with ea1 el1 ec1
  subst ea1 el1 ec1
  have k2 := h2
  have lt2 : ∀ x ∈ p2, x.block < W.heap.size := by obtain ⟨m, hm⟩ := k2; exact DataW.trod_lt m _ _ _ hm
  obtain ⟨y2, rfl, rfl, rfl, w2⟩ := open_int Tryd.underlying50 (hval 2 50 v2 rfl rfl) h2
  have k3 := h3
  have lt3 : ∀ x ∈ p3, x.block < W.heap.size := by obtain ⟨m, hm⟩ := k3; exact DataW.trod_lt m _ _ _ hm
  obtain ⟨y3, cs3, rfl, hk3, w3⟩ := rdLeaf.agg Tryd.underlying36 (hval 3 36 v3 rfl rfl) h3 hz3
  obtain ⟨cl3, rfl⟩ : ∃ l : List Value, cs3 = l.toArray := ⟨cs3.toList, by simp⟩
  simp only [List.toList_toArray] at hk3
  obtain rfl := kLeaf_open hk3
  clear hA0 hval0 hsz0
  have h := pure_ProofChanges y0 y1 y2 y3 w0 w1 w2 w3
  refine (law16_ProofChanges.calls y0 _ _ y1 y2 y3.f0 y3.f1 y3.f2 y3.f3.f0 y3.f3.f1 true W (P.laidT_of_met hL) g1 l1 h).mono fun e W' ⟨he, bel0⟩ => ?_
  have bel := bel0
  subst he
  exact ⟨_, rfl, _, _, _, [], _, [], hW', trodAll_mk1 (shut_bool Tryd.underlying4 _), (trodAll_cons_mk (Below.trod laidOut (by kernel_rfl) (of_decide_eq_true (by kernel_rfl)) k0 bel lt0) (trodAll_cons_mk (Below.trod laidOut (by kernel_rfl) (of_decide_eq_true (by kernel_rfl)) k1 bel lt1) (trodAll_cons_mk (Below.trod laidOut (by kernel_rfl) (of_decide_eq_true (by kernel_rfl)) k2 bel lt2) (trodAll_cons_mk (Below.trod laidOut (by kernel_rfl) (of_decide_eq_true (by kernel_rfl)) k3 bel lt3) trodAll_mk0)))), rfl, bel.frame _, fun h => by cases h⟩
theorem over : Rows.proofChangesRow.holds Tryd.pinned (OpenSpec.ofChange Rows.proofChangesSpec) :=
  OpenClaim.holds_of_wide 9 Tryd.f9 rfl rfl rfl rfl rfl rfl rfl ⟨rfl, rfl, rfl, rfl, rfl⟩ rfl rfl rfl rfl rfl (by kernel_rfl) Tryd.func9 (by kernel_rfl)
    (of_decide_eq_true (by kernel_rfl)) (by unfold Func.isWrapper; first | (rw [if_pos (by decide +kernel)]; kernel_rfl) | (rw [if_neg (by decide +kernel)]; exact ⟨rfl, rfl⟩))
    (fun os started H enc _ => lifted os started H enc)
set_option maxRecDepth 100000 in
theorem proved : Rows.ProofChangesCardSaid :=
  Claim7.holds_tied_plain_at .later [] [.data, .data, .pinned] true (true, "4f2cffd12862c0dd414eb8a94792080809aa0e0cec70df79135b296e27b5c26d") false
    over (fun _ h => by cases h) (by kernel_rfl) (fun _ h => by cases h) proofChanges_row_tie rfl ⟨rfl, rfl⟩ (by kernel_rfl) rfl
    (fun f fn hf hfn => by
      obtain rfl : f = 9 := Option.some.inj ((show Tryd.prog.funcNamed "paymaster/paymasterlaw16.ProofChanges" = some 9 by kernel_rfl).symm.trans hf) |>.symm
      obtain rfl : fn = Tryd.f9 := (Option.some.inj (Tryd.func9.symm.trans hfn)).symm
      exact ⟨by kernel_rfl, fun j t ht => by
        rw [Tryd.params9] at ht
        have h3 : t ∈ [3, 22, 50, 36] := by
          have := List.mem_of_getElem? (l := [3, 22, 50, 36]) (i := j) (a := t) (by simpa using ht)
          exact this
        simp only [List.mem_cons, List.not_mem_nil, or_false] at h3
        rcases h3 with rfl | rfl | rfl | rfl
        · exact (show Tryd.prog.wantsStandIn 3 = false by kernel_rfl)
        · exact (show Tryd.prog.wantsStandIn 22 = false by kernel_rfl)
        · exact (show Tryd.prog.wantsStandIn 50 = false by kernel_rfl)
        · exact (show Tryd.prog.wantsStandIn 36 = false by kernel_rfl)
      ⟩)
    (by kernel_rfl)
#print axioms proved
end Go.Proofs.YtfcodmdckcihmaaDoor.proofChanges
namespace Go.Proofs.YtfcodmdckcihmaaDoor
/-- The row, under a short name, for the claim. -/
theorem proofChanges_holds : Rows.ProofChangesCardSaid := proofChanges.proved
end Go.Proofs.YtfcodmdckcihmaaDoor
