-- Several texts of this workplace as one.
import Derived.Test.YtfcodmdckcihmaaDoorZTreeBuilds3
import Derived.Test.YtfcodmdckcihmaaDoorProg
import Derived.Deep.OwnRows
import Derived.Laws.Rows
import Derived.Test.YtfcodmdckcihmaaDoorRows
import Derived.Test.YtfcodmdckcihmaaDoorCards
import Derived.Test.YtfcodmdckcihmaaDoorTie
namespace Go.Proofs.YtfcodmdckcihmaaDoor.P
open Go.RowKit Go.Proofs.YtfcodmdckcihmaaDoorW.PrintWords Go.Proofs.YtfcodmdckcihmaaDoorW.PrintLast Go.Proofs.YtfcodmdckcihmaaDoorW.PrintMore
set_option linter.unusedVariables false
set_option linter.unusedSimpArgs false
set_option linter.unnecessarySimpa false
abbrev RowG := Nat × Nat
theorem levelInfo : (Tryd.prog.info? 109).map (fun i => (i.zero, i.size, i.bytes)) = some (some (.agg #[.slice none 0 0, .int .i64 0]), 2, 32) := by kernel_rfl
def cellsV : Nat → List RowG → List (List SNode) → List Value
 | i, p :: gs, r :: rs => .slice (some ⟨p.1, 0, none⟩) r.length p.2 :: .int .i64 (i : Int) :: cellsV (i + 1) gs rs
 | _, _, _ => []
theorem cellsV_snoc (p : RowG) (r : List SNode) : ∀ (i : Nat) (gs : List RowG) (rs : List (List SNode)), gs.length = rs.length → cellsV i (gs ++ [p]) (rs ++ [r]) = cellsV i gs rs ++ [.slice (some ⟨p.1, 0, none⟩) r.length p.2, .int .i64 ((i + rs.length : Nat) : Int)]
 | i, [], [], _ => rfl
 | i, _ :: gs, _ :: rs, h => by
  have := cellsV_snoc p r (i + 1) gs rs (by simpa using h)
  rw [List.cons_append, List.cons_append, cellsV, cellsV, this]
  simp only [List.cons_append, List.length_cons]
  rw [show i + 1 + rs.length = i + (rs.length + 1) by omega]
abbrev rowV (p : RowG) (r : List SNode) : Value := .slice (some ⟨p.1, 0, none⟩) r.length p.2
def OwnRows (W : World) (base : Nat) : List RowG → List (List SNode) → Prop
 | p :: gs, r :: rs => W.ownsRow base 46 3 (rowV p r) r.length (cellsN r) ∧ OwnRows W base gs rs
 | [], [] => True
 | _, _ => False
theorem OwnRows.len {W : World} {base : Nat} : ∀ {gs : List RowG} {rs : List (List SNode)}, OwnRows W base gs rs → gs.length = rs.length
 | [], [], _ => rfl
 | _ :: _, _ :: _, h => by rw [List.length_cons, List.length_cons, OwnRows.len h.2]
theorem OwnRows.snoc {W : World} {base : Nat} {p : RowG} {r : List SNode} (hr : W.ownsRow base 46 3 (rowV p r) r.length (cellsN r)) : ∀ {gs : List RowG} {rs : List (List SNode)}, OwnRows W base gs rs → OwnRows W base (gs ++ [p]) (rs ++ [r])
 | [], [], _ => ⟨hr, trivial⟩
 | _ :: _, _ :: _, h => ⟨h.1, h.2.snoc hr⟩
theorem OwnRows.keep {W W' : World} {base : Nat} : ∀ {gs : List RowG} {rs : List (List SNode)}, OwnRows W base gs rs → (∀ k ∈ gs.map Prod.fst, W'.heap[k]? = W.heap[k]?) → OwnRows W' base gs rs
 | [], [], _, _ => trivial
 | p :: gs, r :: rs, h, hk => ⟨own_keep h.1 (hk p.1 (by simp)), h.2.keep (fun k h => hk k (by simp at h ⊢; exact .inr h))⟩
theorem OwnRows.lt {W : World} {base : Nat} : ∀ {gs : List RowG} {rs : List (List SNode)}, OwnRows W base gs rs → ∀ k ∈ gs.map Prod.fst, base ≤ k ∧ k < W.heap.size
 | [], [], _, k, hk => by cases hk
 | p :: gs, r :: rs, h, k, hk => by
  rw [List.map_cons] at hk
  rcases List.mem_cons.1 hk with rfl | hk
  ·
   exact h.1.lt _ rfl
  ·
   exact h.2.lt k hk
theorem ownAny_keep {w w' : World} {base n size : Nat} {xs : List Value} {e : TypeId} {v : Value} (h : w.ownsRow base e size v n xs) (hk : ∀ g, v.ownBlock = some g → w'.heap[g]? = w.heap[g]?) : w'.ownsRow base e size v n xs := by
 obtain ⟨hlen, h⟩ := h
 refine ⟨hlen, ?_⟩
 rcases h with h | ⟨g', cap', cur, hv, hb, hg, hr⟩
 ·
  exact .inl h
 ·
  exact .inr ⟨_, cap', cur, hv, hb, (hk g' (by rw [hv]; rfl)).trans hg, hr⟩
theorem own_cells {w : World} {base n size : Nat} {xs : List Value} {e : TypeId} {v : Value} {g : Nat} (h : w.ownsRow base e size v n xs) (hg : v.ownBlock = some g) : ∃ cs, w.heap[g]? = some (.cells cs e (0, 0)) := by
 rcases h.2 with ⟨h, _⟩ | ⟨g', cap', cur, hv, hb, hg', hr⟩
 ·
  rw [h] at hg; cases hg
 ·
  rw [hv] at hg
  obtain rfl : g' = g := Option.some.inj hg
  exact ⟨cur, hg'⟩
structure NwT (w : World) (wd : Int) (lf : List SLeaf) (bt gl cl : Nat) (VV : Value) (gs : List RowG) (done : List (List SNode)) (ds : List Nat) (W : World) : Prop where
 bx : NwB w wd W
 ht : W.heap[bt]? = some (.cells #[.int .i64 wd, .slice (some ⟨gl, 0, none⟩) lf.length cl, VV] 105 (0, 0))
 hl : W.ownsRow (w.heap.size + 3) 36 5 (.slice (some ⟨gl, 0, none⟩) lf.length cl) lf.length (cellsL lf)
 hv : W.ownsRow (w.heap.size + 3) 109 2 VV done.length (cellsV 0 gs done)
 hg : OwnRows W (w.heap.size + 3) gs done
 ap : (bt :: gl :: gs.map Prod.fst).Nodup
 av : ∀ k, VV.ownBlock = some k → k ∉ bt :: gl :: gs.map Prod.fst
 lo : w.heap.size + 3 ≤ bt
 dn : ds.Nodup
 hd : ∀ D ∈ ds, W.heap[D]? = some (.deferred (some []))
structure NwT.Off (w : World) (bt gl : Nat) (VV : Value) (gs : List RowG) (W : World) (k : Nat) : Prop where
 lo : w.heap.size + 3 ≤ k
 ap : k ∉ bt :: gl :: gs.map Prod.fst
 av : VV.ownBlock ≠ some k
 cs : ∃ c t f, W.heap[k]? = some (.cells c t f)
theorem NwT.size {w : World} {wd : Int} {lf : List SLeaf} {bt gl cl : Nat} {VV : Value} {gs : List RowG} {done : List (List SNode)} {ds : List Nat} {W : World} (h : NwT w wd lf bt gl cl VV gs done ds W) : ∀ k ∈ bt :: gl :: gs.map Prod.fst, w.heap.size + 3 ≤ k ∧ k < W.heap.size := by
 intro k hk
 rcases List.mem_cons.1 hk with rfl | hk
 ·
  exact ⟨h.lo, blk_lt h.ht⟩
 rcases List.mem_cons.1 hk with rfl | hk
 ·
  exact h.hl.lt _ rfl
 ·
  exact h.hg.lt k hk
theorem NwT.keep {w : World} {wd : Int} {lf : List SLeaf} {bt gl cl : Nat} {VV : Value} {gs : List RowG} {done : List (List SNode)} {ds : List Nat} {W W' : World} (h : NwT w wd lf bt gl cl VV gs done ds W) (X : Nat → Prop) (hX : ∀ k, X k → NwT.Off w bt gl VV gs W k) (hk : ∀ k, k < W.heap.size → ¬ X k → W'.heap[k]? = W.heap[k]?) (hB : Below w.heap.size w W') : NwT w wd lf bt gl cl VV gs done ds W' := by
 have hs := h.size
 have hlt := h.bx.lt
 have hin : ∀ k ∈ bt :: gl :: gs.map Prod.fst, W'.heap[k]? = W.heap[k]? := fun k hm => hk k (hs k hm).2 (fun hx => (hX k hx).ap hm)
 refine ⟨h.bx.keep (fun k hlt2 => hk k (by omega) (fun hx => by have := (hX k hx).lo; omega)) hB, (hin bt (by simp)).trans h.ht, own_keep h.hl (hin gl (by simp)), ownAny_keep h.hv (fun g hg => hk g (h.hv.lt g hg).2 (fun hx => (hX g hx).av hg)), h.hg.keep (fun k hm => hin k (by simp at hm ⊢; exact .inr (.inr hm))), h.ap, h.av, h.lo, h.dn, fun D hD => ?_⟩
 have h1 := h.hd D hD
 refine (hk D (blk_lt h1) (fun hx => ?_)).trans h1
 obtain ⟨c, t, f, h2⟩ := (hX D hx).cs
 rw [h1] at h2
 cases h2
theorem NwT.below {w : World} {wd : Int} {lf : List SLeaf} {bt gl cl : Nat} {VV : Value} {gs : List RowG} {done : List (List SNode)} {ds : List Nat} {W W' : World} (h : NwT w wd lf bt gl cl VV gs done ds W) (hb : Below W.heap.size W W') : NwT w wd lf bt gl cl VV gs done ds W' :=
 h.keep (fun _ => False) (fun _ h => h.elim) (fun k hk _ => hb.block k hk) (h.bx.hB.trans (hb.mono h.bx.hB.size))
theorem below_grown {w X Y : World} {row : Option Nat} (h : Below w.heap.size w X) (hg : X.grownBy Y row) (hr : ∀ r, row = some r → w.heap.size ≤ r) : Below w.heap.size w Y :=
 ⟨hg.os.trans h.os, hg.tape.trans h.tape, hg.output.trans h.output, Nat.le_trans h.size hg.size, fun i hi => (hg.block i (lL' hi h.size) (fun e => by have := hr i e.symm; omega)).trans (h.block i hi)⟩
theorem NwT.grown {w : World} {wd : Int} {lf : List SLeaf} {bt gl cl : Nat} {VV : Value} {gs : List RowG} {done : List (List SNode)} {ds : List Nat} {W W' : World} {row : Option Nat} (h : NwT w wd lf bt gl cl VV gs done ds W) (hg : W.grownBy W' row) (hr : ∀ r, row = some r → NwT.Off w bt gl VV gs W r) : NwT w wd lf bt gl cl VV gs done ds W' :=
 h.keep (fun k => row = some k) hr (fun k hk hn => hg.block k hk (fun e => hn e.symm)) (below_grown h.bx.hB hg (fun r e => by have := (hr r e).lo; omega))
theorem NwT.level {w : World} {wd : Int} {lf : List SLeaf} {bt gl cl : Nat} {VV : Value} {gs : List RowG} {done : List (List SNode)} {ds : List Nat} {W W' : World} {p : RowG} {cur : List SNode} {g κ : Nat}
  (h : NwT w wd lf bt gl cl VV gs done ds W) (hc : W.ownsRow (w.heap.size + 3) 46 3 (rowV p cur) cur.length (cellsN cur)) (ho : NwT.Off w bt gl VV gs W p.1)
  (hk : ∀ k, k < W.heap.size → VV.ownBlock ≠ some k → W'.heap[k]? = W.heap[k]?) (hown : W'.ownsRow (w.heap.size + 3) 109 2 (.slice (some ⟨g, 0, none⟩) (done.length + 1) κ) (done.length + 1) (cellsV 0 gs done ++ [rowV p cur, .int .i64 (done.length : Int)]))
  (hgg : VV.ownBlock = some g ∨ W.heap.size ≤ g) (hB : Below w.heap.size w W') :
  NwT w wd lf bt gl cl (.slice (some ⟨g, 0, none⟩) (done.length + 1) κ) (gs ++ [p]) (done ++ [cur]) ds (W'.setCell ⟨bt, 2, none⟩ (.slice (some ⟨g, 0, none⟩) (done.length + 1) κ)) := by
 have hs := h.size
 have hlt := h.bx.lt
 have hbt := hs bt (by simp)
 have hnot : ∀ k ∈ bt :: gl :: gs.map Prod.fst, VV.ownBlock ≠ some k := fun k hm e => h.av k e hm
 have hin : ∀ k ∈ bt :: gl :: gs.map Prod.fst, W'.heap[k]? = W.heap[k]? := fun k hm => hk k (hs k hm).2 (hnot k hm)
 have hpc : W'.heap[p.1]? = W.heap[p.1]? := hk p.1 (hc.lt _ rfl).2 ho.av
 have hpn : p.1 ∉ bt :: gl :: gs.map Prod.fst := ho.ap
 have hset : ∀ k, k ≠ bt → (W'.setCell ⟨bt, 2, none⟩ (.slice (some ⟨g, 0, none⟩) (done.length + 1) κ)).heap[k]? = W'.heap[k]? := fun k hk => Below.heap_setCell _ _ _ _ hk
 have hgn : g ∉ bt :: gl :: (gs ++ [p]).map Prod.fst := by
  intro hm
  simp only [List.map_append, List.map_cons, List.map_nil, List.mem_cons, List.mem_append, List.not_mem_nil, or_false] at hm
  have hm2 : g ∈ bt :: gl :: gs.map Prod.fst ∨ g = p.1 := by
   simp only [List.mem_cons]
   rcases hm with h1 | h1 | h1 | h1
   ·
    exact .inl (.inl h1)
   ·
    exact .inl (.inr (.inl h1))
   ·
    exact .inl (.inr (.inr h1))
   ·
    exact .inr h1
  rcases hm2 with h1 | h1
  ·
   rcases hgg with h2 | h2
   ·
    exact hnot g h1 h2
   ·
    have := (hs g h1).2; omega
  ·
   rcases hgg with h2 | h2
   ·
    exact ho.av (h1 ▸ h2)
   ·
    have := (hc.lt _ rfl).2; rw [h1] at h2; exact absurd this (by show ¬ p.1 < _; omega)
 have hgbt : g ≠ bt := fun e => hgn (by rw [e]; simp)
 have hpbt : p.1 ≠ bt := fun e => hpn (by rw [e]; simp)
 have hglbt : gl ≠ bt := fun e => by have := h.ap; rw [e] at this; simp at this
 have hgsbt : ∀ k ∈ gs.map Prod.fst, k ≠ bt := fun k hm e => by
  have := (List.nodup_cons.1 h.ap).1
  exact this (by rw [← e]; exact List.mem_cons_of_mem _ hm)
 have hlen := h.hg.len
 refine ⟨(h.bx.keep (fun k hk2 => hk k (by omega) (fun e => by have := (h.hv.lt k e).1; omega)) hB).keep (fun k hk2 => hset k (by omega)) (hB.setCell (by show w.heap.size ≤ bt; omega) _), ?_, ?_, ?_, ?_, ?_, ?_, h.lo, h.dn, ?_⟩
 ·
  exact blk_put ((hin bt (by simp)).trans h.ht) 2 _ rfl
 ·
  exact own_keep (own_keep h.hl (hin gl (by simp))) (hset gl hglbt)
 ·
  rw [List.length_append, List.length_singleton, cellsV_snoc p cur 0 gs done hlen, Nat.zero_add]
  exact own_keep hown (hset g hgbt)
 ·
  refine OwnRows.snoc (own_keep (own_keep hc hpc) (hset _ hpbt)) ((h.hg.keep (fun k hm => hin k (by simp at hm ⊢; exact .inr (.inr hm)))).keep (fun k hm => hset k (hgsbt k hm)))
 ·
  simp only [List.map_append, List.map_cons, List.map_nil]
  rw [← List.cons_append, ← List.cons_append]
  exact List.nodup_append.2 ⟨h.ap, by simp, fun a ha b hb e => by
   obtain rfl := List.mem_singleton.1 hb
   exact hpn (e ▸ ha)⟩
 ·
  intro k hk2 hm
  obtain rfl : g = k := Option.some.inj hk2
  exact hgn hm
 ·
  intro D hD
  have h1 := h.hd D hD
  have hne : D ≠ bt := fun e => by rw [e] at h1; rw [h.ht] at h1; cases h1
  rw [hset D hne]
  refine (hk D (blk_lt h1) (fun e => ?_)).trans h1
  obtain ⟨cs, h2⟩ := own_cells h.hv e
  rw [h1] at h2
  cases h2
structure Nw16 (w W0 W : World) (wd : Int) (lf : List SLeaf) (bt gl cl : Nat) (VV : Value) (gs : List RowG) (done : List (List SNode)) (ds : List Nat) (p : RowG) (cur : List SNode) (l : Nat → Bool) (γ γ2 κ : Nat) : Prop where
 hA : l 14 = false → Below W0.heap.size W0 W
 hT : l 13 = true → l 14 = false → W.heap[γ]? = some (.cells #[rowV p cur, .int .i64 (done.length : Int)] 109 (0, 0))
 hP : l 14 = true → l 17 = false → (∀ k, k < W0.heap.size → VV.ownBlock ≠ some k → W.heap[k]? = W0.heap[k]?) ∧ W.ownsRow (w.heap.size + 3) 109 2 (.slice (some ⟨γ2, 0, none⟩) (done.length + 1) κ) (done.length + 1) (cellsV 0 gs done ++ [rowV p cur, .int .i64 (done.length : Int)]) ∧ (VV.ownBlock = some γ2 ∨ W0.heap.size ≤ γ2) ∧ Below w.heap.size w W
 hQ : l 17 = true → NwT w wd lf bt gl cl (.slice (some ⟨γ2, 0, none⟩) (done.length + 1) κ) (gs ++ [p]) (done ++ [cur]) ds W
 o11 : l 11 = true → l 10 = true
 o12 : l 12 = true → l 11 = true
 o13 : l 13 = true → l 12 = true
 o14 : l 14 = true → l 13 = true ∧ l 4 = true
 o17 : l 17 = true → l 14 = true
theorem upd_or {l : Nat → Bool} {i j : Nat} : upd l i j = true ↔ j = i ∨ l j = true := by
 unfold upd
 by_cases h : j = i
 ·
  rw [if_pos h]; simp [h]
 ·
  rw [if_neg h]; simp [h]
theorem upd_no {l : Nat → Bool} {i j : Nat} (h : j ≠ i) : upd l i j = l j := by unfold upd; rw [if_neg h]
section
variable {w W0 W : World} {wd : Int} {lf : List SLeaf} {bt gl cl : Nat} {VV : Value} {gs : List RowG} {done : List (List SNode)} {ds : List Nat} {p : RowG} {cur : List SNode} {l : Nat → Bool} {γ γ2 κ : Nat}
theorem Nw16.pure (h : Nw16 w W0 W wd lf bt gl cl VV gs done ds p cur l γ γ2 κ) (i : Nat) (hi : i ≠ 13 ∧ i ≠ 14 ∧ i ≠ 17) (h11 : i = 11 → l 10 = true) (h12 : i = 12 → l 11 = true) : Nw16 w W0 W wd lf bt gl cl VV gs done ds p cur (upd l i) γ γ2 κ := by
 have e13 : upd l i 13 = l 13 := upd_no (by omega)
 have e14 : upd l i 14 = l 14 := upd_no (by omega)
 have e17 : upd l i 17 = l 17 := upd_no (by omega)
 refine ⟨by rw [e14]; exact h.hA, by rw [e13, e14]; exact h.hT, by rw [e14, e17]; exact h.hP, by rw [e17]; exact h.hQ, ?_, ?_, ?_, ?_, ?_⟩
 ·
  intro hx
  rcases upd_or.1 hx with hx | hx
  ·
   exact upd_or.2 (.inr (h11 hx.symm))
  ·
   exact upd_or.2 (.inr (h.o11 hx))
 ·
  intro hx
  rcases upd_or.1 hx with hx | hx
  ·
   exact upd_or.2 (.inr (h12 hx.symm))
  ·
   exact upd_or.2 (.inr (h.o12 hx))
 ·
  rw [e13]; exact fun hx => upd_or.2 (.inr (h.o13 hx))
 ·
  rw [e14, e13]; exact fun hx => ⟨(h.o14 hx).1, upd_or.2 (.inr (h.o14 hx).2)⟩
 ·
  rw [e17, e14]; exact h.o17
theorem Nw16.no4 (h : Nw16 w W0 W wd lf bt gl cl VV gs done ds p cur l γ γ2 κ) (hl : l 4 = false) : l 14 = false := by
 cases hx : l 14 with
 | false => rfl
 | true => rw [(h.o14 hx).2] at hl; cases hl
theorem Nw16.no13 (h : Nw16 w W0 W wd lf bt gl cl VV gs done ds p cur l γ γ2 κ) (hl : l 13 = false) : l 14 = false := by
 cases hx : l 14 with
 | false => rfl
 | true => rw [(h.o14 hx).1] at hl; cases hl
theorem Nw16.no10 (h : Nw16 w W0 W wd lf bt gl cl VV gs done ds p cur l γ γ2 κ) (hl : l 10 = false) : l 14 = false := by
 refine h.no13 ?_
 cases hx : l 13 with
 | false => rfl
 | true => rw [h.o11 (h.o12 (h.o13 hx))] at hl; cases hl
theorem Nw16.no17 (h : Nw16 w W0 W wd lf bt gl cl VV gs done ds p cur l γ γ2 κ) (hl : l 14 = false) : l 17 = false := by
 cases hx : l 17 with
 | false => rfl
 | true => rw [h.o17 hx] at hl; cases hl
theorem Nw16.made (h : Nw16 w W0 W wd lf bt gl cl VV gs done ds p cur l γ γ2 κ) (hl : l 13 = false) (h12 : l 12 = true) : Nw16 w W0 (W.alloc (.cells #[rowV p cur, .int .i64 (done.length : Int)] 109 (0, 0))) wd lf bt gl cl VV gs done ds p cur (upd l 13) W.heap.size γ2 κ := by
 have h14 := h.no13 hl
 have h17 := h.no17 h14
 have e14 : upd l 13 14 = l 14 := rfl
 have e17 : upd l 13 17 = l 17 := rfl
 exact ⟨fun _ => below_alloc (h.hA h14) _, fun _ _ => blk_new W _, (fun hx => by rw [e14, h14] at hx; cases hx), (fun hx => by rw [e17, h17] at hx; cases hx), h.o11, h.o12, fun _ => h12, (fun hx => by rw [e14, h14] at hx; cases hx), h.o17⟩
theorem Nw16.appended {W' : World} {g κ' : Nat} (h : Nw16 w W0 W wd lf bt gl cl VV gs done ds p cur l γ γ2 κ) (h0 : NwT w wd lf bt gl cl VV gs done ds W0) (hl : l 14 = false) (h13 : l 13 = true) (h4 : l 4 = true) (hgr : W.grownBy W' VV.ownBlock)
  (hown : W'.ownsRow (w.heap.size + 3) 109 2 (.slice (some ⟨g, 0, none⟩) (done.length + 1) κ') (done.length + 1) (cellsV 0 gs done ++ [rowV p cur, .int .i64 (done.length : Int)])) (hgg : VV.ownBlock = some g ∨ g = W.heap.size) :
  Nw16 w W0 W' wd lf bt gl cl VV gs done ds p cur (upd l 14) γ g κ' := by
 have h17 := h.no17 hl
 have hb := h.hA hl
 have e17 : upd l 14 17 = l 17 := rfl
 have e14 : upd l 14 14 = true := rfl
 have hsz := hb.size
 refine ⟨(fun hx => by rw [e14] at hx; cases hx), (fun _ hx => by rw [e14] at hx; cases hx), fun _ _ => ⟨fun k hk hn => (hgr.block k (by omega) (fun e => hn e.symm)).trans (hb.block k hk), hown, ?_, ?_⟩, (fun hx => by rw [e17, h17] at hx; cases hx), h.o11, h.o12, h.o13, fun _ => ⟨h13, h4⟩, fun _ => rfl⟩
 ·
  rcases hgg with hx | hx
  ·
   exact .inl hx
  ·
   exact .inr (by omega)
 ·
  exact below_grown (h0.bx.hB.trans (hb.mono h0.bx.hB.size)) hgr (fun r e => by have := (h0.hv.lt r e).1; omega)
theorem Nw16.stored (h : Nw16 w W0 W wd lf bt gl cl VV gs done ds p cur l γ γ2 κ) (h0 : NwT w wd lf bt gl cl VV gs done ds W0) (hc : W0.ownsRow (w.heap.size + 3) 46 3 (rowV p cur) cur.length (cellsN cur)) (ho : NwT.Off w bt gl VV gs W0 p.1) (hl : l 17 = false) (h14 : l 14 = true) :
  Nw16 w W0 (W.setCell ⟨bt, 2, none⟩ (.slice (some ⟨γ2, 0, none⟩) (done.length + 1) κ)) wd lf bt gl cl VV gs done ds p cur (upd l 17) γ γ2 κ := by
 obtain ⟨p1, p2, p3, p4⟩ := h.hP h14 hl
 have e14 : upd l 17 14 = l 14 := rfl
 have e17 : upd l 17 17 = true := rfl
 exact ⟨(fun hx => by rw [e14, h14] at hx; cases hx), (fun _ hx => by rw [e14, h14] at hx; cases hx), (fun _ hx => by rw [e17] at hx; cases hx), fun _ => h0.level hc ho p1 p2 p3 p4, h.o11, h.o12, h.o13, h.o14, fun _ => h14⟩
end
theorem own_base {w : World} {base base' n size : Nat} {xs : List Value} {e : TypeId} {v : Value} (h : w.ownsRow base e size v n xs) (hb : base' ≤ base) : w.ownsRow base' e size v n xs := by
 obtain ⟨hlen, h⟩ := h
 refine ⟨hlen, ?_⟩
 rcases h with h | ⟨g', cap', cur, hv, hbb, hr⟩
 ·
  exact .inl h
 ·
  exact .inr ⟨g', cap', cur, hv, Nat.le_trans hb hbb, hr⟩
def lenT (a : Act) : Nat := match a.tmps.getD 8 undef with
 | .slice _ n _ => n
 | _ => 0
structure NwH (w : World) (wd : Int) (ls : List SLeaf) (bt gl cl : Nat) (gs : List RowG) (done : List (List SNode)) (ds : List Nat) (cur : List SNode) (gc cc : Nat) (A9 : Option Addr) (c9 : Nat) (V : World) : Prop where
 t : NwT w wd ls bt gl cl (.slice A9 done.length c9) gs done ds V
 c : V.ownsRow (w.heap.size + 3) 46 3 (rowV (gc, cc) cur) cur.length (cellsN cur)
 o : NwT.Off w bt gl (.slice A9 done.length c9) gs V gc
 k : ∃ k K, cur.length = 2 ^ k ∧ ls.length = 2 ^ K ∧ done.length + k = K ∧ done ++ levelsV wd k cur = levelsV wd K (ls.map (leafNodeI wd))
 n : ∀ x ∈ cur, NodeK wd x
 s : totL cur = totL (ls.map (leafNodeI wd))
 m : done.length ≤ 11 ∧ cur.length ≤ 1024 ∧ ls.length ≤ 1024
 d : ∀ D ∈ ds, w.heap.size ≤ D
theorem exec_append {P : Program} {oi : Oper} {a : Act} {w w' : World} {v : Value} (s x : Operand) (t : TypeId) (ho : oi.op = .call { callee := .builtin .append, args := #[s, x], argTypes := #[t, t] }) (v1 v2 : Value) (hs : a.eval s = v1) (hx : a.eval x = v2) (hr : (Builtin.append_ #[t, t] oi.type #[v1, v2]).run P w = .ok v w') :
  (execOp a.eval oi).run P w = .ok (.value v) w' := by
 unfold execOp
 simp only [ho, resolve, invoke, builtin, Sem.run_bind, Sem.run_pure, Result.andThen_ok, List.map_toArray, List.map_cons, List.map_nil, hs, hx, hr]
structure TreeOwn (base : Nat) (W : World) (a : Nat) (T : STree) (gl cl : Nat) (VV : Value) (gs : List RowG) : Prop where
 ht : W.heap[a]? = some (.cells #[.int .i64 T.wd, .slice (some ⟨gl, 0, none⟩) T.leaves.length cl, VV] 105 (0, 0))
 hl : W.ownsRow base 36 5 (.slice (some ⟨gl, 0, none⟩) T.leaves.length cl) T.leaves.length (cellsL T.leaves)
 hv : W.ownsRow base 109 2 VV T.rows.length (cellsV 0 gs T.rows)
 hg : OwnRows W base gs T.rows
 ap : (a :: gl :: gs.map Prod.fst).Nodup
 av : ∀ k, VV.ownBlock = some k → k ∉ a :: gl :: gs.map Prod.fst
 lo : base ≤ a
def treeT (wd : Int) (l : List SLeaf) : STree := ⟨wd, l, levelsV wd l.length.log2 (l.map (leafNodeI wd))⟩
def NewPost (w : World) (wd : Int) (l : List SLeaf) (e : Ending) (w' : World) : Prop :=
 Below w.heap.size w w' ∧ ((newI wd l = 0 ∧ ∃ a gl cl VV gs, e = .returned (.tuple #[ptrT a, .int .i64 0]) ∧ TreeOwn w.heap.size w' a (treeT wd l) gl cl VV gs) ∨ (newI wd l ≠ 0 ∧ e = .returned (.tuple #[.pointer none, .int .i64 (newI wd l)])))
theorem newErr {w W : World} {wd : Int} {l : List SLeaf} {tmps : Array Value} {e : Int} (h : NwB w wd W) (h4 : tmps.getD 4 undef = .pointer (some ⟨w.heap.size + 1, 0, none⟩)) (h5 : tmps.getD 5 undef = .pointer (some ⟨w.heap.size + 1 + 1, 0, none⟩)) (he : newI wd l = e) (hn : e ≠ 0) :
  Exit.noGoto (bodyPostM Fence.wide 3 Tryd.prog Tryd.f14 (NewPost w wd l)) Exit.ret { tmps := tmps, defers := [] } ((W.setCell ⟨w.heap.size + 1, 0, none⟩ (.pointer none)).setCell ⟨w.heap.size + 1 + 1, 0, none⟩ (.int .i64 e)) := by
 obtain ⟨p4, p5, pb⟩ := h.put (.pointer none) (.int .i64 e)
 exact ret0 _ (new_results _ _ _ _ _ _ h4 h5 p4 p5) ⟨pb, .inr ⟨by rw [he]; exact hn, by rw [he]⟩⟩
theorem ButD.below {w W W' : World} {ds : List Nat} (h : ButD ds W W') (hB : Below w.heap.size w W) (hd : ∀ D ∈ ds, w.heap.size ≤ D) : Below w.heap.size w W' :=
 ⟨h.os.trans hB.os, h.tape.trans hB.tape, h.output.trans hB.output, by rw [h.size]; exact hB.size, fun i hi => (h.heap i (fun e => by have := hd i e; omega)).trans (hB.block i hi)⟩
theorem OwnRows.cellsAt {W : World} {base : Nat} : ∀ {gs : List RowG} {rs : List (List SNode)}, OwnRows W base gs rs → ∀ k ∈ gs.map Prod.fst, ∃ c, W.heap[k]? = some (.cells c 46 (0, 0))
 | [], [], _, k, hk => by cases hk
 | p :: gs, r :: rs, h, k, hk => by
  rw [List.map_cons] at hk
  rcases List.mem_cons.1 hk with rfl | hk
  ·
   exact own_cells h.1 rfl
  ·
   exact h.2.cellsAt k hk
theorem OwnRows.base {W : World} {base base' : Nat} (hb : base' ≤ base) : ∀ {gs : List RowG} {rs : List (List SNode)}, OwnRows W base gs rs → OwnRows W base' gs rs
 | [], [], _ => trivial
 | _ :: _, _ :: _, h => ⟨own_base h.1 hb, h.2.base hb⟩
theorem newDone {w W : World} {wd : Int} {ls : List SLeaf} {bt gl cl : Nat} {VV : Value} {gs : List RowG} {done : List (List SNode)} {ds : List Nat} {tmps : Array Value} (h : NwT w wd ls bt gl cl VV gs done ds W) (hds : ∀ D ∈ ds, w.heap.size ≤ D)
  (h4 : tmps.getD 4 undef = .pointer (some ⟨w.heap.size + 1, 0, none⟩)) (h5 : tmps.getD 5 undef = .pointer (some ⟨w.heap.size + 1 + 1, 0, none⟩)) (hI : newI wd ls = 0) (hr : done = levelsV wd ls.length.log2 (ls.map (leafNodeI wd))) :
  Exit.noGoto (bodyPostM Fence.wide 3 Tryd.prog Tryd.f14 (NewPost w wd ls)) Exit.ret { tmps := tmps, defers := ds.map markD } ((W.setCell ⟨w.heap.size + 1, 0, none⟩ (ptrT bt)).setCell ⟨w.heap.size + 1 + 1, 0, none⟩ (.int .i64 0)) := by
 obtain ⟨p4, p5, pb⟩ := h.bx.put (ptrT bt) (.int .i64 0)
 have hs := h.size
 have hset : ∀ k, w.heap.size + 3 ≤ k → ((W.setCell ⟨w.heap.size + 1, 0, none⟩ (ptrT bt)).setCell ⟨w.heap.size + 1 + 1, 0, none⟩ (.int .i64 0)).heap[k]? = W.heap[k]? := fun k hk =>
  (Below.heap_setCell _ _ _ _ (by show k ≠ w.heap.size + 1 + 1; omega)).trans (Below.heap_setCell _ _ _ _ (by show k ≠ w.heap.size + 1; omega))
 have hdd : ∀ D ∈ ds, ∃ o, ((W.setCell ⟨w.heap.size + 1, 0, none⟩ (ptrT bt)).setCell ⟨w.heap.size + 1 + 1, 0, none⟩ (.int .i64 0)).heap[D]? = some (.deferred o) ∧ o = some [] := fun D hD => by
  have h1 := h.hd D hD
  have n1 : D ≠ w.heap.size + 1 := fun e => by rw [e, h.bx.h4] at h1; cases h1
  have n2 : D ≠ w.heap.size + 1 + 1 := fun e => by rw [e, h.bx.h5] at h1; cases h1
  exact ⟨_, (Below.heap_setCell _ _ _ _ n2).trans ((Below.heap_setCell _ _ _ _ n1).trans h1), rfl⟩
 refine retD (v := .tuple #[ptrT bt, .int .i64 0]) h.dn (fun D hD => by obtain ⟨o, h1, rfl⟩ := hdd D hD; exact h1) (fun W' hW' => ?_)
 have hno : ∀ (k : Nat) (c : Array Value) (t : TypeId) (f : Nat × Nat), ((W.setCell ⟨w.heap.size + 1, 0, none⟩ (ptrT bt)).setCell ⟨w.heap.size + 1 + 1, 0, none⟩ (.int .i64 0)).heap[k]? = some (Obj.cells c t f) → W'.heap[k]? = some (Obj.cells c t f) := fun k c t f hk => by
  rw [hW'.heap k (fun hD => ?_)]
  ·
   exact hk
  ·
   obtain ⟨o, h1, -⟩ := hdd k hD
   rw [hk] at h1
   cases h1
 have hsame : ∀ k, w.heap.size + 3 ≤ k → (∃ (c : Array Value) (t : TypeId) (f : Nat × Nat), W.heap[k]? = some (Obj.cells c t f)) → W'.heap[k]? = W.heap[k]? := fun k hk ⟨c, t, f, hc⟩ => by
  rw [hno k c t f ((hset k hk).trans hc), hc]
 refine ⟨new_results _ _ _ _ _ _ h4 h5 (hno _ _ _ _ p4) (hno _ _ _ _ p5), hW'.below pb hds, .inl ⟨hI, bt, gl, cl, VV, gs, rfl, ?_⟩⟩
 have hT : (treeT wd ls).rows = done := hr.symm
 have hgl := h.hl.lt gl rfl
 refine ⟨(hsame bt h.lo ⟨_, _, _, h.ht⟩).trans h.ht, own_base (own_keep h.hl (hsame gl hgl.1 (by obtain ⟨c, hc⟩ := own_cells h.hl rfl; exact ⟨_, _, _, hc⟩))) (Nat.le_add_right _ 3), ?_, ?_, h.ap, h.av, by have := h.lo; omega⟩
 ·
  rw [hT]
  refine own_base (ownAny_keep h.hv (fun g hg => hsame g (h.hv.lt g hg).1 ?_)) (Nat.le_add_right _ 3)
  obtain ⟨c, hc⟩ := own_cells h.hv hg
  exact ⟨_, _, _, hc⟩
 ·
  rw [hT]
  refine (h.hg.keep (fun k hk => hsame k (h.hg.lt k hk).1 ?_)).base (Nat.le_add_right _ 3)
  obtain ⟨c, hc⟩ := h.hg.cellsAt k hk
  exact ⟨_, _, _, hc⟩
theorem newErrD {w W : World} {wd : Int} {ls : List SLeaf} {ds : List Nat} {tmps : Array Value} {e : Int} (hB : Below w.heap.size w W) (hn : ds.Nodup) (hd : ∀ D ∈ ds, W.heap[D]? = some (.deferred (some []))) (hds : ∀ D ∈ ds, w.heap.size ≤ D)
  (h4 : tmps.getD 4 undef = .pointer (some ⟨w.heap.size + 1, 0, none⟩)) (h5 : tmps.getD 5 undef = .pointer (some ⟨w.heap.size + 1 + 1, 0, none⟩)) (p4 : W.heap[w.heap.size + 1]? = some (.cells #[.pointer none] 25 (0, 0))) (p5 : W.heap[w.heap.size + 1 + 1]? = some (.cells #[.int .i64 e] 26 (0, 0)))
  (hI : newI wd ls = e) (h0 : e ≠ 0) : Exit.noGoto (bodyPostM Fence.wide 3 Tryd.prog Tryd.f14 (NewPost w wd ls)) Exit.ret { tmps := tmps, defers := ds.map markD } W := by
 refine retD (v := .tuple #[.pointer none, .int .i64 e]) hn hd (fun W' hW' => ?_)
 have hno : ∀ (k : Nat) (c : Array Value) (t : TypeId) (f : Nat × Nat), W.heap[k]? = some (Obj.cells c t f) → W'.heap[k]? = some (Obj.cells c t f) := fun k c t f hk => by
  rw [hW'.heap k (fun hD => ?_)]
  ·
   exact hk
  ·
   have := hd k hD
   rw [hk] at this
   cases this
 exact ⟨new_results _ _ _ _ _ _ h4 h5 (hno _ _ _ _ p4) (hno _ _ _ _ p5), hW'.below hB hds, .inr ⟨by rw [hI]; exact h0, by rw [hI]⟩⟩
theorem NwH.one {w : World} {wd : Int} {ls : List SLeaf} {bt gl cl : Nat} {gs : List RowG} {done : List (List SNode)} {ds : List Nat} {cur : List SNode} {gc cc : Nat} {A9 : Option Addr} {c9 : Nat} {V : World} (h : NwH w wd ls bt gl cl gs done ds cur gc cc A9 c9 V) (h1 : cur.length = 1) :
  totL (ls.map (leafNodeI wd)) < 340282366920938463463374607431768211456 ∧ done ++ [cur] = levelsV wd ls.length.log2 (ls.map (leafNodeI wd)) := by
 obtain ⟨k, K, e1, e2, e3, e4⟩ := h.k
 have hk : k = 0 := by
  rcases Nat.eq_zero_or_pos k with h | h
  ·
   exact h
  ·
   have := Nat.pow_lt_pow_right (a := 2) (by decide) h; omega
 subst hk
 refine ⟨?_, ?_⟩
 ·
  rw [← h.s]
  match cur, h1, h.n with
  | [x], _, hn => have := valU_lt (hn x (by simp)).u; simp [totL]; exact this
 ·
  rw [e2, Nat.log2_two_pow, ← e4]; rfl
theorem newI_ok {wd : Int} {ls : List SLeaf} (hw : ¬ (wd < 1 ∨ 32 < wd)) (hp : isPow ls.length = true) (ha : ls.all mayLeafI = true) (ht : totL (ls.map (leafNodeI wd)) < 340282366920938463463374607431768211456) : newI wd ls = 0 := by
 unfold newI; rw [if_neg hw, if_neg (by rw [hp]; decide), if_neg (by rw [ha]; decide), if_pos ht]
theorem newI_full {wd : Int} {ls : List SLeaf} (hw : ¬ (wd < 1 ∨ 32 < wd)) (hp : isPow ls.length = true) (ha : ls.all mayLeafI = true) (ht : ¬ totL (ls.map (leafNodeI wd)) < 340282366920938463463374607431768211456) : newI wd ls = 10 := by
 unfold newI; rw [if_neg hw, if_neg (by rw [hp]; decide), if_neg (by rw [ha]; decide), if_neg ht]
end Go.Proofs.YtfcodmdckcihmaaDoor.P
namespace Go.Proofs.YtfcodmdckcihmaaDoor.P
open Go.RowKit Go.Proofs.YtfcodmdckcihmaaDoorW.PrintWords Go.Proofs.YtfcodmdckcihmaaDoorW.PrintLast Go.Proofs.YtfcodmdckcihmaaDoorW.PrintMore
set_option linter.unusedVariables false
set_option linter.unusedSimpArgs false
set_option linter.unnecessarySimpa false
structure NwBd (w : World) (bt gl : Nat) (VV : Value) (gs : List RowG) (ds : List Nat) (H : Nat) : Prop where
 l : ∀ k ∈ bt :: gl :: gs.map Prod.fst, k < H
 v : ∀ k, VV.ownBlock = some k → k < H
 b : w.heap.size + 3 ≤ H
 d : ∀ D ∈ ds, D < H
section
variable {w : World} {wd : Int} {ls : List SLeaf} {bt gl cl : Nat} {VV : Value} {gs : List RowG} {done : List (List SNode)} {ds : List Nat}
theorem NwT.bd {W : World} (h : NwT w wd ls bt gl cl VV gs done ds W) : NwBd w bt gl VV gs ds W.heap.size :=
 ⟨fun k hk => (h.size k hk).2, fun k hk => (h.hv.lt k hk).2, by have := h.bx.lt; omega, fun D hD => blk_lt (h.hd D hD)⟩
theorem NwT.upto {W W' : World} {H : Nat} (h : NwT w wd ls bt gl cl VV gs done ds W) (hb : NwBd w bt gl VV gs ds H) (hk : ∀ k, k < H → W'.heap[k]? = W.heap[k]?) (hB : Below w.heap.size w W') : NwT w wd ls bt gl cl VV gs done ds W' := by
 have hin : ∀ k ∈ bt :: gl :: gs.map Prod.fst, W'.heap[k]? = W.heap[k]? := fun k hm => hk k (hb.l k hm)
 refine ⟨h.bx.keep (fun k hlt2 => hk k (by have := hb.b; omega)) hB, (hin bt (by simp)).trans h.ht, own_keep h.hl (hin gl (by simp)), ownAny_keep h.hv (fun g hg => hk g (hb.v g hg)), h.hg.keep (fun k hm => hin k (by simp at hm ⊢; exact .inr (.inr hm))), h.ap, h.av, h.lo, h.dn, fun D hD => (hk D (hb.d D hD)).trans (h.hd D hD)⟩
structure NxS (w : World) (wd : Int) (ls : List SLeaf) (bt gl cl : Nat) (VV : Value) (gs : List RowG) (done : List (List SNode)) (ds : List Nat) (b12 H : Nat) (nx : List SNode) (V : World) : Prop where
 hH : b12 < H
 t : NwT w wd ls bt gl cl VV gs done ds V
 bd : NwBd w bt gl VV gs ds b12
 b : ∃ A c, V.heap[b12]? = some (.cells #[.slice A nx.length c] 43 (0, 0)) ∧ V.ownsRow H 46 3 (.slice A nx.length c) nx.length (cellsN nx)
theorem NxS.lt {b12 H : Nat} {nx : List SNode} {V : World} (h : NxS w wd ls bt gl cl VV gs done ds b12 H nx V) : b12 < V.heap.size := by
 obtain ⟨A, c, h1, -⟩ := h.b
 exact blk_lt h1
theorem NxS.below {b12 H : Nat} {nx : List SNode} {V V' : World} (h : NxS w wd ls bt gl cl VV gs done ds b12 H nx V) (hb : Below V.heap.size V V') : NxS w wd ls bt gl cl VV gs done ds b12 H nx V' := by
 obtain ⟨A, c, h1, h2⟩ := h.b
 exact ⟨h.hH, h.t.below hb, h.bd, A, c, blk_below h1 hb, ownB h2 hb⟩
theorem NxS.grown {b12 H : Nat} {nx : List SNode} {X Y : World} {row : Option Nat} (h : NxS w wd ls bt gl cl VV gs done ds b12 H nx X) (hg : X.grownBy Y row) (hr : ∀ r, row = some r → H ≤ r ∧ ∃ o, X.heap[r]? = some o ∧ o.isCells = false) : NxS w wd ls bt gl cl VV gs done ds b12 H nx Y := by
 obtain ⟨A, c, h1, h2⟩ := h.b
 have hlt := h.lt
 have hH := h.hH
 have hk : ∀ k, k < b12 + 1 → Y.heap[k]? = X.heap[k]? := fun k hk => hg.block k (by omega) (fun e => by have := (hr k e.symm).1; omega)
 refine ⟨h.hH, h.t.upto h.bd (fun k hk2 => hk k (by omega)) (below_grown h.t.bx.hB hg (fun r e => by have := (hr r e).1; have := h.bd.b; omega)), h.bd, A, c, (hk b12 (by omega)).trans h1, ownAny_keep h2 (fun g hg2 => hg.block g (h2.lt g hg2).2 (fun e => ?_))⟩
 obtain ⟨o, ho, hc⟩ := (hr g e.symm).2
 obtain ⟨cs, h3⟩ := own_cells h2 hg2
 rw [h3] at ho
 cases ho
 cases hc
theorem NxS.more {b12 H : Nat} {nx : List SNode} {V W' : World} {x : SNode} {A : Option Addr} {c : Nat} {A' : Option Addr} {c' : Nat} (h : NxS w wd ls bt gl cl VV gs done ds b12 H nx V) (h1 : V.heap[b12]? = some (.cells #[.slice A nx.length c] 43 (0, 0))) (h2 : V.ownsRow H 46 3 (.slice A nx.length c) nx.length (cellsN nx))
  (hgr : V.grownBy W' (Value.slice A nx.length c).ownBlock) (hown : W'.ownsRow H 46 3 (.slice A' (nx.length + 1) c') (nx.length + 1) (cellsN nx ++ [.string x.f0, .int .u64 x.f1.f0, .int .u64 x.f1.f1])) :
  NxS w wd ls bt gl cl VV gs done ds b12 H (nx ++ [x]) (W'.setCell ⟨b12, 0, none⟩ (.slice A' (nx.length + 1) c')) := by
 have hlt := h.lt
 have hH := h.hH
 have hk : ∀ k, k < b12 + 1 → W'.heap[k]? = V.heap[k]? := fun k hk => hgr.block k (by omega) (fun e => by have := (h2.lt k e.symm).1; omega)
 have hl : (nx ++ [x]).length = nx.length + 1 := by simp
 refine ⟨h.hH, h.t.upto h.bd (fun k hk2 => (Below.heap_setCell _ _ _ _ (by show k ≠ b12; omega)).trans (hk k (by omega))) ((below_grown h.t.bx.hB hgr (fun r e => by have := (h2.lt r e).1; have := h.bd.b; omega)).setCell (by have := h.bd.b; show w.heap.size ≤ b12; omega) _), h.bd, A', c', ?_, ?_⟩
 ·
  rw [hl]
  exact blk_put ((hk b12 (by omega)).trans h1) 0 _ rfl
 ·
  rw [hl, cellsN_append]
  exact ownAny_keep hown (fun g hg => Below.heap_setCell _ _ _ _ (by have := (hown.lt g hg).1; show g ≠ b12; omega))
end
theorem OwnRows.last {W : World} {base : Nat} {p : RowG} {r : List SNode} : ∀ {gs : List RowG} {rs : List (List SNode)}, gs.length = rs.length → OwnRows W base (gs ++ [p]) (rs ++ [r]) → W.ownsRow base 46 3 (rowV p r) r.length (cellsN r)
 | [], [], _, h => h.1
 | _ :: _, _ :: _, hl, h => OwnRows.last (by simpa using hl) h.2
structure NxE (w : World) (ds : List Nat) (V : World) : Prop where
 hB : Below w.heap.size w V
 h4 : V.heap[w.heap.size + 1]? = some (.cells #[.pointer none] 25 (0, 0))
 h5 : V.heap[w.heap.size + 1 + 1]? = some (.cells #[.int .i64 10] 26 (0, 0))
 hd : ∀ D ∈ ds, V.heap[D]? = some (.deferred (some []))
theorem NxE.grown {w : World} {ds : List Nat} {X Y : World} {H : Nat} {row : Option Nat} (h : NxE w ds X) (hg : X.grownBy Y row) (hr : ∀ r, row = some r → H ≤ r) (hH : w.heap.size + 3 ≤ H) (hd : ∀ D ∈ ds, D < H) : NxE w ds Y := by
 have h5 := blk_lt h.h5
 exact ⟨below_grown h.hB hg (fun r e => by have := hr r e; omega), (hg.block _ (by omega) (fun e => by have := hr _ e.symm; omega)).trans h.h4, (hg.block _ h5 (fun e => by have := hr _ e.symm; omega)).trans h.h5, fun D hD => (hg.block D (blk_lt (h.hd D hD)) (fun e => by have := hr _ e.symm; have := hd D hD; omega)).trans (h.hd D hD)⟩
theorem NxE.made {w : World} {wd : Int} {ls : List SLeaf} {bt gl cl : Nat} {VV : Value} {gs : List RowG} {done : List (List SNode)} {ds : List Nat} {W : World} (h : NwT w wd ls bt gl cl VV gs done ds W) : NxE w ds ((W.setCell ⟨w.heap.size + 1, 0, none⟩ (.pointer none)).setCell ⟨w.heap.size + 1 + 1, 0, none⟩ (.int .i64 10)) := by
 obtain ⟨p4, p5, pb⟩ := h.bx.put (.pointer none) (.int .i64 10)
 refine ⟨pb, p4, p5, fun D hD => ?_⟩
 have h1 := h.hd D hD
 have n1 : D ≠ w.heap.size + 1 := fun e => by rw [e, h.bx.h4] at h1; cases h1
 have n2 : D ≠ w.heap.size + 1 + 1 := fun e => by rw [e, h.bx.h5] at h1; cases h1
 exact (Below.heap_setCell _ _ _ _ n2).trans ((Below.heap_setCell _ _ _ _ n1).trans h1)
theorem NwH.next {w : World} {wd : Int} {ls : List SLeaf} {bt gl cl : Nat} {gs : List RowG} {done : List (List SNode)} {ds : List Nat} {cur : List SNode} {gc cc : Nat} {A9 : Option Addr} {c9 : Nat} {V V' : World} {γ2 κ2 m g c D b12 H : Nat}
  (h : NwH w wd ls bt gl cl gs done ds cur gc cc A9 c9 V) (hm : cur.length = 2 * m) (hm1 : 1 ≤ m) (hok : pairsOk cur = true) (hx : NxS w wd ls bt gl cl (.slice (some ⟨γ2, 0, none⟩) (done.length + 1) κ2) (gs ++ [(gc, cc)]) (done ++ [cur]) ds b12 H (pairsV wd cur) V')
  (hc : V'.ownsRow H 46 3 (.slice (some ⟨g, 0, none⟩) m c) m (cellsN (pairsV wd cur))) (hD : b12 ≤ D) (hdf : V'.heap[D]? = some (.deferred (some []))) :
  NwH w wd ls bt gl cl (gs ++ [(gc, cc)]) (done ++ [cur]) (D :: ds) (pairsV wd cur) g c (some ⟨γ2, 0, none⟩) κ2 V' := by
 have hl : (done ++ [cur]).length = done.length + 1 := by simp
 have hpl : (pairsV wd cur).length = m := pairsV_len wd m cur hm
 have hgl := hc.lt g rfl
 have hH := hx.hH
 obtain ⟨cs, hcs⟩ := own_cells hc rfl
 obtain ⟨k, K, e1, e2, e3, e4⟩ := h.k
 obtain ⟨k, rfl⟩ : ∃ j, k = j + 1 := by
  cases k with
  | zero => rw [e1] at hm; omega
  | succ k => exact ⟨k, rfl⟩
 have hK : K ≤ 10 := by
  rcases Nat.lt_or_ge 10 K with h1 | h1
  ·
   have h2 := Nat.pow_le_pow_right (n := 2) (by decide) (show 11 ≤ K by omega)
   have h3 : ls.length ≤ 1024 := h.m.2.2
   omega
  ·
   exact h1
 have hH2 := hx.hH
 rw [← hl] at hx
 refine ⟨⟨hx.t.bx, hx.t.ht, hx.t.hl, hx.t.hv, hx.t.hg, hx.t.ap, hx.t.av, hx.t.lo, List.nodup_cons.2 ⟨fun hm2 => by have := hx.bd.d D hm2; omega, hx.t.dn⟩, fun D' hD' => ?_⟩, ?_, ⟨by have := hx.bd.b; omega, fun hm2 => by have := hx.bd.l g hm2; omega, fun e => by have := hx.bd.v g e; omega, cs, _, _, hcs⟩, ⟨k, K, ?_, e2, by rw [hl]; omega, ?_⟩, pairsV_k m cur hm h.n hok, (pairsV_tot wd m cur hm).trans h.s, ⟨?_, by rw [hpl]; have := h.m.2.1; omega, h.m.2.2⟩, fun D' hD' => ?_⟩
 ·
  rcases List.mem_cons.1 hD' with rfl | hD'
  ·
   exact hdf
  ·
   exact hx.t.hd D' hD'
 ·
  have h0 := own_base hc (show w.heap.size + 3 ≤ H by have := hx.bd.b; omega)
  rw [rowV, hpl]
  exact h0
 ·
  rw [hpl]
  rw [e1, Nat.pow_succ] at hm
  omega
 ·
  rw [← e4, List.append_assoc]; rfl
 ·
  rw [hl]; omega
 ·
  rcases List.mem_cons.1 hD' with rfl | hD'
  ·
   have := hx.bd.b; omega
  ·
   exact h.d D' hD'
end Go.Proofs.YtfcodmdckcihmaaDoor.P
namespace Go.Proofs.YtfcodmdckcihmaaDoor.P
open Go.RowKit Go.Proofs.YtfcodmdckcihmaaDoorW.PrintWords Go.Proofs.YtfcodmdckcihmaaDoorW.PrintLast Go.Proofs.YtfcodmdckcihmaaDoorW.PrintMore
set_option linter.unusedVariables false
set_option linter.unusedSimpArgs false
set_option linter.unnecessarySimpa false
attribute [local go_sem] Oper.semAt_some sel_true
set_option maxRecDepth 100000 in
set_option maxHeartbeats 4000000 in
theorem treeNew.calls (wd : Int) (A : Option Addr) (c : Nat) (ls : List SLeaf) (w : World) (hK : LaidT w) (hr : Kd.C kLeaf w A ls.length ls) (hc : ls.length ≤ c) (hn : ls.length ≤ 1024) (hl : ∀ x ∈ ls, OkL x) :
  Calls Tryd.prog 14 #[.int .i64 wd, .slice A ls.length c] w (NewPost w wd ls) := by
 have HK := aM' hK
 have HR := aM' hr
 have HC := aM' hc
 have HN := aM' hn
 have HL := aM' hl
 clear hK hr hc hl hn
 obtain ⟨i0, hi, hz0, hz1, hz2⟩ := info_parts nodeInfo
 have hS0 := NwB.start w wd
 have HS0 := aM' hS0
 clear hS0
 refine (callsIn_wide (n := 3)).1 ?_
 refine callsIn_of_wp_marks Tryd.func14 rfl trivial ?_ rfl
 simp only [Tryd.ntmps14, List.size_toArray, List.length_cons, List.length_nil, Nat.reduceAdd, Nat.reduceSub, Array.replicate_succ, Array.replicate_zero, List.push_toArray, List.append_toArray, List.nil_append, List.cons_append]
 refine wpIn_wide.2 ?_
 go_wp2_with fail
 go_step3
 go_wp2_with fail
 obtain ⟨W0, hW0⟩ : ∃ V, V = ((w.alloc (.cells #[.int .i64 wd] 3)).alloc (.cells #[.pointer none] 25)).alloc (.cells #[.int .i64 0] 26) := ⟨_, rfl⟩
 rw [← hW0] at HS0 ⊢
 clear hW0
 have hsz0 := HS0.out.lt
 refine (height.calls ls.length _ HN.out).mono ?_
 rintro e w1 ⟨⟨h, rfl⟩, rfl⟩
 have x2 : W0.cell? ⟨w.heap.size, 0, none⟩ = some (.int .i64 wd) := blk_cell HS0.out.h2 0
 have x4 : W0.cell? ⟨w.heap.size + 1, 0, none⟩ = some (.pointer none) := blk_cell HS0.out.h4 0
 have x5 : W0.cell? ⟨w.heap.size + 1 + 1, 0, none⟩ = some (.int .i64 0) := blk_cell HS0.out.h5 0
 have f4 : ∀ i, W0.frozen? ⟨w.heap.size + 1, i, none⟩ = false := fun i => blk_frozen HS0.out.h4 i
 have f5 : ∀ i, W0.frozen? ⟨w.heap.size + 1 + 1, i, none⟩ = false := fun i => blk_frozen HS0.out.h5 i
 by_cases hw : wd < 1 ∨ 32 < wd
 ·
  have HI := aM' (show newI wd ls = 70 by unfold newI; rw [if_pos hw])
  by_cases h1 : wd < 1
  ·
   have b1 : decide (wd < 1) = true := decide_eq_true h1
   clear hw
   go_wp2
   exact newErr HS0.out rfl rfl HI.out (by decide)
  ·
   have b1 : decide (wd < 1) = false := decide_eq_false h1
   have b2 : decide (32 < wd) = true := decide_eq_true (by omega)
   clear hw
   go_wp2
   exact newErr HS0.out rfl rfl HI.out (by decide)
 ·
  have b1 : decide (wd < 1) = false := decide_eq_false (by omega)
  have b2 : decide (32 < wd) = false := decide_eq_false (by omega)
  have HW := aM' hw
  clear hw
  cases hp : isPow ls.length with
  | false =>
   have HI := aM' (show newI wd ls = 120 by unfold newI; rw [if_neg HW.out, if_pos hp])
   clear hp
   go_wp2
   exact newErr HS0.out rfl rfl HI.out (by decide)
  | true =>
   have HP := aM' hp
   clear hp
   have HSz := aM' hsz0
   clear hsz0
   go_wp2
   go_step3
   go_wp2
   clear x2 x4 x5 f4 f5 b1 b2
   go_loopw [8, 34] (fun v8 v34 wr => ∃ i : Nat, v34 = .int .i64 (i : Int) ∧ Aside0 (i ≤ ls.length ∧ (∀ x ∈ ls.take i, mayLeafI x = true)) ∧ Aside0 (NwB w wd wr) ∧ Aside0 (wr.ownsRow (w.heap.size + 3) 46 3 v8 i (cellsN ((ls.take i).map (leafNodeI wd))))) (fun _ v34 _ => ls.length - (intOf v34).toNat)
   case atStart => exact ⟨0, rfl, ⟨Nat.zero_le _, by simp⟩, HS0, ⟨World.ownsRow_nil _ _ _ _⟩⟩
   case round =>
    obtain ⟨i, rfl, HI, HS, HO⟩ := hrel
    obtain ⟨A8, c8, rfl⟩ : ∃ A8 c8, u8 = .slice A8 i c8 := by
     rcases HO.out.2 with ⟨h, h0⟩ | ⟨g, cap, cur, h, _⟩
     ·
      exact ⟨none, 0, by rw [h, h0]⟩
     ·
      exact ⟨_, _, h⟩
    by_cases hlt : i < ls.length
    ·
     have b1 : decide ((i : Int) < (ls.length : Int)) = true := decide_eq_true (by omega)
     have b2 : decide (i < ls.length) = true := decide_eq_true hlt
     obtain ⟨ad, e1, p0, p1, p2, p3, p4⟩ := at_TLeaf (Kd.C_below HR.out HS.out.hB) (i : Int) (by omega) (by omega)
     subst e1
     have e3 : rd_TLeaf ls (i : Int) = ls[i] := by rw [rd_TLeaf, Int.toNat_natCast]; simp [List.getD_eq_getElem?_getD, hlt]
     rw [e3, Int.toNat_natCast] at p0 p1 p2 p3 p4
     have htk : ls.take (i + 1) = ls.take i ++ [ls[i]] := by rw [List.take_succ_eq_append_getElem hlt]
     have hok := HL.out ls[i] (List.getElem_mem hlt)
     have hmem : ls[i] ∈ ls := List.getElem_mem hlt
     generalize ls[i] = x at p0 p1 p2 p3 p4 htk hok hmem
     have HMEM := aM' hmem
     have HM := aM' (tagMayLeaf_eq x hok.id)
     obtain ⟨kl, hkl⟩ := (tagLeafNode_ev wd x hok.id hok.sa).rounds
     have HLN := aM' hkl
     have HTK := aM' htk
     have HLT := aM' hlt
     clear hkl htk hok e3 hmem
     have hx2 := blk_cell (blk_alloc HS.out.h2 (.cells (acL x) 36)) 0
     go_wp2_with fail
     have HS1 := aM' (HS.out.below (below_alloc (Below.refl _ _) (.cells (acL x) 36)))
     have HX := aM' (blk_new wr (.cells (acL x) 36))
     have HO1 := aM' (ownB HO.out (below_alloc (Below.refl _ _) (.cells (acL x) 36)))
     clear p0 p1 p2 p3 p4 hx2
     refine (tag_MayLeaf.calls x.f0 x.f1 x.f2 x.f3.f0 x.f3.f1 (mayLeafI x) _ (HK.out.below HS1.out.hB) HM.out).mono ?_
     rintro e w2 ⟨rfl, hb⟩
     have HS2 := aM' (HS1.out.below hb)
     have HX2 := aM' (blk_below HX.out hb)
     have HO2 := aM' (ownB HO1.out hb)
     clear hb
     cases hml : mayLeafI x with
     | true =>
      have HML := aM' hml
      clear hml
      have q0 := blk_cell HX2.out 0
      have q1 := blk_cell HX2.out 1
      have q2 := blk_cell HX2.out 2
      have q3 := blk_cell HX2.out 3
      have q4 := blk_cell HX2.out 4
      have x2 := blk_cell HS2.out.h2 0
      simp at q0 q1 q2 q3 q4 x2
      go_wp2_with fail
      refine (tag_LeafNode.calls kl wd x.f0 x.f1 x.f2 x.f3.f0 x.f3.f1 _ _ _ _ (HK.out.below HS2.out.hB) HLN.out).mono ?_
      rintro e w3 ⟨rfl, hb⟩
      have HS3 := aM' (HS2.out.below hb)
      have HO3 := aM' (ownB HO2.out hb)
      clear hb q0 q1 q2 q3 q4 x2
      generalize hnx : leafNodeI wd x = nx
      go_wp2_with (at_builtin; refine wpList_append_own _ rfl _ _ 43 rfl (w.heap.size + 3) 46 i0 (.agg #[(.string ⟨#[]⟩), (.int .u64 0), (.int .u64 0)]) 3 32 Tryd.underlying43 hi hz0 hz1 hz2 rfl (by decide) (.slice A8 i c8) i _ rfl (ownB HO3.out (below_alloc (Below.refl _ _) (.cells (nodeA nx) 46))) ⟨w3.heap.size, 0, none⟩ 1 1 [.string nx.f0, .int .u64 nx.f1.f0, .int .u64 nx.f1.f1] rfl rfl ?c2 ?c3 ?c4 ?c5 ?c6 ?_)
      case c2 => exact World.news_of_block (blk_new w3 (.cells (nodeA nx) 46))
      case c3 =>
       intro u hu
       simp only [List.mem_cons, List.not_mem_nil, or_false] at hu
       rcases hu with rfl | rfl | rfl <;> rfl
      case c4 => have := HN.out; unfold maxLen; omega
      case c5 => have := HN.out; omega
      case c6 => rw [World.size_alloc]; have := HS3.out.lt; omega
      intro v' w' hown hgr hnil
      have hS4 := (HS3.out.below (below_alloc (Below.refl _ _) (.cells (nodeA nx) 46))).grown hgr (fun r hr => (HO3.out.lt r hr).1)
      have HS4 := aM' hS4
      have hown2 : w'.ownsRow (w.heap.size + 3) 46 3 v' (i + 1) (cellsN ((ls.take (i + 1)).map (leafNodeI wd))) := by
       rw [HTK.out, List.map_append, cellsN_append]
       rw [List.map_cons, List.map_nil, hnx]
       rw [← List.map_take] at hown
       exact hown
      have HO4 := aM' hown2
      clear hown hgr hnil hS4 hown2 hnx
      have hi1 : i ≤ 1024 := by have := HN.out; omega
      go_wp2
      go_roundw
      case rel => exact ⟨i + 1, by go_num, ⟨by omega, fun y hy => by
       rw [HTK.out] at hy
       rcases List.mem_append.1 hy with hy | hy
       ·
        exact HI.out.2 y hy
       ·
        rw [List.mem_singleton.1 hy]; exact HML.out⟩, HS4, HO4⟩
      case measure => simp [intOf]; omega
     | false =>
      have HML := aM' hml
      clear hml
      have x4 : w2.cell? ⟨w.heap.size + 1, 0, none⟩ = some (.pointer none) := blk_cell HS2.out.h4 0
      have x5 : w2.cell? ⟨w.heap.size + 1 + 1, 0, none⟩ = some (.int .i64 0) := blk_cell HS2.out.h5 0
      have f4 : ∀ i, w2.frozen? ⟨w.heap.size + 1, i, none⟩ = false := fun i => blk_frozen HS2.out.h4 i
      have f5 : ∀ i, w2.frozen? ⟨w.heap.size + 1 + 1, i, none⟩ = false := fun i => blk_frozen HS2.out.h5 i
      go_wp2
      exact newErr HS2.out rfl rfl (by
       unfold newI
       rw [if_neg HW.out, if_neg (by rw [HP.out]; decide), if_pos]
       exact List.all_eq_false.2 ⟨x, HMEM.out, by rw [HML.out]; decide⟩) (by decide)
    ·
     obtain rfl : i = ls.length := by have := HI.out.1; omega
     have hpos : 0 < ls.length := by
      rcases Nat.eq_zero_or_pos ls.length with h0 | h0
      ·
       have := HP.out; rw [h0] at this; exact absurd this (by decide)
      ·
       exact h0
     have b1 : decide ((ls.length : Int) < (ls.length : Int)) = false := decide_eq_false (by omega)
     have b2 : decide (ls.length < ls.length) = false := decide_eq_false hlt
     have hall : ls.all mayLeafI = true := List.all_eq_true.2 (fun x hx => HI.out.2 x (by rw [List.take_length]; exact hx))
     have ho := HO.out
     rw [List.take_length] at ho
     obtain ⟨gc, cc, hv, -, hgc⟩ := ho.form hpos
     cases hv
     have hnl : (ls.map (leafNodeI wd)).length = ls.length := List.length_map ..
     have HALL := aM' hall
     have HO := aM' ho
     have HPOS := aM' hpos
     have HNL := aM' hnl
     clear hall ho hpos hnl hgc
     obtain ⟨ad, rfl⟩ : ∃ ad, A = some ad := by
      obtain ⟨_, _, h3⟩ := HR.out
      obtain ⟨a, ha, _⟩ := h3 HPOS.out
      exact ⟨a, ha⟩
     go_upto_region 15 with (fail)
     refine wp_forget (fun x => ({ tmps := #[.int .i64 wd, .slice (some ad) ls.length c, .pointer (some ⟨w.heap.size, 0, none⟩), x 3, .pointer (some ⟨w.heap.size + 1, 0, none⟩), .pointer (some ⟨w.heap.size + 1 + 1, 0, none⟩), x 6, x 7, .slice (some ⟨gc, 0, none⟩) ls.length c8, x 9, x 10, x 11, x 12, x 13, x 14, x 15, x 16, x 17, x 18, x 19, x 20, x 21, x 22, x 23, x 24, x 25, x 26, x 27, x 28, x 29, x 30, x 31, x 32, x 33, x 34, x 35, x 36, x 37, x 38, x 39, x 40, x 41, x 42, x 43, x 44, x 45, x 46, x 47, x 48, x 49, x 50, x 51, x 52, x 53, x 54, x 55, x 56, x 57, x 58, x 59, x 60, x 61, x 62, x 63, x 64, x 65, x 66, x 67, x 68, x 69, x 70, x 71, x 72, x 73, x 74, x 75, x 76, x 77, x 78, x 79, x 80, x 81, x 82, x 83, x 84, x 85, x 86, x 87, x 88, x 89, x 90, x 91, x 92, x 93, x 94, x 95, x 96, x 97, x 98, x 99, x 100], defers := [] } : Act)) rfl ?_
     intro x
     have HCL := aM' (fun (V : World) (hb : Below w.heap.size w V) => cloneL.calls ad c ls V (Kd.C_below HR.out hb) HPOS.out HN.out)
     clear b1 b2
     refine region_inv (fun l a W => ∃ γ : Nat, ∃ κ : Nat, ∃ δ : Nat, a = ({ tmps := #[.int .i64 wd, .slice (some ad) ls.length c, .pointer (some ⟨w.heap.size, 0, none⟩), x 3, .pointer (some ⟨w.heap.size + 1, 0, none⟩), .pointer (some ⟨w.heap.size + 1 + 1, 0, none⟩), x 6, x 7, .slice (some ⟨gc, 0, none⟩) ls.length c8, x 9, x 10, sel (l 5) (.pointer (some ⟨δ, 0, none⟩)) (x 11), x 12, x 13, x 14, x 15, x 16, x 17, x 18, x 19, x 20, x 21, x 22, x 23, x 24, x 25, x 26, x 27, x 28, x 29, x 30, x 31, x 32, x 33, x 34, x 35, x 36, x 37, x 38, x 39, x 40, x 41, x 42, x 43, x 44, x 45, x 46, x 47, x 48, x 49, x 50, x 51, x 52, sel (l 0) (.int .i64 wd) (x 53), sel (l 1) (.slice (some ad) ls.length c) (x 54), sel (l 2) (.slice (some ⟨γ, 0, none⟩) ls.length κ) (x 55), sel (l 3) (.agg #[.int .i64 wd, .slice (some ⟨γ, 0, none⟩) ls.length κ, .slice none 0 0]) (x 56), sel (l 4) (.pointer (some ⟨δ, 0, none⟩)) (x 57), x 58, x 59, x 60, x 61, x 62, x 63, x 64, x 65, x 66, x 67, x 68, x 69, x 70, x 71, x 72, x 73, x 74, x 75, x 76, x 77, x 78, x 79, x 80, x 81, x 82, x 83, x 84, x 85, x 86, x 87, x 88, x 89, x 90, x 91, x 92, x 93, x 94, x 95, x 96, x 97, x 98, x 99, x 100], defers := [] } : Act) ∧ Nw15 wr W wd ls l γ κ δ) 6 rfl rfl (by kernel_rfl) ?h0 ?hend ?hstep
     case h0 => exact ⟨0, 0, 0, rfl, below_drew (Below.refl _ _), (fun h => by cases h), (fun h => by cases h), (fun h => by cases h), (fun h => by cases h), (fun h => by cases h)⟩
     case hstep =>
      refine rg_cons (rg_cons (rg_cons (rg_cons (rg_cons (rg_cons (rg_nil) ?s0) ?s1) ?s2) ?s3) ?s4) ?s5
      case s0 =>
       refine rg_step rfl ?_
       rintro l a W ⟨γ, κ, δ, rfl, hI⟩ hl hd
       clear hd
       have x0 := blk_cell (blk_below HS.out.h2 hI.hB) 0
       simp at x0
       refine rg_val (v := .int .i64 wd) (w' := W) rfl (by go_simp) ?_
       refine ⟨γ, κ, δ, ?_, ?_⟩
       ·
        simp only [Act.put, List.setIfInBounds_toArray, List.set_cons_zero, List.set_cons_succ]; rfl
       ·
        exact hI.same 0 (by decide)
      case s1 =>
       refine rg_step rfl ?_
       rintro l a W ⟨γ, κ, δ, rfl, hI⟩ hl hd
       clear hd
       refine rg_val (v := .slice (some ad) ls.length c) (w' := W) rfl (by go_simp) ?_
       refine ⟨γ, κ, δ, ?_, ?_⟩
       ·
        simp only [Act.put, List.setIfInBounds_toArray, List.set_cons_zero, List.set_cons_succ]; rfl
       ·
        exact hI.same 1 (by decide)
      case s2 =>
       refine rg_step rfl ?_
       rintro l a W ⟨γ, κ, δ, rfl, hI⟩ hl hd
       have d1 := hd 1 (by decide)
       clear hd
       refine rg_call rfl (by go_simp; exact ⟨rfl, rfl⟩) ?_
       refine (HCL.out W (HS.out.hB.trans (hI.hB.mono HS.out.hB.size))).mono ?_
       rintro xx W' ⟨g, cap, rfl, ho, hb, hg⟩
       have h3 := hI.no3 hl
       have h3' : upd l 2 3 = false := h3
       refine ⟨_, rfl, g, cap, δ, ?_, ?_⟩
       ·
        simp only [Act.put, List.setIfInBounds_toArray, List.set_cons_zero, List.set_cons_succ, h3, h3']; rfl
       ·
        exact hI.clone hl hb ho hg HPOS.out
      case s3 =>
       refine rg_step rfl ?_
       rintro l a W ⟨γ, κ, δ, rfl, hI⟩ hl hd
       have d0 := hd 0 (by decide)
       have d2 := hd 2 (by decide)
       clear hd
       refine rg_val (v := .agg #[.int .i64 wd, .slice (some ⟨γ, 0, none⟩) ls.length κ, .slice none 0 0]) (w' := W) rfl (by go_simp) ?_
       refine ⟨γ, κ, δ, ?_, ?_⟩
       ·
        simp only [Act.put, List.setIfInBounds_toArray, List.set_cons_zero, List.set_cons_succ]; rfl
       ·
        exact hI.three d2
      case s4 =>
       refine rg_step rfl ?_
       rintro l a W ⟨γ, κ, δ, rfl, hI⟩ hl hd
       have d3 := hd 3 (by decide)
       clear hd
       refine rg_val (v := .pointer (some ⟨W.heap.size, 0, none⟩)) (w' := W.alloc (.cells #[.int .i64 wd, .slice (some ⟨γ, 0, none⟩) ls.length κ, .slice none 0 0] 105 (0, 0))) rfl (by go_simp) ?_
       have h5 := hI.no5 hl
       have h5' : upd l 4 5 = false := h5
       refine ⟨γ, κ, W.heap.size, ?_, ?_⟩
       ·
        simp only [Act.put, List.setIfInBounds_toArray, List.set_cons_zero, List.set_cons_succ, h5, h5']; rfl
       ·
        exact hI.box d3
      case s5 =>
       refine rg_step rfl ?_
       rintro l a W ⟨γ, κ, δ, rfl, hI⟩ hl hd
       have d4 := hd 4 (by decide)
       clear hd
       refine rg_val (v := .pointer (some ⟨δ, 0, none⟩)) (w' := W) rfl (by go_simp) ?_
       refine ⟨γ, κ, δ, ?_, ?_⟩
       ·
        simp only [Act.put, List.setIfInBounds_toArray, List.set_cons_zero, List.set_cons_succ]; rfl
       ·
        exact hI.five d4
     case hend =>
      rintro l a W ⟨γ, κ, δ, rfl, hI⟩ hall
      have e0 := hall 0 (by decide)
      have e1 := hall 1 (by decide)
      have e2 := hall 2 (by decide)
      have e3 := hall 3 (by decide)
      have e4 := hall 4 (by decide)
      have e5 := hall 5 (by decide)
      clear hall
      have hl := hI.hl e2
      have ht := hI.ht e4
      have hB := hI.hB
      simp only [e0, e1, e2, e3, e4, e5, sel_true]
      clear e0 e1 e2 e3 e4 e5
      clear hI
      obtain ⟨l1, l2, l3⟩ := hl
      obtain ⟨t1, t2, t3⟩ := ht
      have hsz := HS.out.lt
      have hbs := HS.out.below hB
      have hcur := ownB HO.out hB
      have hgcl := (HO.out.lt gc rfl)
      obtain ⟨nodes, hnodes⟩ : ∃ n, n = ls.map (leafNodeI wd) := ⟨_, rfl⟩
      have hnl : nodes.length = ls.length := by rw [hnodes]; exact HNL.out
      rw [← hnodes, ← hnl] at hcur
      obtain ⟨K, hK⟩ := isPow_spec HP.out
      have hK10 : K ≤ 10 := by
       rcases Nat.lt_or_ge 10 K with h | h
       ·
        have := Nat.pow_le_pow_right (n := 2) (by decide) (show 11 ≤ K by omega)
        have := HN.out
        omega
       ·
        exact h
      have hH : NwH w wd ls δ γ κ [] [] [] nodes gc c8 none 0 W := by
       obtain ⟨cs, hcs⟩ := own_cells hcur rfl
       refine ⟨⟨hbs, t3, own_base l3 (by omega), World.ownsRow_nil _ _ _ _, trivial, ?_, (fun k hk => by cases hk), by omega, List.nodup_nil, (fun D hD => by cases hD)⟩, hcur, ⟨hgcl.1, ?_, (fun h => by cases h), cs, _, _, hcs⟩, ⟨K, K, hnl.trans hK, hK, by simp, by rw [hnodes]; rfl⟩, ?_, by rw [hnodes], ⟨Nat.zero_le _, by rw [hnl]; exact HN.out, HN.out⟩, fun D hD => by cases hD⟩
       ·
        simp only [List.map_nil, List.nodup_cons, List.mem_cons, List.not_mem_nil, or_false, not_false_eq_true, List.nodup_nil, and_true]
        exact t2
       ·
        simp only [List.map_nil, List.mem_cons, List.not_mem_nil, or_false]
        omega
       ·
        intro x hx
        rw [hnodes] at hx
        obtain ⟨y, hy, rfl⟩ := List.mem_map.1 hx
        have h1 := List.all_eq_true.1 HALL.out y hy
        have h2 := HW.out
        refine ⟨?_, leafNodeI_ok wd y (HL.out y hy).ub⟩
        unfold leafNodeI
        rw [if_pos ⟨⟨by omega, by omega⟩, h1⟩]
        have e : ((dgI wd (leafTextI y)).size : Int) = wd := by rw [dgI_size _ _ (by omega) (by omega)]; omega
        simp only [nodeOf, e]
        simp
        omega
      have HH := aM' hH
      clear l1 l2 l3 t1 t2 t3 hsz hbs hcur hgcl hH hK hK10 hB
      have HNODES := aM' hnodes
      have HNL2 := aM' hnl
      clear hnl hnodes
      go_wp2_with fail
      refine wp_forget (fun x => ({ tmps := #[.int .i64 wd, .slice (some ad) ls.length c, .pointer (some ⟨w.heap.size, 0, none⟩), x 3, .pointer (some ⟨w.heap.size + 1, 0, none⟩), .pointer (some ⟨w.heap.size + 1 + 1, 0, none⟩), x 6, x 7, .slice (some ⟨gc, 0, none⟩) ls.length c8, x 9, x 10, .pointer (some ⟨δ, 0, none⟩), x 12, x 13, x 14, x 15, x 16, x 17, x 18, x 19, x 20, x 21, x 22, x 23, x 24, x 25, x 26, x 27, x 28, x 29, x 30, x 31, x 32, x 33, x 34, x 35, x 36, x 37, x 38, x 39, x 40, x 41, x 42, x 43, x 44, x 45, x 46, x 47, x 48, x 49, x 50, x 51, x 52, x 53, x 54, x 55, x 56, x 57, x 58, x 59, x 60, x 61, x 62, x 63, x 64, x 65, x 66, x 67, x 68, x 69, x 70, x 71, x 72, x 73, x 74, x 75, x 76, x 77, x 78, x 79, x 80, x 81, x 82, x 83, x 84, x 85, x 86, x 87, x 88, x 89, x 90, x 91, x 92, x 93, x 94, x 95, x 96, x 97, x 98, x 99, x 100], defers := [] } : Act)) rfl ?_
      intro x
      obtain ⟨I, hI⟩ : ∃ I : Act → World → Prop, I = fun a V => ∃ (x : Nat → Value) (gs : List RowG) (done : List (List SNode)) (ds : List Nat) (cur : List SNode) (gc cc : Nat) (A9 : Option Addr) (c9 : Nat), a = ({ tmps := #[.int .i64 wd, .slice (some ad) ls.length c, .pointer (some ⟨w.heap.size, 0, none⟩), x 3, .pointer (some ⟨w.heap.size + 1, 0, none⟩), .pointer (some ⟨w.heap.size + 1 + 1, 0, none⟩), x 6, x 7, .slice (some ⟨gc, 0, none⟩) cur.length cc, x 9, x 10, .pointer (some ⟨δ, 0, none⟩), x 12, x 13, x 14, x 15, x 16, x 17, x 18, x 19, x 20, x 21, x 22, x 23, x 24, x 25, x 26, x 27, x 28, x 29, x 30, x 31, x 32, x 33, x 34, x 35, x 36, x 37, x 38, x 39, x 40, x 41, x 42, x 43, x 44, x 45, x 46, x 47, x 48, x 49, x 50, x 51, x 52, x 53, x 54, x 55, x 56, x 57, x 58, x 59, x 60, x 61, x 62, x 63, x 64, x 65, x 66, x 67, x 68, x 69, x 70, x 71, x 72, x 73, x 74, x 75, x 76, x 77, x 78, x 79, x 80, x 81, x 82, x 83, x 84, x 85, x 86, x 87, x 88, x 89, x 90, x 91, x 92, x 93, x 94, x 95, x 96, x 97, x 98, x 99, x 100], defers := ds.map markD } : Act) ∧ NwH w wd ls δ γ κ gs done ds cur gc cc A9 c9 V := ⟨_, rfl⟩
      refine wp_loop I (fun a _ => lenT a) ?lstart ?lround
      case lstart =>
       rw [hI]
       refine ⟨x, [], [], [], nodes, gc, c8, none, 0, ?_, HH.out⟩
       rw [HNL2.out]
       rfl
      case lround =>
       clear HH HO
       intro a V ha
       rw [hI] at ha
       obtain ⟨x, gs, done, ds, cur, gc, cc, A9, c9, rfl, hH⟩ := ha
       have HI := aM' hI
       have HH := aM' hH
       clear hI hH
       have hT := HH.out.t
       have hO := HH.out.o
       have hm := HH.out.m
       have hlen := hT.hg.len
       obtain ⟨j0, hj, hj0, hj1, hj2⟩ := info_parts levelInfo
       have HTT := aM' hT
       have HOO := aM' hO
       have HMM := aM' hm
       clear hT hO hlen
       go_wp2_with fail
       refine region_inv (fun l a W => ∃ γ1 : Nat, ∃ γ2 : Nat, ∃ κ2 : Nat, a = ({ tmps := #[.int .i64 wd, .slice (some ad) ls.length c, .pointer (some ⟨w.heap.size, 0, none⟩), x 3, .pointer (some ⟨w.heap.size + 1, 0, none⟩), .pointer (some ⟨w.heap.size + 1 + 1, 0, none⟩), x 6, x 7, .slice (some ⟨gc, 0, none⟩) cur.length cc, x 9, x 10, .pointer (some ⟨δ, 0, none⟩), x 12, x 13, x 14, x 15, x 16, x 17, x 18, x 19, x 20, x 21, x 22, x 23, x 24, x 25, x 26, x 27, x 28, x 29, x 30, x 31, x 32, x 33, x 34, x 35, x 36, x 37, x 38, x 39, x 40, x 41, x 42, x 43, x 44, x 45, x 46, x 47, x 48, x 49, x 50, x 51, x 52, x 53, x 54, x 55, x 56, x 57, sel (l 0) (.pointer (some ⟨δ, 0, none⟩)) (x 58), sel (l 1) (.pointer (some ⟨δ, 0, none⟩)) (x 59), sel (l 2) (.pointer (some ⟨δ, 0, none⟩)) (x 60), sel (l 3) (.pointer (some ⟨δ, 2, none⟩)) (x 61), sel (l 4) (.slice A9 done.length c9) (x 62), sel (l 5) (.slice (some ⟨gc, 0, none⟩) cur.length cc) (x 63), sel (l 6) (.agg #[.slice (some ⟨gc, 0, none⟩) cur.length cc]) (x 64), sel (l 7) (.pointer (some ⟨δ, 0, none⟩)) (x 65), sel (l 8) (.pointer (some ⟨δ, 0, none⟩)) (x 66), sel (l 9) (.pointer (some ⟨δ, 2, none⟩)) (x 67), sel (l 10) (.slice A9 done.length c9) (x 68), sel (l 11) (.int .i64 (done.length : Int)) (x 69), sel (l 12) (.agg #[.slice (some ⟨gc, 0, none⟩) cur.length cc, .int .i64 (done.length : Int)]) (x 70), sel (l 13) (.slice (some ⟨γ1, 0, none⟩) 1 1) (x 71), sel (l 14) (.slice (some ⟨γ2, 0, none⟩) (done.length + 1) κ2) (x 72), sel (l 15) (.pointer (some ⟨δ, 0, none⟩)) (x 73), sel (l 16) (.pointer (some ⟨δ, 2, none⟩)) (x 74), x 75, x 76, x 77, x 78, x 79, x 80, x 81, x 82, x 83, x 84, x 85, x 86, x 87, x 88, x 89, x 90, x 91, x 92, x 93, x 94, x 95, x 96, x 97, x 98, x 99, x 100], defers := ds.map markD } : Act) ∧ Nw16 w V W wd ls δ γ κ (.slice A9 done.length c9) gs done ds (gc, cc) cur l γ1 γ2 κ2) 18 rfl rfl (by kernel_rfl) ?h0 ?hend ?hstep
       case h0 => exact ⟨0, 0, 0, rfl, ⟨fun _ => below_drew (Below.refl _ _), (fun h => by cases h), (fun h => by cases h), (fun h => by cases h), (fun h => by cases h), (fun h => by cases h), (fun h => by cases h), (fun h => by cases h), (fun h => by cases h)⟩⟩
       case hstep =>
        refine rg_cons (rg_cons (rg_cons (rg_cons (rg_cons (rg_cons (rg_cons (rg_cons (rg_cons (rg_cons (rg_cons (rg_cons (rg_cons (rg_cons (rg_cons (rg_cons (rg_cons (rg_cons (rg_nil) ?s0) ?s1) ?s2) ?s3) ?s4) ?s5) ?s6) ?s7) ?s8) ?s9) ?s10) ?s11) ?s12) ?s13) ?s14) ?s15) ?s16) ?s17
        case s0 =>
         refine rg_step rfl ?_
         rintro l a W ⟨γ1, γ2, κ2, rfl, hI⟩ hl hd
         clear hd
         refine rg_val (v := .pointer (some ⟨δ, 0, none⟩)) (w' := W) rfl (by go_simp) ?_
         refine ⟨γ1, γ2, κ2, ?_, ?_⟩
         ·
          simp only [Act.put, List.setIfInBounds_toArray, List.set_cons_zero, List.set_cons_succ]; rfl
         ·
          exact hI.pure 0 (by decide) (fun h => absurd h (by decide)) (fun h => absurd h (by decide))
        case s1 =>
         refine rg_step rfl ?_
         rintro l a W ⟨γ1, γ2, κ2, rfl, hI⟩ hl hd
         clear hd
         refine rg_val (v := .pointer (some ⟨δ, 0, none⟩)) (w' := W) rfl (by go_simp) ?_
         refine ⟨γ1, γ2, κ2, ?_, ?_⟩
         ·
          simp only [Act.put, List.setIfInBounds_toArray, List.set_cons_zero, List.set_cons_succ]; rfl
         ·
          exact hI.pure 1 (by decide) (fun h => absurd h (by decide)) (fun h => absurd h (by decide))
        case s2 =>
         refine rg_step rfl ?_
         rintro l a W ⟨γ1, γ2, κ2, rfl, hI⟩ hl hd
         have d1 := hd 1 (by decide)
         clear hd
         refine rg_val (v := .pointer (some ⟨δ, 0, none⟩)) (w' := W) rfl (by go_simp) ?_
         refine ⟨γ1, γ2, κ2, ?_, ?_⟩
         ·
          simp only [Act.put, List.setIfInBounds_toArray, List.set_cons_zero, List.set_cons_succ]; rfl
         ·
          exact hI.pure 2 (by decide) (fun h => absurd h (by decide)) (fun h => absurd h (by decide))
        case s3 =>
         refine rg_step rfl ?_
         rintro l a W ⟨γ1, γ2, κ2, rfl, hI⟩ hl hd
         have d2 := hd 2 (by decide)
         clear hd
         refine rg_val (v := .pointer (some ⟨δ, 2, none⟩)) (w' := W) rfl (by go_simp) ?_
         refine ⟨γ1, γ2, κ2, ?_, ?_⟩
         ·
          simp only [Act.put, List.setIfInBounds_toArray, List.set_cons_zero, List.set_cons_succ]; rfl
         ·
          exact hI.pure 3 (by decide) (fun h => absurd h (by decide)) (fun h => absurd h (by decide))
        case s4 =>
         refine rg_step rfl ?_
         rintro l a W ⟨γ1, γ2, κ2, rfl, hI⟩ hl hd
         have d3 := hd 3 (by decide)
         clear hd
         have hb := hI.hA (hI.no4 hl)
         have x0 := blk_cell (blk_below HTT.out.ht hb) 2
         simp at x0
         refine rg_val (v := .slice A9 done.length c9) (w' := W) rfl (by go_simp) ?_
         refine ⟨γ1, γ2, κ2, ?_, ?_⟩
         ·
          simp only [Act.put, List.setIfInBounds_toArray, List.set_cons_zero, List.set_cons_succ]; rfl
         ·
          exact hI.pure 4 (by decide) (fun h => absurd h (by decide)) (fun h => absurd h (by decide))
        case s5 =>
         refine rg_step rfl ?_
         rintro l a W ⟨γ1, γ2, κ2, rfl, hI⟩ hl hd
         clear hd
         refine rg_val (v := .slice (some ⟨gc, 0, none⟩) cur.length cc) (w' := W) rfl (by go_simp) ?_
         refine ⟨γ1, γ2, κ2, ?_, ?_⟩
         ·
          simp only [Act.put, List.setIfInBounds_toArray, List.set_cons_zero, List.set_cons_succ]; rfl
         ·
          exact hI.pure 5 (by decide) (fun h => absurd h (by decide)) (fun h => absurd h (by decide))
        case s6 =>
         refine rg_step rfl ?_
         rintro l a W ⟨γ1, γ2, κ2, rfl, hI⟩ hl hd
         have d5 := hd 5 (by decide)
         clear hd
         refine rg_val (v := .agg #[.slice (some ⟨gc, 0, none⟩) cur.length cc]) (w' := W) rfl (by go_simp) ?_
         refine ⟨γ1, γ2, κ2, ?_, ?_⟩
         ·
          simp only [Act.put, List.setIfInBounds_toArray, List.set_cons_zero, List.set_cons_succ]; rfl
         ·
          exact hI.pure 6 (by decide) (fun h => absurd h (by decide)) (fun h => absurd h (by decide))
        case s7 =>
         refine rg_step rfl ?_
         rintro l a W ⟨γ1, γ2, κ2, rfl, hI⟩ hl hd
         clear hd
         refine rg_val (v := .pointer (some ⟨δ, 0, none⟩)) (w' := W) rfl (by go_simp) ?_
         refine ⟨γ1, γ2, κ2, ?_, ?_⟩
         ·
          simp only [Act.put, List.setIfInBounds_toArray, List.set_cons_zero, List.set_cons_succ]; rfl
         ·
          exact hI.pure 7 (by decide) (fun h => absurd h (by decide)) (fun h => absurd h (by decide))
        case s8 =>
         refine rg_step rfl ?_
         rintro l a W ⟨γ1, γ2, κ2, rfl, hI⟩ hl hd
         have d7 := hd 7 (by decide)
         clear hd
         refine rg_val (v := .pointer (some ⟨δ, 0, none⟩)) (w' := W) rfl (by go_simp) ?_
         refine ⟨γ1, γ2, κ2, ?_, ?_⟩
         ·
          simp only [Act.put, List.setIfInBounds_toArray, List.set_cons_zero, List.set_cons_succ]; rfl
         ·
          exact hI.pure 8 (by decide) (fun h => absurd h (by decide)) (fun h => absurd h (by decide))
        case s9 =>
         refine rg_step rfl ?_
         rintro l a W ⟨γ1, γ2, κ2, rfl, hI⟩ hl hd
         have d8 := hd 8 (by decide)
         clear hd
         refine rg_val (v := .pointer (some ⟨δ, 2, none⟩)) (w' := W) rfl (by go_simp) ?_
         refine ⟨γ1, γ2, κ2, ?_, ?_⟩
         ·
          simp only [Act.put, List.setIfInBounds_toArray, List.set_cons_zero, List.set_cons_succ]; rfl
         ·
          exact hI.pure 9 (by decide) (fun h => absurd h (by decide)) (fun h => absurd h (by decide))
        case s10 =>
         refine rg_step rfl ?_
         rintro l a W ⟨γ1, γ2, κ2, rfl, hI⟩ hl hd
         have d9 := hd 9 (by decide)
         clear hd
         have hb := hI.hA (hI.no10 hl)
         have x0 := blk_cell (blk_below HTT.out.ht hb) 2
         simp at x0
         refine rg_val (v := .slice A9 done.length c9) (w' := W) rfl (by go_simp) ?_
         refine ⟨γ1, γ2, κ2, ?_, ?_⟩
         ·
          simp only [Act.put, List.setIfInBounds_toArray, List.set_cons_zero, List.set_cons_succ]; rfl
         ·
          exact hI.pure 10 (by decide) (fun h => absurd h (by decide)) (fun h => absurd h (by decide))
        case s11 =>
         refine rg_step rfl ?_
         rintro l a W ⟨γ1, γ2, κ2, rfl, hI⟩ hl hd
         have d10 := hd 10 (by decide)
         clear hd
         refine rg_val (v := .int .i64 (done.length : Int)) (w' := W) rfl (by go_simp) ?_
         refine ⟨γ1, γ2, κ2, ?_, ?_⟩
         ·
          simp only [Act.put, List.setIfInBounds_toArray, List.set_cons_zero, List.set_cons_succ]; rfl
         ·
          exact hI.pure 11 (by decide) (fun _ => d10) (fun h => absurd h (by decide))
        case s12 =>
         refine rg_step rfl ?_
         rintro l a W ⟨γ1, γ2, κ2, rfl, hI⟩ hl hd
         have d6 := hd 6 (by decide)
         have d11 := hd 11 (by decide)
         clear hd
         refine rg_val (v := .agg #[.slice (some ⟨gc, 0, none⟩) cur.length cc, .int .i64 (done.length : Int)]) (w' := W) rfl (by go_simp) ?_
         refine ⟨γ1, γ2, κ2, ?_, ?_⟩
         ·
          simp only [Act.put, List.setIfInBounds_toArray, List.set_cons_zero, List.set_cons_succ]; rfl
         ·
          exact hI.pure 12 (by decide) (fun h => absurd h (by decide)) (fun _ => d11)
        case s13 =>
         refine rg_step rfl ?_
         rintro l a W ⟨γ1, γ2, κ2, rfl, hI⟩ hl hd
         have d12 := hd 12 (by decide)
         clear hd
         refine rg_val (v := .slice (some ⟨W.heap.size, 0, none⟩) 1 1) (w' := W.alloc (.cells #[.slice (some ⟨gc, 0, none⟩) cur.length cc, .int .i64 (done.length : Int)] 109 (0, 0))) rfl (by go_simp) ?_
         have h14 := hI.no13 hl
         refine ⟨W.heap.size, γ2, κ2, ?_, ?_⟩
         ·
          simp only [Act.put, List.setIfInBounds_toArray, List.set_cons_zero, List.set_cons_succ]; rfl
         ·
          exact hI.made hl d12
        case s14 =>
         refine rg_step rfl ?_
         rintro l a W ⟨γ1, γ2, κ2, rfl, hI⟩ hl hd
         have d4 := hd 4 (by decide)
         have d13 := hd 13 (by decide)
         clear hd
         have h14 : l 14 = false := hl
         have h17 := hI.no17 h14
         have hb := hI.hA h14
         have hgt := hI.hT d13 h14
         obtain ⟨g, κ', W', hrun, hown, hgr, hgg, -⟩ := run_append_lies (P := Tryd.prog) W 103 103 (w.heap.size + 3) 109 j0 (.agg #[.slice none 0 0, .int .i64 0]) 2 32 Tryd.underlying103 hj hj0 hj1 hj2 rfl (by decide) (.slice A9 done.length c9) done.length _ (ownB HTT.out.hv hb) ⟨γ1, 0, none⟩ 1 1 [.slice (some ⟨gc, 0, none⟩) cur.length cc, .int .i64 (done.length : Int)] rfl (World.news_of_block hgt) (by
          intro u hu
          simp only [List.mem_cons, List.not_mem_nil, or_false] at hu
          rcases hu with rfl | rfl <;> rfl) (by decide) (by have := HMM.out.1; unfold maxLen; omega) (by have := HMM.out.1; omega) (by have := HTT.out.bx.lt; have := hb.size; omega) W.heap.size rfl
         refine rg_val (v := .slice (some ⟨g, 0, none⟩) (done.length + 1) κ') (w' := W') rfl (exec_append (.tmp 62) (.tmp 71) 103 rfl (.slice A9 done.length c9) (.slice (some ⟨γ1, 0, none⟩) 1 1) (by show sel (l 4) _ _ = _; rw [d4]; rfl) (by show sel (l 13) _ _ = _; rw [d13]; rfl) hrun) ?_
         refine ⟨γ1, g, κ', ?_, ?_⟩
         ·
          simp only [Act.put, List.setIfInBounds_toArray, List.set_cons_zero, List.set_cons_succ]; rfl
         ·
          exact hI.appended HTT.out hl d13 d4 hgr hown hgg
        case s15 =>
         refine rg_step rfl ?_
         rintro l a W ⟨γ1, γ2, κ2, rfl, hI⟩ hl hd
         have d0 := hd 0 (by decide)
         clear hd
         refine rg_val (v := .pointer (some ⟨δ, 0, none⟩)) (w' := W) rfl (by go_simp) ?_
         refine ⟨γ1, γ2, κ2, ?_, ?_⟩
         ·
          simp only [Act.put, List.setIfInBounds_toArray, List.set_cons_zero, List.set_cons_succ]; rfl
         ·
          exact hI.pure 15 (by decide) (fun h => absurd h (by decide)) (fun h => absurd h (by decide))
        case s16 =>
         refine rg_step rfl ?_
         rintro l a W ⟨γ1, γ2, κ2, rfl, hI⟩ hl hd
         have d15 := hd 15 (by decide)
         clear hd
         refine rg_val (v := .pointer (some ⟨δ, 2, none⟩)) (w' := W) rfl (by go_simp) ?_
         refine ⟨γ1, γ2, κ2, ?_, ?_⟩
         ·
          simp only [Act.put, List.setIfInBounds_toArray, List.set_cons_zero, List.set_cons_succ]; rfl
         ·
          exact hI.pure 16 (by decide) (fun h => absurd h (by decide)) (fun h => absurd h (by decide))
        case s17 =>
         refine rg_step rfl ?_
         rintro l a W ⟨γ1, γ2, κ2, rfl, hI⟩ hl hd
         have d14 := hd 14 (by decide)
         have d16 := hd 16 (by decide)
         clear hd
         obtain ⟨q1, q2, q3, q4⟩ := hI.hP d14 hl
         have hx := (q1 δ (blk_lt HTT.out.ht) (fun e => HTT.out.av δ e (List.mem_cons_self ..))).trans HTT.out.ht
         have y2 := blk_cell hx 2
         have yf := fun i => blk_frozen hx i
         simp at y2
         refine rg_skip rfl (by go_simp; rfl) ?_
         refine ⟨γ1, γ2, κ2, ?_, ?_⟩
         ·
          simp only [Act.put, List.setIfInBounds_toArray, List.set_cons_zero, List.set_cons_succ]; rfl
         ·
          exact hI.stored HTT.out HH.out.c HOO.out hl d14
       case hend =>
        rintro l a W ⟨γ1, γ2, κ2, rfl, hI⟩ hall
        have e0 := hall 0 (by decide)
        have e1 := hall 1 (by decide)
        have e2 := hall 2 (by decide)
        have e3 := hall 3 (by decide)
        have e4 := hall 4 (by decide)
        have e5 := hall 5 (by decide)
        have e6 := hall 6 (by decide)
        have e7 := hall 7 (by decide)
        have e8 := hall 8 (by decide)
        have e9 := hall 9 (by decide)
        have e10 := hall 10 (by decide)
        have e11 := hall 11 (by decide)
        have e12 := hall 12 (by decide)
        have e13 := hall 13 (by decide)
        have e14 := hall 14 (by decide)
        have e15 := hall 15 (by decide)
        have e16 := hall 16 (by decide)
        have e17 := hall 17 (by decide)
        clear hall
        have hQ := hI.hQ e17
        simp only [e0, e1, e2, e3, e4, e5, e6, e7, e8, e9, e10, e11, e12, e13, e14, e15, e16, e17, sel_true]
        clear e0 e1 e2 e3 e4 e5 e6 e7 e8 e9 e10 e11 e12 e13 e14 e15 e16 e17
        clear hI
        have HQ := aM' hQ
        clear hQ
        go_upto_region 17 with (fail)
        refine wp_forget (fun x => ({ tmps := #[.int .i64 wd, .slice (some ad) ls.length c, .pointer (some ⟨w.heap.size, 0, none⟩), x 3, .pointer (some ⟨w.heap.size + 1, 0, none⟩), .pointer (some ⟨w.heap.size + 1 + 1, 0, none⟩), x 6, x 7, .slice (some ⟨gc, 0, none⟩) cur.length cc, x 9, x 10, .pointer (some ⟨δ, 0, none⟩), x 12, x 13, x 14, x 15, x 16, x 17, x 18, x 19, x 20, x 21, x 22, x 23, x 24, x 25, x 26, x 27, x 28, x 29, x 30, x 31, x 32, x 33, x 34, x 35, x 36, x 37, x 38, x 39, x 40, x 41, x 42, x 43, x 44, x 45, x 46, x 47, x 48, x 49, x 50, x 51, x 52, x 53, x 54, x 55, x 56, x 57, x 58, x 59, x 60, x 61, x 62, x 63, x 64, x 65, x 66, x 67, x 68, x 69, x 70, x 71, x 72, x 73, x 74, x 75, x 76, x 77, x 78, x 79, x 80, x 81, x 82, x 83, x 84, x 85, x 86, x 87, x 88, x 89, x 90, x 91, x 92, x 93, x 94, x 95, x 96, x 97, x 98, x 99, x 100], defers := ds.map markD } : Act)) rfl ?_
        intro x
        by_cases h1 : cur.length = 1
        ·
         have b1 : ((cur.length : Int) == 1) = true := by simp; omega
         obtain ⟨ht, hr⟩ := HH.out.one h1
         have x4 := blk_cell HQ.out.bx.h4 0
         have x5 := blk_cell HQ.out.bx.h5 0
         have f4 := fun i => blk_frozen HQ.out.bx.h4 i
         have f5 := fun i => blk_frozen HQ.out.bx.h5 i
         simp at x4 x5
         have HR2 := aM' hr
         have HT2 := aM' ht
         clear h1 hr ht
         go_wp2
         exact newDone HQ.out HH.out.d rfl rfl (newI_ok HW.out HP.out HALL.out HT2.out) HR2.out
        ·
         have b1 : ((cur.length : Int) == 1) = false := by simp; omega
         have H1 := aM' h1
         clear h1
         go_wp2_with fail
         obtain ⟨b12, hb12⟩ : ∃ b, b = W.heap.size := ⟨_, rfl⟩
         obtain ⟨W2, hW2⟩ : ∃ V, V = W.alloc (.cells #[.slice none 0 0] 43) := ⟨_, rfl⟩
         have hx2 : NxS w wd ls δ γ κ (.slice (some ⟨γ2, 0, none⟩) (done.length + 1) κ2) (gs ++ [(gc, cc)]) (done ++ [cur]) ds b12 (b12 + 3) [] W2 := by
          rw [hW2, hb12]
          exact ⟨by omega, HQ.out.below (below_alloc (Below.refl _ _) _), HQ.out.bd, none, 0, blk_new W _, World.ownsRow_nil _ _ _ _⟩
         have hs2 : W2.heap.size = b12 + 1 := by rw [hW2, hb12]; simp
         obtain ⟨k, K, e1, -⟩ := HH.out.k
         obtain ⟨m, hm, hm1⟩ : ∃ m, cur.length = 2 * m ∧ 1 ≤ m := by
          cases k with
          | zero => exact absurd e1 H1.out
          | succ k => exact ⟨2 ^ k, by rw [e1, Nat.pow_succ, Nat.mul_comm], Nat.two_pow_pos k⟩
         rw [← hW2, ← hb12]
         clear hW2 hb12 b1 e1
         refine (chunk.calls (some ⟨gc, 0, none⟩) cur.length cc W2).mono ?_
         rintro e w3 ⟨rfl, hw3⟩
         have hS : w3.heap[W2.heap.size]? = some (.cells #[.slice (some ⟨gc, 0, none⟩) cur.length cc] 43 (0, 0)) := by rw [hw3]; exact blk_alloc (blk_new W2 _) _
         have hN : w3.heap[W2.heap.size + 1]? = some (.cells #[.int .i64 2] 3 (0, 0)) := by
          rw [hw3]
          have := blk_new (W2.alloc (.cells #[.slice (some ⟨gc, 0, none⟩) cur.length cc] 43)) (.cells #[.int .i64 2] 3)
          rwa [World.size_alloc] at this
         have hb3 : Below W2.heap.size W2 w3 := by rw [hw3]; exact below_alloc (below_alloc (Below.refl _ _) _) _
         have hx3 := hx2.below hb3
         have hz3 : w3.heap.size = W2.heap.size + 2 := by rw [hw3]; simp
         have HS2 := aM' hS
         have HN2 := aM' hN
         have HX3 := aM' hx3
         have HZ := aM' (And.intro hz3 hs2)
         have HM := aM' (And.intro hm hm1)
         clear hw3 hS hN hx3 hz3 hs2 hx2 hm hm1 hb3
         have HL9 := aM' HH.out.t.hg.len
         have HM5 := aM' (show m ≤ 1000000 by have := HM.out.1; have := HH.out.m.2.1; omega)
         have hW3 : w3.heap.size = b12 + 3 := by have := HZ.out.1; have := HZ.out.2; omega
         have HW3 := aM' hW3
         clear hW3
         go_wp2_with fail
         refine wp_forget (fun x => ({ tmps := #[.int .i64 wd, .slice (some ad) ls.length c, .pointer (some ⟨w.heap.size, 0, none⟩), x 3, .pointer (some ⟨w.heap.size + 1, 0, none⟩), .pointer (some ⟨w.heap.size + 1 + 1, 0, none⟩), x 6, x 7, .slice (some ⟨gc, 0, none⟩) cur.length cc, x 9, x 10, .pointer (some ⟨δ, 0, none⟩), .pointer (some ⟨b12, 0, none⟩), x 13, x 14, x 15, x 16, x 17, x 18, x 19, x 20, x 21, x 22, x 23, x 24, x 25, x 26, x 27, x 28, x 29, x 30, x 31, x 32, x 33, x 34, x 35, x 36, x 37, x 38, x 39, x 40, x 41, x 42, x 43, x 44, x 45, x 46, x 47, x 48, x 49, x 50, x 51, x 52, x 53, x 54, x 55, x 56, x 57, x 58, x 59, x 60, x 61, x 62, x 63, x 64, x 65, x 66, x 67, x 68, x 69, x 70, x 71, x 72, x 73, x 74, x 75, x 76, x 77, x 78, x 79, .func (.func 95) #[] #[.pointer (some ⟨W2.heap.size, 0, none⟩), .pointer (some ⟨W2.heap.size + 1, 0, none⟩)], x 81, x 82, x 83, x 84, x 85, x 86, x 87, x 88, x 89, x 90, x 91, x 92, x 93, x 94, x 95, x 96, x 97, x 98, x 99, x 100], defers := ds.map markD } : Act)) rfl ?_
         intro x
         refine (wpIn_wide (n := 3)).1 ?_
         refine wpIn_rangeFunc_ownH (α := { j : Nat // j < m }) (n := 3) rfl (by omega) (gf := 95) (lb := #[.pointer (some ⟨W2.heap.size, 0, none⟩), .pointer (some ⟨W2.heap.size + 1, 0, none⟩)]) rfl trivial (enters_of Tryd.func95 (by kernel_rfl) rfl) (encs := fun y => #[chunkV ⟨gc, 0, none⟩ y.1]) (Kp := KeepS (fun k => k = W2.heap.size ∨ k = W2.heap.size + 1))
          (S := fun ys => ys.map Subtype.val = List.range m) (Sp := fun pre => True) (N := m) (w0 := w3) ?hseq (fun h k => KeepS.trans h k) ?hKb (Below.refl _ _) (fun _ => rfl)
          (fun pre V => (∀ y ∈ pre, twoOk cur y.1) ∧ NxS w wd ls δ γ κ (.slice (some ⟨γ2, 0, none⟩) (done.length + 1) κ2) (gs ++ [(gc, cc)]) (done ++ [cur]) ds b12 (b12 + 3) (pre.map fun y => twoV wd cur y.1) V ∧ w3.heap.size ≤ V.heap.size)
          (fun c2 pre V => c2 = .ret ∧ (∃ y ∈ pre, ¬ twoOk cur y.1) ∧ NxE w ds V)
          ?hI ?hIx ⟨fun y hy => absurd hy (List.not_mem_nil), HX3.out, Nat.le_refl _⟩
          (fun y a' V => a' = ({ tmps := #[.int .i64 wd, .slice (some ad) ls.length c, .pointer (some ⟨w.heap.size, 0, none⟩), x 3, .pointer (some ⟨w.heap.size + 1, 0, none⟩), .pointer (some ⟨w.heap.size + 1 + 1, 0, none⟩), x 6, x 7, .slice (some ⟨gc, 0, none⟩) cur.length cc, x 9, x 10, .pointer (some ⟨δ, 0, none⟩), .pointer (some ⟨b12, 0, none⟩), chunkV ⟨gc, 0, none⟩ y.1, x 14, x 15, x 16, x 17, x 18, x 19, x 20, x 21, x 22, x 23, x 24, x 25, x 26, x 27, x 28, x 29, x 30, x 31, x 32, x 33, x 34, x 35, x 36, x 37, x 38, x 39, x 40, x 41, x 42, x 43, x 44, x 45, x 46, x 47, x 48, x 49, x 50, x 51, x 52, x 53, x 54, x 55, x 56, x 57, x 58, x 59, x 60, x 61, x 62, x 63, x 64, x 65, x 66, x 67, x 68, x 69, x 70, x 71, x 72, x 73, x 74, x 75, x 76, x 77, x 78, x 79, .func (.func 95) #[] #[.pointer (some ⟨W2.heap.size, 0, none⟩), .pointer (some ⟨W2.heap.size + 1, 0, none⟩)], chunkV ⟨gc, 0, none⟩ y.1, x 82, x 83, x 84, x 85, x 86, x 87, x 88, x 89, x 90, x 91, x 92, x 93, x 94, x 95, x 96, x 97, x 98, x 99, x 100], defers := [] } : Act)) ?hAx ?assign ?body ?done ?stop
         case hKb =>
          intro W' l2 o o' hl2 ho hc hw k hk
          have := HZ.out
          exact World.putObj_heap_other (by rcases hk with rfl | rfl <;> omega)
         case hI =>
          rintro s X Y row ⟨h1, h2, h3⟩ hg hr
          exact ⟨h1, h2.grown hg (fun r e => by have h4 := hr r e; exact ⟨by have := h4.1; have := HW3.out; omega, h4.2⟩), Nat.le_trans h3 hg.size⟩
         case hIx =>
          rintro c2 s X Y row ⟨rfl, h1, h2⟩ hg hr
          exact ⟨rfl, h1, h2.grown (H := b12 + 3) hg (fun r e => by have := (hr r e).1; have := HW3.out; omega) (by have := HX3.out.bd.b; omega) (fun D hD => by have := HX3.out.bd.d D hD; omega)⟩
         case hAx =>
          rintro y a' s X Y row h hg hr
          exact h
         case hseq =>
          intro l2 J Jx W hW hJ hJx hY h0
          refine (chunk1_in 2 (by omega) l2 W2.heap.size (W2.heap.size + 1) W.heap.size ⟨gc, 0, none⟩ m cur.length cc HM.out.1 HM5.out (ownNodes_C (HX3.out.t.hg.last HL9.out)).2.1 (fun k => k = W2.heap.size ∨ k = W2.heap.size + 1) (.inl rfl) (.inr rfl)
           (fun pre W => ∃ pre' : List { j : Nat // j < m }, pre'.map Subtype.val = pre ∧ J pre' W) (fun pre W => ∃ pre' : List { j : Nat // j < m }, pre'.map Subtype.val = pre ∧ Jx pre' W)
           (fun s X Y row ⟨pre', e, h⟩ hg hr => ⟨pre', e, hJ _ _ _ row h hg hr⟩) ?_ W (blk_below HS2.out hW) (blk_below HN2.out hW) ⟨[], rfl, h0⟩).mono ?_
          ·
           rintro j W1 ⟨pre', e1, hj⟩ hlt
           have hpl : pre'.length = j := by have := congrArg List.length e1; simpa using this
           obtain ⟨fn, tmps, asg, bd, hy, hR⟩ := hY pre' ⟨j, hlt⟩ W1 hj (by omega)
           refine ⟨fn, tmps, asg, bd, hy, hR.mono ?_⟩
           rintro e W2 (⟨rfl, h1, h2⟩ | ⟨rfl, h1⟩)
           ·
            exact .inl ⟨rfl, ⟨_, by rw [List.map_append, e1, List.range_succ]; rfl, h1⟩, h2⟩
           ·
            exact .inr ⟨rfl, ⟨_, by rw [List.map_append, e1, List.range_succ]; rfl, h1⟩⟩
          ·
           rintro e W2 ⟨hv, ⟨ys', e1, h1⟩ | ⟨j, hj, pre', e1, h1⟩⟩
           ·
            exact ⟨hv, .inl ⟨ys', e1, h1⟩⟩
           ·
            exact ⟨hv, .inr ⟨pre', trivial, h1⟩⟩
         case assign =>
          rintro l2 pre y W K hI hK
          gi_wp2
          exact hK _ _ (KeepsFrom.refl _ _) (fun k hk => rfl) hI rfl
         case body =>
          rintro l2 pre ⟨j, hj⟩ a' Wb hl2 - ⟨hok, hP, hz⟩ rfl hlen
          have hjl : 2 * j + 1 < cur.length := by have := HM.out.1; omega
          obtain ⟨na, ha⟩ : ∃ na, na = cur.getD (2 * j) zeroN := ⟨_, rfl⟩
          obtain ⟨nb, hb⟩ : ∃ nb, nb = cur.getD (2 * j + 1) zeroN := ⟨_, rfl⟩
          obtain ⟨ap, hap⟩ : ∃ ap, ap = (⟨gc, 0, none⟩ : Addr).add (2 * j * 3) := ⟨_, rfl⟩
          have hka : NodeK wd na := HH.out.n _ (by rw [ha]; have h1 : cur.getD (2 * j) zeroN = cur[2 * j]'(by omega) := (by simp [List.getD_eq_getElem?_getD, show 2 * j < cur.length by omega]); rw [h1]; exact List.getElem_mem _)
          have hkb : NodeK wd nb := HH.out.n _ (by rw [hb]; have h1 : cur.getD (2 * j + 1) zeroN = cur[2 * j + 1] := (by simp [List.getD_eq_getElem?_getD, hjl]); rw [h1]; exact List.getElem_mem _)
          have htw : twoV wd cur j = joinV wd na nb := by rw [ha, hb]; rfl
          have hto : twoOk cur j ↔ valU na.f1 + valU nb.f1 < 340282366920938463463374607431768211456 := by rw [ha, hb]; rfl
          have HT := fun (V : World) (hV : Below Wb.heap.size Wb V) => two_at' ((ownNodes_C ((hP.below hV).t.hg.last HL9.out)).2.2) j hjl na nb ha hb ap hap
          have hch : chunkV ⟨gc, 0, none⟩ j = .slice (some ap) 2 2 := by rw [hap]; rfl
          obtain ⟨kj, hkj⟩ := (join_ev wd na nb hka.u hkb.u).rounds
          have HT := aM' HT
          have HKA := aM' hka
          have HKB := aM' hkb
          have HTW := aM' htw
          have HTO := aM' hto
          have HOK := aM' hok
          have HP := aM' hP
          have HZZ := aM' hz
          have HLEN := aM' hlen
          have HKJ := aM' hkj
          dsimp only
          rw [hch]
          clear ha hb hap hka hkb htw hto hok hP hz hlen hch hjl hkj
          rcases hjn : joinI wd na nb with ⟨r1, r2, r3, r4⟩
          rw [hjn] at HKJ
          have HJN := aM' hjn
          clear hjn
          gi_wp2
          refine region_invIn (fun l a W => ∃ γx : Nat, a = ({ tmps := #[.int .i64 wd, .slice (some ad) ls.length c, .pointer (some ⟨w.heap.size, 0, none⟩), x 3, .pointer (some ⟨w.heap.size + 1, 0, none⟩), .pointer (some ⟨w.heap.size + 1 + 1, 0, none⟩), x 6, x 7, .slice (some ⟨gc, 0, none⟩) cur.length cc, x 9, x 10, .pointer (some ⟨δ, 0, none⟩), .pointer (some ⟨b12, 0, none⟩), .slice (some ap) 2 2, sel (l 11) (.pointer (some ⟨γx, 0, none⟩)) (x 14), sel (l 13) (.int .i64 r4) (x 15), x 16, x 17, x 18, x 19, x 20, x 21, x 22, x 23, x 24, x 25, x 26, x 27, x 28, x 29, x 30, x 31, x 32, x 33, x 34, x 35, x 36, x 37, x 38, x 39, x 40, x 41, x 42, x 43, x 44, x 45, x 46, x 47, x 48, x 49, x 50, x 51, x 52, x 53, x 54, x 55, x 56, x 57, x 58, x 59, x 60, x 61, x 62, x 63, x 64, x 65, x 66, x 67, x 68, x 69, x 70, x 71, x 72, x 73, x 74, x 75, x 76, x 77, x 78, x 79, .func (.func 95) #[] #[.pointer (some ⟨W2.heap.size, 0, none⟩), .pointer (some ⟨W2.heap.size + 1, 0, none⟩)], .slice (some ap) 2 2, sel (l 8) (.tuple #[.agg #[.string r1, .int .u64 r2, .int .u64 r3], .int .i64 r4]) (x 82), sel (l 0) (.int .i64 wd) (x 83), sel (l 1) (.slice (some ap) 2 2) (x 84), sel (l 2) (.pointer (some ap)) (x 85), sel (l 3) (.agg #[.string na.f0, .int .u64 na.f1.f0, .int .u64 na.f1.f1]) (x 86), sel (l 4) (.slice (some ap) 2 2) (x 87), sel (l 5) (.pointer (some (ap.add 3))) (x 88), sel (l 6) (.agg #[.string nb.f0, .int .u64 nb.f1.f0, .int .u64 nb.f1.f1]) (x 89), sel (l 7) (.tuple #[.agg #[.string r1, .int .u64 r2, .int .u64 r3], .int .i64 r4]) (x 90), sel (l 9) (.agg #[.string r1, .int .u64 r2, .int .u64 r3]) (x 91), sel (l 10) (.int .i64 r4) (x 92), x 93, x 94, x 95, x 96, x 97, x 98, x 99, x 100], defers := [] } : Act) ∧ Pr4 Wb W ⟨r1, ⟨r2, r3⟩⟩ l γx) 14 rfl rfl (by kernel_rfl) ?h0 ?hend ?hstep
          case h0 => exact ⟨0, rfl, below_drew (Below.refl _ _), (fun h => by cases h), (fun h => by cases h)⟩
          case hstep =>
           refine rg_cons (rg_cons (rg_cons (rg_cons (rg_cons (rg_cons (rg_cons (rg_cons (rg_cons (rg_cons (rg_cons (rg_cons (rg_cons (rg_cons (rg_nil) ?s0) ?s1) ?s2) ?s3) ?s4) ?s5) ?s6) ?s7) ?s8) ?s9) ?s10) ?s11) ?s12) ?s13
           case s0 =>
            refine rgi_step rfl ?_
            rintro l a W ⟨γx, rfl, hI⟩ hl hd
            clear hd
            have x0 := blk_cell (HP.out.below hI.hB).t.bx.h2 0
            simp at x0
            refine rgi_val (v := .int .i64 wd) (w' := W) (fun _ => trivial) rfl (fun _ h => by cases h) (by go_simp) ?_
            refine ⟨γx, ?_, ?_⟩
            ·
             simp only [Act.put, List.setIfInBounds_toArray, List.set_cons_zero, List.set_cons_succ]; rfl
            ·
             exact hI.other _ (by decide) (by decide) (Below.refl _ _)
           case s1 =>
            refine rgi_step rfl ?_
            rintro l a W ⟨γx, rfl, hI⟩ hl hd
            clear hd
            refine rgi_val (v := .slice (some ap) 2 2) (w' := W) (fun _ => trivial) rfl (fun _ h => by cases h) (by go_simp) ?_
            refine ⟨γx, ?_, ?_⟩
            ·
             simp only [Act.put, List.setIfInBounds_toArray, List.set_cons_zero, List.set_cons_succ]; rfl
            ·
             exact hI.other _ (by decide) (by decide) (Below.refl _ _)
           case s2 =>
            refine rgi_step rfl ?_
            rintro l a W ⟨γx, rfl, hI⟩ hl hd
            have d1 := hd 1 (by decide)
            clear hd
            refine rgi_val (v := .pointer (some ap)) (w' := W) (fun _ => trivial) rfl (fun _ h => by cases h) (by go_simp) ?_
            refine ⟨γx, ?_, ?_⟩
            ·
             simp only [Act.put, List.setIfInBounds_toArray, List.set_cons_zero, List.set_cons_succ]; rfl
            ·
             exact hI.other _ (by decide) (by decide) (Below.refl _ _)
           case s3 =>
            refine rgi_step rfl ?_
            rintro l a W ⟨γx, rfl, hI⟩ hl hd
            have d2 := hd 2 (by decide)
            clear hd
            obtain ⟨⟨x0, x1, x2⟩, y0, y1, y2⟩ := HT.out W hI.hB
            refine rgi_val (v := .agg #[.string na.f0, .int .u64 na.f1.f0, .int .u64 na.f1.f1]) (w' := W) (fun _ => trivial) rfl (fun _ h => by cases h) (by go_simp) ?_
            refine ⟨γx, ?_, ?_⟩
            ·
             simp only [Act.put, List.setIfInBounds_toArray, List.set_cons_zero, List.set_cons_succ]; rfl
            ·
             exact hI.other _ (by decide) (by decide) (Below.refl _ _)
           case s4 =>
            refine rgi_step rfl ?_
            rintro l a W ⟨γx, rfl, hI⟩ hl hd
            clear hd
            refine rgi_val (v := .slice (some ap) 2 2) (w' := W) (fun _ => trivial) rfl (fun _ h => by cases h) (by go_simp) ?_
            refine ⟨γx, ?_, ?_⟩
            ·
             simp only [Act.put, List.setIfInBounds_toArray, List.set_cons_zero, List.set_cons_succ]; rfl
            ·
             exact hI.other _ (by decide) (by decide) (Below.refl _ _)
           case s5 =>
            refine rgi_step rfl ?_
            rintro l a W ⟨γx, rfl, hI⟩ hl hd
            have d4 := hd 4 (by decide)
            clear hd
            refine rgi_val (v := .pointer (some (ap.add 3))) (w' := W) (fun _ => trivial) rfl (fun _ h => by cases h) (by go_simp) ?_
            refine ⟨γx, ?_, ?_⟩
            ·
             simp only [Act.put, List.setIfInBounds_toArray, List.set_cons_zero, List.set_cons_succ]; rfl
            ·
             exact hI.other _ (by decide) (by decide) (Below.refl _ _)
           case s6 =>
            refine rgi_step rfl ?_
            rintro l a W ⟨γx, rfl, hI⟩ hl hd
            have d5 := hd 5 (by decide)
            clear hd
            obtain ⟨⟨x0, x1, x2⟩, y0, y1, y2⟩ := HT.out W hI.hB
            refine rgi_val (v := .agg #[.string nb.f0, .int .u64 nb.f1.f0, .int .u64 nb.f1.f1]) (w' := W) (fun _ => trivial) rfl (fun _ h => by cases h) (by go_simp) ?_
            refine ⟨γx, ?_, ?_⟩
            ·
             simp only [Act.put, List.setIfInBounds_toArray, List.set_cons_zero, List.set_cons_succ]; rfl
            ·
             exact hI.other _ (by decide) (by decide) (Below.refl _ _)
           case s7 =>
            refine rgi_step rfl ?_
            rintro l a W ⟨γx, rfl, hI⟩ hl hd
            have d0 := hd 0 (by decide)
            have d3 := hd 3 (by decide)
            have d6 := hd 6 (by decide)
            clear hd
            refine rgi_call (fun _ => trivial) rfl rfl (fun _ h => by cases h) (by go_simp; exact ⟨rfl, rfl⟩) ?_
            refine (CallsIn.inRound l2 (callsIn_wide.2 (node_Join.calls kj wd na.f0 na.f1.f0 na.f1.f1 nb.f0 nb.f1.f0 nb.f1.f1 r1 r2 r3 r4 W (HK.out.below (HP.out.t.bx.hB.trans (hI.hB.mono HP.out.t.bx.hB.size))).1 HKJ.out))).mono ?_
            rintro xx W' ⟨rfl, hb⟩
            refine ⟨_, rfl, γx, ?_, ?_⟩
            ·
             simp only [Act.put, List.setIfInBounds_toArray, List.set_cons_zero, List.set_cons_succ]; rfl
            ·
             exact hI.other 7 (by decide) (by decide) hb
           case s8 =>
            refine rgi_step rfl ?_
            rintro l a W ⟨γx, rfl, hI⟩ hl hd
            have d7 := hd 7 (by decide)
            clear hd
            refine rgi_val (v := .tuple #[.agg #[.string r1, .int .u64 r2, .int .u64 r3], .int .i64 r4]) (w' := W) (fun _ => trivial) rfl (fun _ h => by cases h) (by go_simp) ?_
            refine ⟨γx, ?_, ?_⟩
            ·
             simp only [Act.put, List.setIfInBounds_toArray, List.set_cons_zero, List.set_cons_succ]; rfl
            ·
             exact hI.other _ (by decide) (by decide) (Below.refl _ _)
           case s9 =>
            refine rgi_step rfl ?_
            rintro l a W ⟨γx, rfl, hI⟩ hl hd
            have d8 := hd 8 (by decide)
            clear hd
            refine rgi_val (v := .agg #[.string r1, .int .u64 r2, .int .u64 r3]) (w' := W) (fun _ => trivial) rfl (fun _ h => by cases h) (by go_simp) ?_
            refine ⟨γx, ?_, ?_⟩
            ·
             simp only [Act.put, List.setIfInBounds_toArray, List.set_cons_zero, List.set_cons_succ]; rfl
            ·
             exact hI.other _ (by decide) (by decide) (Below.refl _ _)
           case s10 =>
            refine rgi_step rfl ?_
            rintro l a W ⟨γx, rfl, hI⟩ hl hd
            have d8 := hd 8 (by decide)
            clear hd
            refine rgi_val (v := .int .i64 r4) (w' := W) (fun _ => trivial) rfl (fun _ h => by cases h) (by go_simp) ?_
            refine ⟨γx, ?_, ?_⟩
            ·
             simp only [Act.put, List.setIfInBounds_toArray, List.set_cons_zero, List.set_cons_succ]; rfl
            ·
             exact hI.other _ (by decide) (by decide) (Below.refl _ _)
           case s11 =>
            refine rgi_step rfl ?_
            rintro l a W ⟨γx, rfl, hI⟩ hl hd
            clear hd
            refine rgi_val (v := .pointer (some ⟨W.heap.size, 0, none⟩)) (w' := W.alloc (.cells #[.string ⟨#[]⟩, .int .u64 0, .int .u64 0] 46 (0, 0))) (fun _ => trivial) rfl (fun _ h => by cases h) (by go_simp) ?_
            refine ⟨W.heap.size, ?_, ?_⟩
            ·
             simp only [Act.put, List.setIfInBounds_toArray, List.set_cons_zero, List.set_cons_succ]; rfl
            ·
             exact hI.alloc hl
           case s12 =>
            refine rgi_step rfl ?_
            rintro l a W ⟨γx, rfl, hI⟩ hl hd
            have d11 := hd 11 (by decide)
            have d9 := hd 9 (by decide)
            clear hd
            have hg := (hI.hg d11).2
            rw [show l 12 = false from hl, if_neg (by decide)] at hg
            have y0 := blk_cell hg 0
            have y1 := blk_cell hg 1
            have y2 := blk_cell hg 2
            have yf := fun i => blk_frozen hg i
            simp at y0 y1 y2
            refine rgi_skip (fun _ => trivial) rfl (fun _ h => by cases h) (by go_simp; rfl) ?_
            refine ⟨γx, ?_, ?_⟩
            ·
             simp only [Act.put, List.setIfInBounds_toArray, List.set_cons_zero, List.set_cons_succ]; rfl
            ·
             exact hI.store d11 hl
           case s13 =>
            refine rgi_step rfl ?_
            rintro l a W ⟨γx, rfl, hI⟩ hl hd
            have d10 := hd 10 (by decide)
            clear hd
            refine rgi_val (v := .int .i64 r4) (w' := W) (fun _ => trivial) rfl (fun _ h => by cases h) (by go_simp) ?_
            refine ⟨γx, ?_, ?_⟩
            ·
             simp only [Act.put, List.setIfInBounds_toArray, List.set_cons_zero, List.set_cons_succ]; rfl
            ·
             exact hI.other _ (by decide) (by decide) (Below.refl _ _)
          case hend =>
           rintro l a W ⟨γx, rfl, hI⟩ hall
           have e0 := hall 0 (by decide)
           have e1 := hall 1 (by decide)
           have e2 := hall 2 (by decide)
           have e3 := hall 3 (by decide)
           have e4 := hall 4 (by decide)
           have e5 := hall 5 (by decide)
           have e6 := hall 6 (by decide)
           have e7 := hall 7 (by decide)
           have e8 := hall 8 (by decide)
           have e9 := hall 9 (by decide)
           have e10 := hall 10 (by decide)
           have e11 := hall 11 (by decide)
           have e12 := hall 12 (by decide)
           have e13 := hall 13 (by decide)
           clear hall
           have hD := hI.hg e11
           rw [if_pos e12] at hD
           obtain ⟨hγ, hγc⟩ := hD
           have hBb := hI.hB
           have hP5 := HP.out.below hBb
           have HBb := aM' hBb
           have HP5 := aM' hP5
           have HG := aM' hγ
           have HGC := aM' hγc
           clear hI hγ hγc hBb hP5 HP
           simp only [e0, e1, e2, e3, e4, e5, e6, e7, e8, e9, e10, e11, e12, e13, sel_true]
           clear e0 e1 e2 e3 e4 e5 e6 e7 e8 e9 e10 e11 e12 e13
           obtain ⟨dn, hdn⟩ : ∃ dn, (pre.map fun y => twoV wd cur y.1) = dn := ⟨_, rfl⟩
           rw [hdn] at HP5
           have hdl : dn.length = pre.length := by rw [← hdn]; simp
           have HDN := aM' hdn
           have HDL := aM' hdl
           obtain ⟨A12, c12, hbx, hown0⟩ := HP5.out.b
           have HBX := aM' hbx
           have HOWN0 := aM' hown0
           have hbd := HP5.out.bd
           have HBD := aM' hbd
           have hw3 := HW3.out
           have hz := HZ.out
           have hzz := HZZ.out
           have hbz := HBb.out.size
           have hlt := HP5.out.lt
           have HSZ := aM' (show b12 < W.heap.size ∧ b12 + 3 ≤ Wb.heap.size ∧ Wb.heap.size ≤ W.heap.size ∧ W2.heap.size = b12 + 1 ∧ w3.heap.size = b12 + 3 from ⟨hlt, by omega, hbz, hz.2, hw3⟩)
           have y12 : W.cell? ⟨b12, 0, none⟩ = some (.slice A12 dn.length c12) := blk_cell hbx 0
           have y0 : W.cell? ⟨γx, 0, none⟩ = some (.string r1) := blk_cell HGC.out 0
           have y1 : W.cell? ⟨γx, 1, none⟩ = some (.int .u64 r2) := blk_cell HGC.out 1
           have y2 : W.cell? ⟨γx, 2, none⟩ = some (.int .u64 r3) := blk_cell HGC.out 2
           clear hdn hdl hbx hown0 hbd hw3 hz hzz hbz hlt
           by_cases h0 : r4 = 0
           ·
            subst h0
            have hroom : valU na.f1 + valU nb.f1 < 340282366920938463463374607431768211456 := by
             rcases Int.lt_or_le (valU na.f1 + valU nb.f1) 340282366920938463463374607431768211456 with h | h
             ·
              exact h
             ·
              have := joinI_full HKA.out HKB.out (by omega)
              rw [HJN.out] at this
              simp at this
            have hjv : (⟨r1, ⟨r2, r3⟩⟩ : SNode) = joinV wd na nb := by
             have := joinI_room HKA.out HKB.out hroom
             rw [HJN.out] at this
             simp only [Prod.mk.injEq] at this
             obtain ⟨e1, e2, e3, -⟩ := this
             rw [e1, e2, e3]
            have HRM := aM' hroom
            have HJV := aM' hjv
            clear hroom hjv
            gi_upto_region 25 with (fail)
            refine wpIn_region_list ?_
            refine li_val (v := .slice A12 dn.length c12) (w' := W) rfl (fun _ => trivial) (fun _ h => by cases h) (by go_simp; done) ?_
            refine li_val (v := .agg #[.string r1, .int .u64 r2, .int .u64 r3]) (w' := W) rfl (fun _ => trivial) (fun _ h => by cases h) (by go_simp; done) ?_
            refine li_val (v := .slice (some ⟨W.heap.size, 0, none⟩) 1 1) (w' := W.alloc (.cells #[.string r1, .int .u64 r2, .int .u64 r3] 46 (0, 0))) rfl (fun _ => trivial) (fun _ h => by cases h) (by go_simp; done) ?_
            refine wpListIn_append_own _ rfl _ _ 43 rfl (b12 + 3) 46 i0 (.agg #[(.string ⟨#[]⟩), (.int .u64 0), (.int .u64 0)]) 3 32 Tryd.underlying43 hi hz0 hz1 hz2 rfl (by decide) (.slice A12 dn.length c12) dn.length (cellsN dn) rfl ?own ⟨W.heap.size, 0, none⟩ 1 1 [.string r1, .int .u64 r2, .int .u64 r3] rfl rfl ?cells ?one ?b1 ?b2 ?b3 ?_
            (case own => exact ownB HOWN0.out (below_alloc (Below.refl _ _) _))
            (case cells => exact World.news_of_block (blk_new W _))
            (case one => intro u hu; simp at hu; rcases hu with rfl | rfl | rfl <;> rfl)
            (case b1 => have h1 := HLEN.out; have h2 := HDL.out; have := HM5.out; unfold maxLen; omega)
            (case b2 => have h1 := HLEN.out; have h2 := HDL.out; have := HM5.out; omega)
            (case b3 => rw [World.size_alloc]; have := HSZ.out; omega)
            intro v' w7 hown hgr hnil
            obtain ⟨g, cap, rfl, -, hg7⟩ := hown.form (by omega)
            have HOWN := aM' hown
            have HGR := aM' hgr
            have hne : ∀ e, (Value.slice A12 dn.length c12).ownBlock = some e → b12 + 3 ≤ e := fun e he => (HOWN0.out.lt e he).1
            have HNE := aM' hne
            have hz6 := (hgr.block b12 (by rw [World.size_alloc]; have := HSZ.out; omega) (fun e => by have := hne _ e.symm; omega)).trans (blk_alloc HBX.out _)
            have z6 : w7.cell? ⟨b12, 0, none⟩ = some (.slice A12 dn.length c12) := blk_cell hz6 0
            have zf : ∀ i, w7.frozen? ⟨b12, i, none⟩ = false := fun i => blk_frozen hz6 i
            clear hown hgr hz6 hnil hne hg7
            refine li_skip (w' := w7.setCell ⟨b12, 0, none⟩ (.slice (some ⟨g, 0, none⟩) (dn.length + 1) cap)) rfl (fun _ => trivial) (fun _ h => by cases h) (by go_simp; first | done | rfl) ?_
            gi_wp2
            have hW1 : ∀ k, k < Wb.heap.size → (W.alloc (.cells #[.string r1, .int .u64 r2, .int .u64 r3] 46 (0, 0))).heap[k]? = Wb.heap[k]? := fun k hk => by
             rw [(below_alloc (Below.refl W.heap.size W) _).block k (lL' hk HSZ.out.2.2.1)]
             exact HBb.out.block k hk
            have hend : ∀ k, k < Wb.heap.size → (Value.slice A12 dn.length c12).ownBlock ≠ some k → k ≠ b12 → (w7.setCell ⟨b12, 0, none⟩ (.slice (some ⟨g, 0, none⟩) (dn.length + 1) cap)).heap[k]? = Wb.heap[k]? := fun k hk h1 h2 =>
             (Below.heap_setCell _ _ _ _ h2).trans ((HGR.out.block k (by rw [World.size_alloc]; have := HSZ.out; omega) (fun e => h1 e.symm)).trans (hW1 k hk))
            have hsz : Wb.heap.size ≤ w7.heap.size := by have h1 := HGR.out.size; rw [World.size_alloc] at h1; have := HSZ.out; omega
            refine ⟨⟨by simpa using hsz, fun k o hk h0 ho => ?_⟩, ?_, ?_, ?_, ?_⟩
            ·
             rw [hend k (Array.getElem?_eq_some_iff.1 h0).1 (fun e => ?_) (by have := HSZ.out; omega)]
             ·
              exact h0
             ·
              obtain ⟨cs, h3⟩ := own_cells HOWN0.out e
              rw [HBb.out.block k (Array.getElem?_eq_some_iff.1 h0).1] at h3
              rw [h0] at h3
              cases h3
              cases ho
            ·
             intro k hk
             refine hend k (by have := HSZ.out; rcases hk with rfl | rfl <;> omega) (fun e => by have := HNE.out _ e; have := HSZ.out; rcases hk with rfl | rfl <;> omega) (by have := HSZ.out; rcases hk with rfl | rfl <;> omega)
            ·
             intro y hy
             rcases List.mem_append.1 hy with hy | hy
             ·
              exact HOK.out y hy
             ·
              obtain rfl := List.mem_singleton.1 hy
              exact HTO.out.2 HRM.out
            ·
             have hm := (HP5.out.below (below_alloc (Below.refl _ _) (.cells #[.string r1, .int .u64 r2, .int .u64 r3] 46))).more (x := ⟨r1, ⟨r2, r3⟩⟩) (blk_alloc HBX.out _) (ownB HOWN0.out (below_alloc (Below.refl _ _) _)) HGR.out HOWN.out
             rw [List.map_append, HDN.out]
             have hx : (List.map (fun y : { j : Nat // j < m } => twoV wd cur y.1) [⟨j, hj⟩]) = [⟨r1, ⟨r2, r3⟩⟩] := by rw [HJV.out, ← HTW.out]; rfl
             rw [hx]
             exact hm
            ·
             exact Nat.le_trans HZZ.out (by simpa using hsz)
           ·
            have b1 : (r4 != 0) = true := by simp [h0]
            have hroom : ¬ valU na.f1 + valU nb.f1 < 340282366920938463463374607431768211456 := fun h => by
             have := joinI_room HKA.out HKB.out h
             rw [HJN.out] at this
             simp only [Prod.mk.injEq] at this
             exact h0 this.2.2.2
            have h10 : r4 = 10 := by
             have := joinI_full HKA.out HKB.out hroom
             rw [HJN.out] at this
             simp only [Prod.mk.injEq] at this
             exact this.2.2.2
            have HRM := aM' hroom
            clear hroom
            have y4 : W.cell? ⟨w.heap.size + 1, 0, none⟩ = some (.pointer none) := blk_cell HP5.out.t.bx.h4 0
            have f4 : ∀ i, W.frozen? ⟨w.heap.size + 1, i, none⟩ = false := fun i => blk_frozen HP5.out.t.bx.h4 i
            have y5 : W.cell? ⟨w.heap.size + 1 + 1, 0, none⟩ = some (.int .i64 0) := blk_cell HP5.out.t.bx.h5 0
            have f5 : ∀ i, W.frozen? ⟨w.heap.size + 1 + 1, i, none⟩ = false := fun i => blk_frozen HP5.out.t.bx.h5 i
            gi_wp2
            have hNE : NxE w ds ((W.setCell ⟨w.heap.size + 1, 0, none⟩ (.pointer none)).setCell ⟨w.heap.size + 1 + 1, 0, none⟩ (.int .i64 10)) := NxE.made HP5.out.t
            refine ⟨⟨by have := HSZ.out; simpa using this.2.2.1, fun k o hk h0 ho => ?_⟩, rfl, ⟨j, ⟨hj, by simp⟩, fun h => absurd (HTO.out.1 h) (by have := HRM.out; omega)⟩, by first | exact hNE | (rw [h10]; exact hNE)⟩
            have := HBD.out.b
            have := HSZ.out
            exact (Below.heap_setCell _ _ _ _ (by show k ≠ w.heap.size + 1 + 1; omega)).trans ((Below.heap_setCell _ _ _ _ (by show k ≠ w.heap.size + 1; omega)).trans ((HBb.out.block k (Array.getElem?_eq_some_iff.1 h0).1).trans h0))
         case done =>
          rintro D ys W hD hys ⟨hok, hP, hz⟩ hdf
          have hdn : (ys.map fun y => twoV wd cur y.1) = pairsV wd cur := by
           rw [pairsV_range wd m cur HM.out.1, ← hys, List.map_map]; rfl
          have hpo : pairsOk cur = true := (pairsOk_range m cur HM.out.1).2 (fun j hj => by
           have h1 : j ∈ ys.map Subtype.val := by rw [hys]; exact List.mem_range.2 hj
           obtain ⟨y, hy, rfl⟩ := List.mem_map.1 h1
           exact hok y hy)
          rw [hdn] at hP
          have hpl : (pairsV wd cur).length = m := pairsV_len wd m cur HM.out.1
          obtain ⟨A12, c12, hbx, hown⟩ := hP.b
          rw [hpl] at hbx hown
          obtain ⟨g, cap, hv, -, -⟩ := hown.form HM.out.2
          cases hv
          have HNX := aM' (HH.out.next HM.out.1 HM.out.2 hpo hP hown (by have := HW3.out; omega) hdf)
          have y12 : W.cell? ⟨b12, 0, none⟩ = some (.slice (some ⟨g, 0, none⟩) m c12) := blk_cell hbx 0
          have HPL := aM' hpl
          clear hok hP hz hdn hpo hpl hbx hown hdf hys hD
          dsimp only
          go_wp2
          refine ⟨?_, ?_⟩
          ·
           rw [HI.out]
           refine ⟨fun i => if i = 12 then .pointer (some ⟨b12, 0, none⟩) else if i = 80 then .func (.func 95) #[] #[.pointer (some ⟨W2.heap.size, 0, none⟩), .pointer (some ⟨W2.heap.size + 1, 0, none⟩)] else if i = 100 then .slice (some ⟨g, 0, none⟩) m c12 else x i, gs ++ [(gc, cc)], done ++ [cur], D :: ds, pairsV wd cur, g, c12, some ⟨γ2, 0, none⟩, κ2, ?_, HNX.out⟩
           rw [HPL.out]
           rfl
          ·
           show m < cur.length
           have := HM.out
           omega
         case stop =>
          rintro D c2 pre W hD - ⟨rfl, ⟨y, hy, hno⟩, hE⟩ hdf
          have hpo : pairsOk cur = false := by
           cases h : pairsOk cur with
           | false => rfl
           | true => exact absurd ((pairsOk_range m cur HM.out.1).1 h y.1 y.2) hno
          have htot : ¬ totL (ls.map (leafNodeI wd)) < 340282366920938463463374607431768211456 := by
           rw [← HH.out.s]
           exact pairsOk_tot m cur HM.out.1 HH.out.n hpo
          have HE := aM' hE
          have HDF := aM' hdf
          have HTOT := aM' htot
          have HDB := aM' hD
          clear hE hdf htot hD hno hpo
          gi_wp2
          refine newErrD (ds := D :: ds) HE.out.hB (List.nodup_cons.2 ⟨fun h => by have := HX3.out.bd.d D h; have := HDB.out; have := HW3.out; omega, HH.out.t.dn⟩) (fun D' hD' => ?_) (fun D' hD' => ?_) rfl rfl HE.out.h4 HE.out.h5 (newI_full HW.out HP.out HALL.out (by have := HTOT.out; omega)) (by decide)
          ·
           rcases List.mem_cons.1 hD' with rfl | hD'
           ·
            exact HDF.out
           ·
            exact HE.out.hd D' hD'
          ·
           rcases List.mem_cons.1 hD' with rfl | hD'
           ·
            have := HDB.out; have := HW3.out; have := HX3.out.bd.b; omega
           ·
            exact HH.out.d D' hD'
end Go.Proofs.YtfcodmdckcihmaaDoor.P
namespace Go.Proofs.YtfcodmdckcihmaaDoor.P
open Go.RowKit Go.Proofs.YtfcodmdckcihmaaDoorW.PrintWords Go.Proofs.YtfcodmdckcihmaaDoorW.PrintLast Go.Proofs.YtfcodmdckcihmaaDoorW.PrintMore
attribute [local go_sem] max2_int min2_int max_two min_two max_three min_three max_four min_four-- for this text's walks alone
set_option linter.unusedVariables false
set_option linter.unusedSimpArgs false
def paymasterref15_Nodes.l0 : Nat → Int → List (SLeaf) → List (SNode) → Int → Option ((List (SNode)))
 | 0, _, _, _, _ => none
 | k + 1, x0, x1, x5, x6 => if x6 < (x1.length : Int) then (if 0 ≤ x6 then ((paymasterref07_LeafNode.f k x0 ((rd_TLeaf x1 x6).f0) ((rd_TLeaf x1 x6).f1) ((rd_TLeaf x1 x6).f2) ((rd_TLeaf x1 x6).f3.f0) ((rd_TLeaf x1 x6).f3.f1)).bind fun bt106 => (if x5.length < 4398046511104 then (paymasterref15_Nodes.l0 k x0 x1 (x5 ++ [(⟨bt106.1, (⟨bt106.2.1, bt106.2.2⟩ : SU128)⟩ : SNode)]) (wrap64 (x6 + 1))) else (none))) else (none)) else (some x5)
def paymasterref15_Nodes.f (k : Nat) (a0 : Int) (l1 : List (SLeaf)) : Option ((List (SNode))) := paymasterref15_Nodes.l0 k a0 l1 ([] : List (SNode)) 0
set_option maxHeartbeats 8000000 in
set_option maxRecDepth 100000 in
theorem paymasterref15_Nodes.calls (k : Nat) (a0 : Int) (A1 : Option Addr) (c1 : Nat) (l1 : List (SLeaf)) (r : List (SNode)) (w : World) (hr1 : Kd.C kLeaf w A1 l1.length l1) (hc1 : l1.length ≤ c1) (h : paymasterref15_Nodes.f k a0 l1 = some r) :
  Calls Tryd.prog 62 #[.int .i64 a0, .slice A1 l1.length c1] w fun e w' => ∃ v0_ : Value, e = .returned (v0_) ∧ Kd.R kNode 46 w' w.heap.size (fun _ => True) v0_ r ∧ Below w.heap.size w w' := by
 have hu36 := Tryd.underlying36
 have HR1 := aM' hr1
 have HC1 := aM' hc1
 clear hr1 hc1
 have HB := aM' (Below.refl w.heap.size w)
 have H : (paymasterref15_Nodes.l0 k a0 l1 ([] : List (SNode)) 0) = some r := h
 clear h
 have H' := aM' H
 clear H
 go_enter Tryd.func62, Tryd.ntmps62
 go_wp2
 go_loopg [5, 6] k (fun kq v5 v6 w' => ∃ (x5_1 : List (SNode)) (x6_1 : Int), v6 = .int .i64 x6_1 ∧ Aside0 (paymasterref15_Nodes.l0 kq a0 l1 x5_1 x6_1 = some r) ∧ Aside0 (kq ≤ k) ∧ Aside0 (Kd.R kNode 46 w' w.heap.size (fun _ => True) v5 x5_1) ∧ Aside0 (Below w.heap.size w w'))
 case atStart => exact ⟨(([] : List (SNode))), (0), (by first | rfl | (simp; done) | (simp [*]; done)), H', ⟨Nat.le_refl _⟩, ⟨by first | exact Kd.R_nil _ _ _ _ _ | exact Kd.N_nil _ _ _ _ _ | exact Kd.V_nil _ _ _ _ _ | exact Kd.Q_nil _ _ _ _ _ | exact Kd.S_nil _ _ _ _ _⟩, ⟨by repeat (first | (with_reducible first | exact HB.out | apply below_alloc | apply pw_below_drewN | apply below_drew1) | exact HB.out)⟩⟩
 case round =>
  clear H'
  try clear c1
  try clear p2
  obtain ⟨x5_1, x6_1, rfl, HA, HK1, HO_5, HB⟩ := hrel
  cases gk with
  | zero => exact absurd HA.out (by simp [paymasterref15_Nodes.l0])
  | succ k1 =>
   have H := HA.out
   clear HA
   simp only [paymasterref15_Nodes.l0] at H
   by_cases c3 : x6_1 < (l1.length : Int)
   ·
    rw [if_pos c3] at H
    have c3b0 : decide (x6_1 < (l1.length : Int)) = true := decide_eq_true c3
    clear c3
    by_cases c4 : 0 ≤ x6_1
    ·
     rw [if_pos c4] at H
     have c4b0 : decide (0 ≤ x6_1) = true := decide_eq_true c4
     clear c4
     replace H := Option.bind_eq_some_iff.mp H
     obtain ⟨⟨t106, t107, t108⟩, A50, H⟩ := H
     replace H : (if x5_1.length < 4398046511104 then (paymasterref15_Nodes.l0 k1 a0 l1 (x5_1 ++ [(⟨t106, (⟨t107, t108⟩ : SU128)⟩ : SNode)]) (wrap64 (x6_1 + 1))) else (none)) = some r := H
     have A5 := aM' A50
     clear A50
     by_cases c6 : x5_1.length < 4398046511104
     ·
      rw [if_pos c6] at H
      have LMc6 := aM' c6
      clear c6
      obtain ⟨y109, hy109⟩ : ∃ y_ : List (SNode), y_ = (x5_1 ++ [(⟨t106, (⟨t107, t108⟩ : SU128)⟩ : SNode)]) := ⟨_, rfl⟩
      replace H : (paymasterref15_Nodes.l0 k1 a0 l1 y109 (wrap64 (x6_1 + 1))) = some r := by first | (rw [hy109]; with_reducible exact H) | (have H2_ := (Option.bind_some _ _).symm.trans H; rw [hy109]; with_reducible exact H2_) | (have H2_ := (Option.bind_some _ _).symm.trans H; with_reducible exact H2_) | with_reducible exact H | (rw [hy109]; exact H) | exact H
      have Ny109 := aM' hy109
      clear hy109
      have H' := aM' H
      clear H
      have p105 : 0 ≤ (x6_1 : Int) := of_decide_eq_true (by first | (with_reducible assumption) | assumption)
      have q105 : x6_1 < (l1.length : Int) := of_decide_eq_true (by first | (with_reducible assumption) | assumption)
      obtain ⟨ad105, e105, hx105_0, hx105_1, hx105_2, hx105_3, hx105_4⟩ := at_TLeaf HR1.out x6_1 p105 q105
      cases e105
      replace hx105_0 := (HB.out.cell (bL' w _ hx105_0)).trans hx105_0
      replace hx105_1 := (HB.out.cell (bL' w _ hx105_1)).trans hx105_1
      replace hx105_2 := (HB.out.cell (bL' w _ hx105_2)).trans hx105_2
      replace hx105_3 := (HB.out.cell (bL' w _ hx105_3)).trans hx105_3
      replace hx105_4 := (HB.out.cell (bL' w _ hx105_4)).trans hx105_4
      replace p105 := eq_true p105
      replace q105 := eq_true q105
      go_wp2_with (first | ((with_reducible refine gate_callee (f := 99) rfl ?_); refine goesL_ (some 19) rfl rfl Tryd.func99 (by kernel_rfl) rfl #[.int .i64 a0, .agg #[.bool ((rd_TLeaf l1 x6_1).f0), .string ((rd_TLeaf l1 x6_1).f1), .string ((rd_TLeaf l1 x6_1).f2), .int .u64 ((rd_TLeaf l1 x6_1).f3.f0), .int .u64 ((rd_TLeaf l1 x6_1).f3.f1)]] rfl (by (try simp only [List.map_toArray, List.map_cons, List.map_nil]); first | done | rfl | (simp only [List.length_drop, List.length_take]; rfl)) ?_; (with_reducible refine (paymasterref07_LeafNode.calls k1 a0 ((rd_TLeaf l1 x6_1).f0) ((rd_TLeaf l1 x6_1).f1) ((rd_TLeaf l1 x6_1).f2) ((rd_TLeaf l1 x6_1).f3.f0) ((rd_TLeaf l1 x6_1).f3.f1) t106 t107 t108 _ A5.out).mono ?_); rintro e w7 ⟨rfl, hb⟩; refine ⟨_, rfl, ?_⟩; have n0_ := aM' (Kd.R_below (by (with_reducible repeat (first | apply Kd.R_alloc | apply Kd.R_drewN | apply Kd.R_drew)); exact HO_5.out) hb); have n1_ := aM' (below_step (by repeat (first | (with_reducible first | exact HB.out | apply below_alloc | apply pw_below_drewN | apply below_drew1) | exact HB.out)) hb); clear HO_5; clear HB; have HO_5 := n0_; have HB := n1_; clear n0_ n1_; (try clear hb); (try clear hb2); (try clear hk); (try clear hi)) | ((with_reducible refine gate_builtin (b := .append) (xs := #[.tmp 13, .tmp 20]) rfl ?_); at_builtin; refine Kd.R_append kNode (w0 := w) w.heap.size rfl (.tmp 13) (.tmp 20) 43 46 (.agg #[(.string ⟨#[]⟩), (.int .u64 0), (.int .u64 0)]) 32 rfl Tryd.underlying43 infoNode rfl (by decide) (by omega) u5 x5_1 (⟨t106, (⟨t107, t108⟩ : SU128)⟩ : SNode) [.string t106, .int .u64 t107, .int .u64 t108] (fun _ => True) (fun _ => False) rfl rfl ?aP (fun _ hk => hk.elim) ?aF ?aO ?aB ?aS ?aL ?_; (case aP => exact kNode_mkM _ _ _ (⟨t106, (⟨t107, t108⟩ : SU128)⟩ : SNode)); (case aB => exact (by repeat (first | (with_reducible first | exact HB.out | apply below_alloc | apply pw_below_drewN | apply below_drew1) | exact HB.out))); (case aF => exact (fun _ _ => trivial)); (case aO => exact (by (with_reducible repeat (first | apply Kd.R_alloc | apply Kd.R_drewN | apply Kd.R_drew)); exact HO_5.out)); (case aS => exact (below_size (by repeat (first | (with_reducible first | exact HB.out | apply below_alloc | apply pw_below_drewN | apply below_drew1) | exact HB.out)))); (case aL => have := LMc6.out; omega); intro v110 w8 ho hb hg hat; rw [← Ny109.out] at ho; have n0_ := aM' (hb); have n1_ := aM' (ho); clear HB; clear HO_5; have HB := n0_; have HO111 := n1_; clear n0_ n1_; clear ho hb hg hat))
      go_roundg k1
      case measure => have := HK1.out; omega
      case rel => exact ⟨(y109), (wrap64 (x6_1 + 1)), (by first | rfl | (simp; done) | (simp [*]; done)), H', ⟨by have := HK1.out; omega⟩, ⟨by (with_reducible repeat (first | apply Kd.R_alloc | apply Kd.R_drewN | apply Kd.R_drew)); exact HO111.out⟩, ⟨by repeat (first | (with_reducible first | exact HB.out | apply below_alloc | apply pw_below_drewN | apply below_drew1) | exact HB.out)⟩⟩
     ·
      rw [if_neg c6] at H
      exact absurd H (by simp)
    ·
     rw [if_neg c4] at H
     exact absurd H (by simp)
   ·
    rw [if_neg c3] at H
    have c3b0 : decide (x6_1 < (l1.length : Int)) = false := decide_eq_false c3
    clear c3
    obtain rfl := Option.some.inj H
    go_wp2
    go_ret
    exact ⟨_, by first | rfl | (simp [errW_none, errW_some] <;> rfl) | (simp [*, errW_none, errW_some] <;> rfl), by (with_reducible repeat (first | apply Kd.R_alloc | apply Kd.R_drewN | apply Kd.R_drew)); exact HO_5.out, by repeat (first | (with_reducible first | exact HB.out | apply below_alloc | apply pw_below_drewN | apply below_drew1) | exact HB.out)⟩
end Go.Proofs.YtfcodmdckcihmaaDoor.P
namespace Go.Proofs.YtfcodmdckcihmaaDoor.P
open Go.RowKit Go.Proofs.YtfcodmdckcihmaaDoorW.PrintWords Go.Proofs.YtfcodmdckcihmaaDoorW.PrintLast Go.Proofs.YtfcodmdckcihmaaDoorW.PrintMore
attribute [local go_sem] max2_int min2_int max_two min_two max_three min_three max_four min_four-- for this text's walks alone
set_option linter.unusedVariables false
set_option linter.unusedSimpArgs false
def paymasterref15_Up.l0 : Nat → Int → List (SNode) → List (SNode) → Int → Option ((List (SNode)))
 | 0, _, _, _, _ => none
 | k + 1, x0, x1, x5, x6 => if (wrap64 (x6 + 1)) < (x1.length : Int) then (if 0 ≤ x6 then (if x6 < (x1.length : Int) then (if 0 ≤ (wrap64 (x6 + 1)) then ((paymasterref14_Join.f k x0 ((rd_TNode x1 x6).f0) ((rd_TNode x1 x6).f1.f0) ((rd_TNode x1 x6).f1.f1) ((rd_TNode x1 (wrap64 (x6 + 1))).f0) ((rd_TNode x1 (wrap64 (x6 + 1))).f1.f0) ((rd_TNode x1 (wrap64 (x6 + 1))).f1.f1)).bind fun bt114 => (if x5.length < 4398046511104 then (paymasterref15_Up.l0 k x0 x1 (x5 ++ [(⟨bt114.1, (⟨bt114.2.1, bt114.2.2.1⟩ : SU128)⟩ : SNode)]) (wrap64 (x6 + 2))) else (none))) else (none)) else (none)) else (none)) else (some x5)
def paymasterref15_Up.f (k : Nat) (a0 : Int) (l1 : List (SNode)) : Option ((List (SNode))) := paymasterref15_Up.l0 k a0 l1 ([] : List (SNode)) 0
def paymasterref15_Up.T5 : Bool × List (List Nat × List Nat) := (true, [([], []), ([], []), ([], []), ([1, 2], [1, 2]), ([3], [3]), ([], []), ([], []), ([6], [6]), ([5, 7], [5, 7]), ([8], [8]), ([0, 4, 9], [0, 4, 9]), ([10], [10]), ([11], [11]), ([11], [11]), ([], []), ([14, 12, 10, 0, 1, 2, 3, 4, 5, 6, 7, 8, 9, 10, 11, 12, 14], [12, 14]), ([13, 15, 0, 1, 2, 3, 4, 5, 6, 7, 8, 9, 10, 11, 12, 13, 14, 15], [13])])
def paymasterref15_Up.B5 : List Nat := [0, 0, 0, 6, 14, 0, 0, 64, 224, 480, 1023, 2047, 4095, 4095, 0, 24575, 65535]
theorem paymasterref15_Up.tab5 : rtab .any (opsOf Tryd.f64 5) = paymasterref15_Up.T5 := by kernel_rfl
theorem paymasterref15_Up.bits5 : waitsOk paymasterref15_Up.T5.2 paymasterref15_Up.B5 = true := by kernel_rfl
set_option maxHeartbeats 8000000 in
set_option maxRecDepth 100000 in
theorem paymasterref15_Up.calls (k : Nat) (a0 : Int) (A1 : Option Addr) (c1 : Nat) (l1 : List (SNode)) (r : List (SNode)) (w : World) (hr1 : Kd.C kNode w A1 l1.length l1) (hc1 : l1.length ≤ c1) (h : paymasterref15_Up.f k a0 l1 = some r) :
  Calls Tryd.prog 64 #[.int .i64 a0, .slice A1 l1.length c1] w fun e w' => ∃ v0_ : Value, e = .returned (v0_) ∧ Kd.R kNode 46 w' w.heap.size (fun _ => True) v0_ r ∧ Below w.heap.size w w' := by
 have hu46 := Tryd.underlying46
 have HR1 := aM' hr1
 have HC1 := aM' hc1
 clear hr1 hc1
 have HB := aM' (Below.refl w.heap.size w)
 have H : (paymasterref15_Up.l0 k a0 l1 ([] : List (SNode)) 0) = some r := h
 clear h
 have H' := aM' H
 clear H
 go_enter Tryd.func64, Tryd.ntmps64
 go_wp2
 go_loopg [5, 6] k (fun kq v5 v6 w' => ∃ (x5_1 : List (SNode)) (x6_1 : Int), v6 = .int .i64 x6_1 ∧ Aside0 (paymasterref15_Up.l0 kq a0 l1 x5_1 x6_1 = some r) ∧ Aside0 (kq ≤ k) ∧ Aside0 (Kd.R kNode 46 w' w.heap.size (fun _ => True) v5 x5_1) ∧ Aside0 (Below w.heap.size w w'))
 case atStart => exact ⟨(([] : List (SNode))), (0), (by first | rfl | (simp; done) | (simp [*]; done)), H', ⟨Nat.le_refl _⟩, ⟨by first | exact Kd.R_nil _ _ _ _ _ | exact Kd.N_nil _ _ _ _ _ | exact Kd.V_nil _ _ _ _ _ | exact Kd.Q_nil _ _ _ _ _ | exact Kd.S_nil _ _ _ _ _⟩, ⟨by repeat (first | (with_reducible first | exact HB.out | apply below_alloc | apply pw_below_drewN | apply below_drew1) | exact HB.out)⟩⟩
 case round =>
  clear H'
  try clear c1
  try clear p2
  obtain ⟨x5_1, x6_1, rfl, HA, HK1, HO_5, HB⟩ := hrel
  cases gk with
  | zero => exact absurd HA.out (by simp [paymasterref15_Up.l0])
  | succ k1 =>
   have H := HA.out
   clear HA
   simp only [paymasterref15_Up.l0] at H
   by_cases c3 : (wrap64 (x6_1 + 1)) < (l1.length : Int)
   ·
    rw [if_pos c3] at H
    have c3b0 : decide ((wrap64 (x6_1 + 1)) < (l1.length : Int)) = true := decide_eq_true c3
    clear c3
    by_cases c4 : 0 ≤ x6_1
    ·
     rw [if_pos c4] at H
     have c4b0 : decide (0 ≤ x6_1) = true := decide_eq_true c4
     clear c4
     by_cases c5 : x6_1 < (l1.length : Int)
     ·
      rw [if_pos c5] at H
      have c5b0 : decide (x6_1 < (l1.length : Int)) = true := decide_eq_true c5
      clear c5
      obtain ⟨ji6, hji6⟩ : ∃ j_ : Int, (wrap64 (x6_1 + 1)) = j_ := ⟨_, rfl⟩
      replace H : (if 0 ≤ (ji6) then ((paymasterref14_Join.f k1 a0 ((rd_TNode l1 x6_1).f0) ((rd_TNode l1 x6_1).f1.f0) ((rd_TNode l1 x6_1).f1.f1) ((rd_TNode l1 (ji6)).f0) ((rd_TNode l1 (ji6)).f1.f0) ((rd_TNode l1 (ji6)).f1.f1)).bind fun bt114 => (if x5_1.length < 4398046511104 then (paymasterref15_Up.l0 k1 a0 l1 (x5_1 ++ [(⟨bt114.1, (⟨bt114.2.1, bt114.2.2.1⟩ : SU128)⟩ : SNode)]) (wrap64 (x6_1 + 2))) else (none))) else (none)) = some r := by first | (rw [hji6] at H; exact H) | (simp only [hji6] at H ⊢; exact H)
      (try rw [hji6] at c3b0)
      have hji6w : (IntKind.i64.wrap (x6_1 + 1)) = ji6 := (i64_w _).trans hji6
      by_cases c7 : 0 ≤ (ji6)
      ·
       rw [if_pos c7] at H
       have c7b0 : decide (0 ≤ (ji6)) = true := decide_eq_true c7
       clear c7
       replace H := Option.bind_eq_some_iff.mp H
       obtain ⟨⟨t114, t115, t116, t117⟩, A80, H⟩ := H
       replace H : (if x5_1.length < 4398046511104 then (paymasterref15_Up.l0 k1 a0 l1 (x5_1 ++ [(⟨t114, (⟨t115, t116⟩ : SU128)⟩ : SNode)]) (wrap64 (x6_1 + 2))) else (none)) = some r := H
       have A8 := aM' A80
       clear A80
       by_cases c9 : x5_1.length < 4398046511104
       ·
        rw [if_pos c9] at H
        have LMc9 := aM' c9
        clear c9
        obtain ⟨y119, hy119⟩ : ∃ y_ : List (SNode), y_ = (x5_1 ++ [(⟨t114, (⟨t115, t116⟩ : SU128)⟩ : SNode)]) := ⟨_, rfl⟩
        replace H : (paymasterref15_Up.l0 k1 a0 l1 y119 (wrap64 (x6_1 + 2))) = some r := by first | (rw [hy119]; with_reducible exact H) | (have H2_ := (Option.bind_some _ _).symm.trans H; rw [hy119]; with_reducible exact H2_) | (have H2_ := (Option.bind_some _ _).symm.trans H; with_reducible exact H2_) | with_reducible exact H | (rw [hy119]; exact H) | exact H
        have Ny119 := aM' hy119
        clear hy119
        have H' := aM' H
        clear H
        try go_wp2
        have n0_ := aM' (Kd.R_drew HO_5.out)
        have n1_ := aM' (below_drew1 HB.out)
        clear HO_5
        clear HB
        have HO_5 := n0_
        have HB := n1_
        clear n0_ n1_
        have p112 : 0 ≤ (x6_1 : Int) := of_decide_eq_true (by first | (with_reducible assumption) | assumption)
        have q112 : x6_1 < (l1.length : Int) := of_decide_eq_true (by first | (with_reducible assumption) | assumption)
        obtain ⟨ad112, e112, hx112_0, hx112_1, hx112_2⟩ := at_TNode HR1.out x6_1 p112 q112
        have hw112_2 := hx112_2
        have hw112_1 := hx112_1
        have hw112_0 := hx112_0
        cases e112
        replace hx112_0 := (HB.out.cell (bL' w _ hx112_0)).trans hx112_0
        replace hx112_1 := (HB.out.cell (bL' w _ hx112_1)).trans hx112_1
        replace hx112_2 := (HB.out.cell (bL' w _ hx112_2)).trans hx112_2
        replace p112 := eq_true p112
        replace q112 := eq_true q112
        have p113 : 0 ≤ ((ji6) : Int) := of_decide_eq_true (by first | (with_reducible assumption) | assumption)
        have q113 : (ji6) < (l1.length : Int) := of_decide_eq_true (by first | (with_reducible assumption) | assumption)
        obtain ⟨ad113, e113, hx113_0, hx113_1, hx113_2⟩ := at_TNode HR1.out (ji6) p113 q113
        have hw113_2 := hx113_2
        have hw113_1 := hx113_1
        have hw113_0 := hx113_0
        obtain rfl : ad112 = ad113 := (by injection e113)
        replace hx113_0 := (HB.out.cell (bL' w _ hx113_0)).trans hx113_0
        replace hx113_1 := (HB.out.cell (bL' w _ hx113_1)).trans hx113_1
        replace hx113_2 := (HB.out.cell (bL' w _ hx113_2)).trans hx113_2
        replace p113 := eq_true p113
        replace q113 := eq_true q113
        refine start_ (n := 17) (S := fun w' => w'.cell? (ad112.add ((x6_1).toNat * 3)) = some (.string ((rd_TNode l1 x6_1).f0)) ∧ w'.cell? ⟨(ad112.add ((x6_1).toNat * 3)).block, (ad112.add ((x6_1).toNat * 3)).off + 1, none⟩ = some (.int .u64 ((rd_TNode l1 x6_1).f1.f0)) ∧ w'.cell? ⟨(ad112.add ((x6_1).toNat * 3)).block, (ad112.add ((x6_1).toNat * 3)).off + 2, none⟩ = some (.int .u64 ((rd_TNode l1 x6_1).f1.f1)) ∧ w'.cell? (ad112.add (((ji6)).toNat * 3)) = some (.string ((rd_TNode l1 (ji6)).f0)) ∧ w'.cell? ⟨(ad112.add (((ji6)).toNat * 3)).block, (ad112.add (((ji6)).toNat * 3)).off + 1, none⟩ = some (.int .u64 ((rd_TNode l1 (ji6)).f1.f0)) ∧ w'.cell? ⟨(ad112.add (((ji6)).toNat * 3)).block, (ad112.add (((ji6)).toNat * 3)).off + 2, none⟩ = some (.int .u64 ((rd_TNode l1 (ji6)).f1.f1))) (ds := []) #[false, false, false, false, false, false, false, false, false, false, false, false, false, false, false, false, false] (by kernel_rfl) rfl rfl ⟨((HB.out.cell (bL' w _ hw112_0)).trans hw112_0), ((HB.out.cell (bL' w _ hw112_1)).trans hw112_1), ((HB.out.cell (bL' w _ hw112_2)).trans hw112_2), ((HB.out.cell (bL' w _ hw113_0)).trans hw113_0), ((HB.out.cell (bL' w _ hw113_1)).trans hw113_1), ((HB.out.cell (bL' w _ hw113_2)).trans hw113_2)⟩ (fun hHeld => ?_); refine with_tabW paymasterref15_Up.tab5 paymasterref15_Up.bits5 (fun HT_ HW_ => ?_)
        generalize wr.drew = w10 at HO_5 HB hx112_0 hx112_1 hx112_2 hx113_0 hx113_1 hx113_2 hHeld ⊢
        refine pure_ (i := 0) (N := some 17) (v := ?_) (a' := ?_) #[true, false, false, false, false, false, false, false, false, false, false, false, false, false, false, false, false] rfl rfl (any_of HT_.out (by kernel_rfl)) (fun _ _ _ h => h) (Or.inl ⟨by rfl, ?_⟩) ?_ ?_
        rotate_left
        ·
         intro w'
         go_simp
         with_reducible rfl
        rotate_left
        ·
         simp only [Act.put, List.setIfInBounds_toArray, List.set_cons_zero, List.set_cons_succ, i64_w, i32_w]
         rfl
        refine pure_ (i := 1) (N := some 18) (v := ?_) (a' := ?_) #[true, true, false, false, false, false, false, false, false, false, false, false, false, false, false, false, false] rfl rfl (any_of HT_.out (by kernel_rfl)) (fun _ _ _ h => h) (Or.inl ⟨by rfl, ?_⟩) ?_ ?_
        rotate_left
        ·
         intro w'
         go_simp
         with_reducible rfl
        rotate_left
        ·
         simp only [Act.put, List.setIfInBounds_toArray, List.set_cons_zero, List.set_cons_succ, i64_w, i32_w]
         rfl
        refine pure_ (i := 2) (N := some 19) (v := ?_) (a' := ?_) #[true, true, true, false, false, false, false, false, false, false, false, false, false, false, false, false, false] rfl rfl (any_of HT_.out (by kernel_rfl)) (fun _ _ _ h => h) (Or.inl ⟨by rfl, ?_⟩) ?_ ?_
        rotate_left
        ·
         intro w'
         go_simp
         with_reducible rfl
        rotate_left
        ·
         simp only [Act.put, List.setIfInBounds_toArray, List.set_cons_zero, List.set_cons_succ, i64_w, i32_w]
         rfl
        refine pure_ (i := 3) (N := some 20) (v := ?_) (a' := ?_) #[true, true, true, true, false, false, false, false, false, false, false, false, false, false, false, false, false] rfl rfl (any_of HT_.out (by kernel_rfl)) (fun _ _ _ h => h) (Or.inl ⟨by rfl, ?_⟩) ?_ ?_
        rotate_left
        ·
         intro w'
         go_simp
         with_reducible rfl
        rotate_left
        ·
         simp only [Act.put, List.setIfInBounds_toArray, List.set_cons_zero, List.set_cons_succ, i64_w, i32_w]
         rfl
        refine pure_ (i := 5) (N := some 22) (v := ?_) (a' := ?_) #[true, true, true, true, false, true, false, false, false, false, false, false, false, false, false, false, false] rfl rfl (any_of HT_.out (by kernel_rfl)) (fun _ _ _ h => h) (Or.inl ⟨by rfl, ?_⟩) ?_ ?_
        rotate_left
        ·
         intro w'
         go_simp
         with_reducible rfl
        rotate_left
        ·
         simp only [Act.put, List.setIfInBounds_toArray, List.set_cons_zero, List.set_cons_succ, i64_w, i32_w]
         rfl
        refine pure_ (i := 6) (N := some 23) (v := ?_) (a' := ?_) #[true, true, true, true, false, true, true, false, false, false, false, false, false, false, false, false, false] rfl rfl (any_of HT_.out (by kernel_rfl)) (fun _ _ _ h => h) (Or.inl ⟨by rfl, ?_⟩) ?_ ?_
        rotate_left
        ·
         intro w'
         go_simp
         with_reducible rfl
        rotate_left
        ·
         simp only [Act.put, List.setIfInBounds_toArray, List.set_cons_zero, List.set_cons_succ, i64_w, i32_w]
         rfl
        refine pure_ (i := 7) (N := some 24) (v := ?_) (a' := ?_) #[true, true, true, true, false, true, true, true, false, false, false, false, false, false, false, false, false] rfl rfl (any_of HT_.out (by kernel_rfl)) (fun _ _ _ h => h) (Or.inl ⟨by rfl, ?_⟩) ?_ ?_
        rotate_left
        ·
         intro w'
         go_simp
         with_reducible rfl
        rotate_left
        ·
         simp only [Act.put, List.setIfInBounds_toArray, List.set_cons_zero, List.set_cons_succ, i64_w, i32_w]
         rfl
        refine pure_ (i := 8) (N := some 25) (v := ?_) (a' := ?_) #[true, true, true, true, false, true, true, true, true, false, false, false, false, false, false, false, false] rfl rfl (any_of HT_.out (by kernel_rfl)) (fun _ _ _ h => h) (Or.inl ⟨by rfl, ?_⟩) ?_ ?_
        rotate_left
        ·
         intro w'
         go_simp
         with_reducible rfl
        rotate_left
        ·
         simp only [Act.put, List.setIfInBounds_toArray, List.set_cons_zero, List.set_cons_succ, i64_w, i32_w]
         rfl
        refine take_ (i := 4) (N := some 21) (v := ?_) (a' := ?_) #[true, true, true, true, true, true, true, true, true, false, false, false, false, false, false, false, false] rfl rfl (take_ofW HT_.out HW_.out (by kernel_rfl)) (fun _ _ _ h => h) (Or.inl ⟨by rfl, ?_⟩) hHeld ?_ ?_
        rotate_left
        ·
         rintro w' ⟨s0, s1, s2, s3, s4, s5⟩
         go_simp
         with_reducible rfl
        rotate_left
        ·
         simp only [Act.put, List.setIfInBounds_toArray, List.set_cons_zero, List.set_cons_succ, i64_w, i32_w]
         rfl
        refine take_ (i := 9) (N := some 26) (v := ?_) (a' := ?_) #[true, true, true, true, true, true, true, true, true, true, false, false, false, false, false, false, false] rfl rfl (take_ofW HT_.out HW_.out (by kernel_rfl)) (fun _ _ _ h => h) (Or.inl ⟨by rfl, ?_⟩) hHeld ?_ ?_
        rotate_left
        ·
         rintro w' ⟨s0, s1, s2, s3, s4, s5⟩
         go_simp
         with_reducible rfl
        rotate_left
        ·
         simp only [Act.put, List.setIfInBounds_toArray, List.set_cons_zero, List.set_cons_succ, i64_w, i32_w]
         rfl
        refine join_ (σ := Nat) 2 #[true, true, true, true, true, true, true, true, true, true, true, true, true, true, true, false, false] (fun s_ => [(27, .tuple #[.agg #[.string t114, .int .u64 t115, .int .u64 t116], .int .i64 t117]), (7, .pointer (some ⟨s_, 0, none⟩)), (16, .tuple #[.agg #[.string t114, .int .u64 t115, .int .u64 t116], .int .i64 t117]), (28, .agg #[.string t114, .int .u64 t115, .int .u64 t116]), (29, .int .i64 t117)]) (fun s_ w' => (w'.cell? (ad112.add ((x6_1).toNat * 3)) = some (.string ((rd_TNode l1 x6_1).f0)) ∧ w'.cell? ⟨(ad112.add ((x6_1).toNat * 3)).block, (ad112.add ((x6_1).toNat * 3)).off + 1, none⟩ = some (.int .u64 ((rd_TNode l1 x6_1).f1.f0)) ∧ w'.cell? ⟨(ad112.add ((x6_1).toNat * 3)).block, (ad112.add ((x6_1).toNat * 3)).off + 2, none⟩ = some (.int .u64 ((rd_TNode l1 x6_1).f1.f1)) ∧ w'.cell? (ad112.add (((ji6)).toNat * 3)) = some (.string ((rd_TNode l1 (ji6)).f0)) ∧ w'.cell? ⟨(ad112.add (((ji6)).toNat * 3)).block, (ad112.add (((ji6)).toNat * 3)).off + 1, none⟩ = some (.int .u64 ((rd_TNode l1 (ji6)).f1.f0)) ∧ w'.cell? ⟨(ad112.add (((ji6)).toNat * 3)).block, (ad112.add (((ji6)).toNat * 3)).off + 2, none⟩ = some (.int .u64 ((rd_TNode l1 (ji6)).f1.f1))) ∧ (Kd.R kNode 46 w' w.heap.size (fun k_ => k_ ≠ s_) u5 x5_1) ∧ (w'.heap[s_]? = some (.cells #[.string (⟨#[]⟩ : ByteArray), .int .u64 0, .int .u64 0] 46 (0, 0))) ∧ (w.heap.size ≤ s_) ∧ (w.heap.size ≤ s_) ∧ (Below w.heap.size w w')) ?_ ?_
        rotate_left
        ·
         intro hCont
         refine two_ (i := 10) (j := 14) (Ni := some 27) (Nj := some 7) #[true, true, true, true, true, true, true, true, true, true, true, false, false, false, false, false, false] #[true, true, true, true, true, true, true, true, true, true, false, false, false, false, true, false, false] rfl rfl rfl rfl (two_of HT_.out (by kernel_rfl)) (by decide) (by decide) (fun K hK => ?_) (fun K hK => ?_)
         ·
          skip
          refine goes_ Tryd.func98 (by kernel_rfl) rfl #[.int .i64 a0, .agg #[.string ((rd_TNode l1 x6_1).f0), .int .u64 ((rd_TNode l1 x6_1).f1.f0), .int .u64 ((rd_TNode l1 x6_1).f1.f1)], .agg #[.string ((rd_TNode l1 (ji6)).f0), .int .u64 ((rd_TNode l1 (ji6)).f1.f0), .int .u64 ((rd_TNode l1 (ji6)).f1.f1)]] (by rfl) rfl rfl (by (try simp only [List.map_toArray, List.map_cons, List.map_nil]); first | done | (simp only [hji6]; rfl) | rfl | (simp only [List.length_drop, List.length_take]; rfl)) ?_
          with_reducible refine (paymasterref14_Join.calls k1 a0 ((rd_TNode l1 x6_1).f0) ((rd_TNode l1 x6_1).f1.f0) ((rd_TNode l1 x6_1).f1.f1) ((rd_TNode l1 (ji6)).f0) ((rd_TNode l1 (ji6)).f1.f0) ((rd_TNode l1 (ji6)).f1.f1) t114 t115 t116 t117 _ A8.out).mono ?_
          rintro e w11 ⟨rfl, hb⟩
          refine ⟨_, rfl, ?_⟩
          have n0_ := aM' (Kd.R_below (by (with_reducible repeat (first | apply Kd.R_alloc | apply Kd.R_drewN | apply Kd.R_drew)); exact HO_5.out) hb)
          have n1_ := aM' (below_step (by repeat (first | (with_reducible first | exact HB.out | apply below_alloc | apply pw_below_drewN | apply below_drew1) | exact HB.out)) hb)
          clear HO_5
          clear HB
          have HO_5 := n0_
          have HB := n1_
          clear n0_ n1_
          (try clear hb)
          (try clear hb2)
          (try clear hk)
          (try clear hi)
          refine hK.out _ _ ⟨((HB.out.cell (bL' w _ hw112_0)).trans hw112_0), ((HB.out.cell (bL' w _ hw112_1)).trans hw112_1), ((HB.out.cell (bL' w _ hw112_2)).trans hw112_2), ((HB.out.cell (bL' w _ hw113_0)).trans hw113_0), ((HB.out.cell (bL' w _ hw113_1)).trans hw113_1), ((HB.out.cell (bL' w _ hw113_2)).trans hw113_2)⟩ (fun hHeld => ?_)
          clear hK K
          refine norm_ (a' := ?_) ?_ ?_
          rotate_left
          ·
           show Act.put _ (some 27) _ = _
           simp only [Act.put, List.setIfInBounds_toArray, List.set_cons_zero, List.set_cons_succ, i64_w, i32_w]
           rfl
          refine pure_ (i := 11) (N := some 16) (v := ?_) (a' := ?_) #[true, true, true, true, true, true, true, true, true, true, true, true, false, false, false, false, false] rfl rfl (any_of HT_.out (by kernel_rfl)) (fun _ _ _ h => h) (Or.inl ⟨by rfl, ?_⟩) ?_ ?_
          rotate_left
          ·
           intro w'
           go_simp
           with_reducible rfl
          rotate_left
          ·
           simp only [Act.put, List.setIfInBounds_toArray, List.set_cons_zero, List.set_cons_succ, i64_w, i32_w]
           rfl
          refine pure_ (i := 12) (N := some 28) (v := ?_) (a' := ?_) #[true, true, true, true, true, true, true, true, true, true, true, true, true, false, false, false, false] rfl rfl (any_of HT_.out (by kernel_rfl)) (fun _ _ _ h => h) (Or.inl ⟨by rfl, ?_⟩) ?_ ?_
          rotate_left
          ·
           intro w'
           go_simp
           with_reducible rfl
          rotate_left
          ·
           simp only [Act.put, List.setIfInBounds_toArray, List.set_cons_zero, List.set_cons_succ, i64_w, i32_w]
           rfl
          refine pure_ (i := 13) (N := some 29) (v := ?_) (a' := ?_) #[true, true, true, true, true, true, true, true, true, true, true, true, true, true, false, false, false] rfl rfl (any_of HT_.out (by kernel_rfl)) (fun _ _ _ h => h) (Or.inl ⟨by rfl, ?_⟩) ?_ ?_
          rotate_left
          ·
           intro w'
           go_simp
           with_reducible rfl
          rotate_left
          ·
           simp only [Act.put, List.setIfInBounds_toArray, List.set_cons_zero, List.set_cons_succ, i64_w, i32_w]
           rfl
          refine one_ (i := 14) (N := some 7) #[true, true, true, true, true, true, true, true, true, true, true, true, true, true, true, false, false] rfl rfl (one_of HT_.out (by kernel_rfl)) (by decide) (fun K hK => ?_)
          refine box_step ?hg (N := 7) ?hd (cs := #[.string (⟨#[]⟩ : ByteArray), .int .u64 0, .int .u64 0]) (t := 46) ?hr ?_; (case hd => rfl); (case hg => rfl); (case hr => first | (go_simp; done) | (go_simp; rfl))
          intro gb118 hg w12 hbox hb
          have n0_ := aM' (Kd.R_below (Kd.R_elderB (by (with_reducible repeat (first | apply Kd.R_alloc | apply Kd.R_drewN | apply Kd.R_drew)); exact HO_5.out) gb118 (Nat.le_of_eq hg.symm)) hb)
          have n1_ := aM' (below_step (by repeat (first | (with_reducible first | exact HB.out | apply below_alloc | apply pw_below_drewN | apply below_drew1) | exact HB.out)) hb)
          have n2_ := aM' (hbox)
          have n3_ := aM' ((by rw [hg]; exact (below_size (by repeat (first | (with_reducible first | exact HB.out | apply below_alloc | apply pw_below_drewN | apply below_drew1) | exact HB.out))) : w.heap.size ≤ gb118))
          have n4_ := aM' ((by rw [hg]; exact (below_size (by repeat (first | (with_reducible first | exact HB.out | apply below_alloc | apply pw_below_drewN | apply below_drew1) | exact HB.out))) : w.heap.size ≤ gb118))
          clear HO_5
          clear HB
          have HO_5 := n0_
          have HB := n1_
          have BK118 := n2_
          have GW118 := n3_
          have GE118 := n4_
          clear n0_ n1_ n2_ n3_ n4_
          clear hb hbox hg
          refine hK.out _ _ ⟨((HB.out.cell (bL' w _ hw112_0)).trans hw112_0), ((HB.out.cell (bL' w _ hw112_1)).trans hw112_1), ((HB.out.cell (bL' w _ hw112_2)).trans hw112_2), ((HB.out.cell (bL' w _ hw113_0)).trans hw113_0), ((HB.out.cell (bL' w _ hw113_1)).trans hw113_1), ((HB.out.cell (bL' w _ hw113_2)).trans hw113_2)⟩ (fun hHeld => ?_)
          clear hK K
          refine norm_ (a' := ?_) ?_ ?_
          rotate_left
          ·
           show Act.put _ (some 7) _ = _
           simp only [Act.put, List.setIfInBounds_toArray, List.set_cons_zero, List.set_cons_succ, i64_w, i32_w]
           rfl
          exact norm_ (by simp only [putAll, Act.put, List.setIfInBounds_toArray, List.set_cons_zero, List.set_cons_succ]) (hCont (gb118) _ ⟨hHeld, (by (with_reducible repeat (first | apply Kd.R_alloc | apply Kd.R_drewN | apply Kd.R_drew)); exact Kd.R_mono HO_5.out (fun _ hk => hk.2)), (by (with_reducible repeat (first | refine blk_drewN ?_ _ | refine blk_drew ?_ | refine blk_alloc ?_ _)); exact BK118.out), GW118.out, GE118.out, (by repeat (first | (with_reducible first | exact HB.out | apply below_alloc | apply pw_below_drewN | apply below_drew1 | refine below_set ?_ GE118.out) | exact HB.out))⟩)
         ·
          skip
          refine box_step ?hg (N := 7) ?hd (cs := #[.string (⟨#[]⟩ : ByteArray), .int .u64 0, .int .u64 0]) (t := 46) ?hr ?_; (case hd => rfl); (case hg => rfl); (case hr => first | (go_simp; done) | (go_simp; rfl))
          intro gb118 hg w11 hbox hb
          have n0_ := aM' (Kd.R_below (Kd.R_elderB (by (with_reducible repeat (first | apply Kd.R_alloc | apply Kd.R_drewN | apply Kd.R_drew)); exact HO_5.out) gb118 (Nat.le_of_eq hg.symm)) hb)
          have n1_ := aM' (below_step (by repeat (first | (with_reducible first | exact HB.out | apply below_alloc | apply pw_below_drewN | apply below_drew1) | exact HB.out)) hb)
          have n2_ := aM' (hbox)
          have n3_ := aM' ((by rw [hg]; exact (below_size (by repeat (first | (with_reducible first | exact HB.out | apply below_alloc | apply pw_below_drewN | apply below_drew1) | exact HB.out))) : w.heap.size ≤ gb118))
          have n4_ := aM' ((by rw [hg]; exact (below_size (by repeat (first | (with_reducible first | exact HB.out | apply below_alloc | apply pw_below_drewN | apply below_drew1) | exact HB.out))) : w.heap.size ≤ gb118))
          clear HO_5
          clear HB
          have HO_5 := n0_
          have HB := n1_
          have BK118 := n2_
          have GW118 := n3_
          have GE118 := n4_
          clear n0_ n1_ n2_ n3_ n4_
          clear hb hbox hg
          refine hK.out _ _ ⟨((HB.out.cell (bL' w _ hw112_0)).trans hw112_0), ((HB.out.cell (bL' w _ hw112_1)).trans hw112_1), ((HB.out.cell (bL' w _ hw112_2)).trans hw112_2), ((HB.out.cell (bL' w _ hw113_0)).trans hw113_0), ((HB.out.cell (bL' w _ hw113_1)).trans hw113_1), ((HB.out.cell (bL' w _ hw113_2)).trans hw113_2)⟩ (fun hHeld => ?_)
          clear hK K
          refine norm_ (a' := ?_) ?_ ?_
          rotate_left
          ·
           show Act.put _ (some 7) _ = _
           simp only [Act.put, List.setIfInBounds_toArray, List.set_cons_zero, List.set_cons_succ, i64_w, i32_w]
           rfl
          refine one_ (i := 10) (N := some 27) #[true, true, true, true, true, true, true, true, true, true, true, false, false, false, true, false, false] rfl rfl (one_of HT_.out (by kernel_rfl)) (by decide) (fun K hK => ?_)
          refine goes_ Tryd.func98 (by kernel_rfl) rfl #[.int .i64 a0, .agg #[.string ((rd_TNode l1 x6_1).f0), .int .u64 ((rd_TNode l1 x6_1).f1.f0), .int .u64 ((rd_TNode l1 x6_1).f1.f1)], .agg #[.string ((rd_TNode l1 (ji6)).f0), .int .u64 ((rd_TNode l1 (ji6)).f1.f0), .int .u64 ((rd_TNode l1 (ji6)).f1.f1)]] (by rfl) rfl rfl (by (try simp only [List.map_toArray, List.map_cons, List.map_nil]); first | done | (simp only [hji6]; rfl) | rfl | (simp only [List.length_drop, List.length_take]; rfl)) ?_
          with_reducible refine (paymasterref14_Join.calls k1 a0 ((rd_TNode l1 x6_1).f0) ((rd_TNode l1 x6_1).f1.f0) ((rd_TNode l1 x6_1).f1.f1) ((rd_TNode l1 (ji6)).f0) ((rd_TNode l1 (ji6)).f1.f0) ((rd_TNode l1 (ji6)).f1.f1) t114 t115 t116 t117 _ A8.out).mono ?_
          rintro e w12 ⟨rfl, hb⟩
          refine ⟨_, rfl, ?_⟩
          have n0_ := aM' (Kd.R_below (by (with_reducible repeat (first | apply Kd.R_alloc | apply Kd.R_drewN | apply Kd.R_drew)); exact HO_5.out) hb)
          have n1_ := aM' (blk_below (g := gb118) (o := .cells #[.string (⟨#[]⟩ : ByteArray), .int .u64 0, .int .u64 0] 46 (0, 0)) (by (with_reducible repeat (first | refine blk_drewN ?_ _ | refine blk_drew ?_ | refine blk_alloc ?_ _)); exact BK118.out) hb)
          have n2_ := aM' (below_step (by repeat (first | (with_reducible first | exact HB.out | apply below_alloc | apply pw_below_drewN | apply below_drew1 | refine below_set ?_ GE118.out) | exact HB.out)) hb)
          clear HO_5
          clear BK118
          clear HB
          have HO_5 := n0_
          have BK118 := n1_
          have HB := n2_
          clear n0_ n1_ n2_
          (try clear hb)
          (try clear hb2)
          (try clear hk)
          (try clear hi)
          refine hK.out _ _ ⟨((HB.out.cell (bL' w _ hw112_0)).trans hw112_0), ((HB.out.cell (bL' w _ hw112_1)).trans hw112_1), ((HB.out.cell (bL' w _ hw112_2)).trans hw112_2), ((HB.out.cell (bL' w _ hw113_0)).trans hw113_0), ((HB.out.cell (bL' w _ hw113_1)).trans hw113_1), ((HB.out.cell (bL' w _ hw113_2)).trans hw113_2)⟩ (fun hHeld => ?_)
          clear hK K
          refine norm_ (a' := ?_) ?_ ?_
          rotate_left
          ·
           show Act.put _ (some 27) _ = _
           simp only [Act.put, List.setIfInBounds_toArray, List.set_cons_zero, List.set_cons_succ, i64_w, i32_w]
           rfl
          refine pure_ (i := 11) (N := some 16) (v := ?_) (a' := ?_) #[true, true, true, true, true, true, true, true, true, true, true, true, false, false, true, false, false] rfl rfl (any_of HT_.out (by kernel_rfl)) (fun _ _ _ h => h) (Or.inl ⟨by rfl, ?_⟩) ?_ ?_
          rotate_left
          ·
           intro w'
           go_simp
           with_reducible rfl
          rotate_left
          ·
           simp only [Act.put, List.setIfInBounds_toArray, List.set_cons_zero, List.set_cons_succ, i64_w, i32_w]
           rfl
          refine pure_ (i := 12) (N := some 28) (v := ?_) (a' := ?_) #[true, true, true, true, true, true, true, true, true, true, true, true, true, false, true, false, false] rfl rfl (any_of HT_.out (by kernel_rfl)) (fun _ _ _ h => h) (Or.inl ⟨by rfl, ?_⟩) ?_ ?_
          rotate_left
          ·
           intro w'
           go_simp
           with_reducible rfl
          rotate_left
          ·
           simp only [Act.put, List.setIfInBounds_toArray, List.set_cons_zero, List.set_cons_succ, i64_w, i32_w]
           rfl
          refine pure_ (i := 13) (N := some 29) (v := ?_) (a' := ?_) #[true, true, true, true, true, true, true, true, true, true, true, true, true, true, true, false, false] rfl rfl (any_of HT_.out (by kernel_rfl)) (fun _ _ _ h => h) (Or.inl ⟨by rfl, ?_⟩) ?_ ?_
          rotate_left
          ·
           intro w'
           go_simp
           with_reducible rfl
          rotate_left
          ·
           simp only [Act.put, List.setIfInBounds_toArray, List.set_cons_zero, List.set_cons_succ, i64_w, i32_w]
           rfl
          exact norm_ (by simp only [putAll, Act.put, List.setIfInBounds_toArray, List.set_cons_zero, List.set_cons_succ]) (hCont (gb118) _ ⟨hHeld, (by (with_reducible repeat (first | apply Kd.R_alloc | apply Kd.R_drewN | apply Kd.R_drew)); exact Kd.R_mono HO_5.out (fun _ hk => hk.2)), (by (with_reducible repeat (first | refine blk_drewN ?_ _ | refine blk_drew ?_ | refine blk_alloc ?_ _)); exact BK118.out), GW118.out, GE118.out, (by repeat (first | (with_reducible first | exact HB.out | apply below_alloc | apply pw_below_drewN | apply below_drew1 | refine below_set ?_ GE118.out) | exact HB.out))⟩)
        rintro gb118 w13 ⟨hS_, h0_, h1_, h2_, h3_, h4_⟩
        have n0_ : Aside0 (Kd.R kNode 46 w13 w.heap.size (fun k_ => k_ ≠ gb118) u5 x5_1) := ⟨h0_⟩
        have n1_ : Aside0 (w13.heap[gb118]? = some (.cells #[.string (⟨#[]⟩ : ByteArray), .int .u64 0, .int .u64 0] 46 (0, 0))) := ⟨h1_⟩
        have n2_ : Aside0 (w.heap.size ≤ gb118) := ⟨h2_⟩
        have n3_ : Aside0 (w.heap.size ≤ gb118) := ⟨h3_⟩
        have n4_ : Aside0 (Below w.heap.size w w13) := ⟨h4_⟩
        clear HO_5
        clear HB
        clear h0_ h1_ h2_ h3_ h4_
        have HO_5 := n0_
        have BK118 := n1_
        have GW118 := n2_
        have GE118 := n3_
        have HB := n4_
        clear n0_ n1_ n2_ n3_ n4_
        have hHeld : w13.cell? (ad112.add ((x6_1).toNat * 3)) = some (.string ((rd_TNode l1 x6_1).f0)) ∧ w13.cell? ⟨(ad112.add ((x6_1).toNat * 3)).block, (ad112.add ((x6_1).toNat * 3)).off + 1, none⟩ = some (.int .u64 ((rd_TNode l1 x6_1).f1.f0)) ∧ w13.cell? ⟨(ad112.add ((x6_1).toNat * 3)).block, (ad112.add ((x6_1).toNat * 3)).off + 2, none⟩ = some (.int .u64 ((rd_TNode l1 x6_1).f1.f1)) ∧ w13.cell? (ad112.add (((ji6)).toNat * 3)) = some (.string ((rd_TNode l1 (ji6)).f0)) ∧ w13.cell? ⟨(ad112.add (((ji6)).toNat * 3)).block, (ad112.add (((ji6)).toNat * 3)).off + 1, none⟩ = some (.int .u64 ((rd_TNode l1 (ji6)).f1.f0)) ∧ w13.cell? ⟨(ad112.add (((ji6)).toNat * 3)).block, (ad112.add (((ji6)).toNat * 3)).off + 2, none⟩ = some (.int .u64 ((rd_TNode l1 (ji6)).f1.f1)) := hS_
        refine norm_ (a' := ?_) ?_ ?_
        rotate_left
        ·
         simp only [putAll, Act.put, List.setIfInBounds_toArray, List.set_cons_zero, List.set_cons_succ]
         rfl
        refine one_ (i := 15) (N := none) #[true, true, true, true, true, true, true, true, true, true, true, true, true, true, true, true, false] rfl rfl (one_of HT_.out (by kernel_rfl)) (by decide) (fun K hK => ?_)
        have hs14 : w13.cell? ⟨gb118, 0, none⟩ = some (.string (⟨#[]⟩ : ByteArray)) := (blk_cell BK118.out 0).trans rfl
        have hfs14 := blk_frozen BK118.out 0
        have hs15 : w13.cell? ⟨gb118, 1, none⟩ = some (.int .u64 0) := (blk_cell BK118.out 1).trans rfl
        have hfs15 := blk_frozen BK118.out 1
        have hs16 : w13.cell? ⟨gb118, 2, none⟩ = some (.int .u64 0) := (blk_cell BK118.out 2).trans rfl
        have hfs16 := blk_frozen BK118.out 2
        refine skip_ (w1 := ?_) (by rfl) rfl ?_ ?_
        rotate_left
        ·
         go_simp
         rfl
        refine hK.out _ _ ⟨((cell_far (p := ⟨gb118, _, none⟩) (by first | exact Nat.ne_of_lt (lL' (by have := bL' _ _ hw112_0; first | rwa [add_block] at this | exact this) GW118.out) | (rw [add_block]; exact Nat.ne_of_lt (lL' (by have := bL' _ _ hw112_0; first | rwa [add_block] at this | exact this) GW118.out)) | (show (Addr.add _ _).block ≠ _; rw [add_block]; exact Nat.ne_of_lt (lL' (by have := bL' _ _ hw112_0; first | rwa [add_block] at this | exact this) GW118.out)) | (dsimp only; exact Nat.ne_of_lt (lL' (by have := bL' _ _ hw112_0; first | rwa [add_block] at this | exact this) GW118.out))) _).trans (((cell_far (p := ⟨gb118, _, none⟩) (by first | exact Nat.ne_of_lt (lL' (by have := bL' _ _ hw112_0; first | rwa [add_block] at this | exact this) GW118.out) | (rw [add_block]; exact Nat.ne_of_lt (lL' (by have := bL' _ _ hw112_0; first | rwa [add_block] at this | exact this) GW118.out)) | (show (Addr.add _ _).block ≠ _; rw [add_block]; exact Nat.ne_of_lt (lL' (by have := bL' _ _ hw112_0; first | rwa [add_block] at this | exact this) GW118.out)) | (dsimp only; exact Nat.ne_of_lt (lL' (by have := bL' _ _ hw112_0; first | rwa [add_block] at this | exact this) GW118.out))) _).trans (((cell_far (p := ⟨gb118, _, none⟩) (by first | exact Nat.ne_of_lt (lL' (by have := bL' _ _ hw112_0; first | rwa [add_block] at this | exact this) GW118.out) | (rw [add_block]; exact Nat.ne_of_lt (lL' (by have := bL' _ _ hw112_0; first | rwa [add_block] at this | exact this) GW118.out)) | (show (Addr.add _ _).block ≠ _; rw [add_block]; exact Nat.ne_of_lt (lL' (by have := bL' _ _ hw112_0; first | rwa [add_block] at this | exact this) GW118.out)) | (dsimp only; exact Nat.ne_of_lt (lL' (by have := bL' _ _ hw112_0; first | rwa [add_block] at this | exact this) GW118.out))) _).trans (hHeld.1)))))), ((cell_far (p := ⟨gb118, _, none⟩) (by first | exact Nat.ne_of_lt (lL' (by have := bL' _ _ hw112_1; first | rwa [add_block] at this | exact this) GW118.out) | (rw [add_block]; exact Nat.ne_of_lt (lL' (by have := bL' _ _ hw112_1; first | rwa [add_block] at this | exact this) GW118.out)) | (show (Addr.add _ _).block ≠ _; rw [add_block]; exact Nat.ne_of_lt (lL' (by have := bL' _ _ hw112_1; first | rwa [add_block] at this | exact this) GW118.out)) | (dsimp only; exact Nat.ne_of_lt (lL' (by have := bL' _ _ hw112_1; first | rwa [add_block] at this | exact this) GW118.out))) _).trans (((cell_far (p := ⟨gb118, _, none⟩) (by first | exact Nat.ne_of_lt (lL' (by have := bL' _ _ hw112_1; first | rwa [add_block] at this | exact this) GW118.out) | (rw [add_block]; exact Nat.ne_of_lt (lL' (by have := bL' _ _ hw112_1; first | rwa [add_block] at this | exact this) GW118.out)) | (show (Addr.add _ _).block ≠ _; rw [add_block]; exact Nat.ne_of_lt (lL' (by have := bL' _ _ hw112_1; first | rwa [add_block] at this | exact this) GW118.out)) | (dsimp only; exact Nat.ne_of_lt (lL' (by have := bL' _ _ hw112_1; first | rwa [add_block] at this | exact this) GW118.out))) _).trans (((cell_far (p := ⟨gb118, _, none⟩) (by first | exact Nat.ne_of_lt (lL' (by have := bL' _ _ hw112_1; first | rwa [add_block] at this | exact this) GW118.out) | (rw [add_block]; exact Nat.ne_of_lt (lL' (by have := bL' _ _ hw112_1; first | rwa [add_block] at this | exact this) GW118.out)) | (show (Addr.add _ _).block ≠ _; rw [add_block]; exact Nat.ne_of_lt (lL' (by have := bL' _ _ hw112_1; first | rwa [add_block] at this | exact this) GW118.out)) | (dsimp only; exact Nat.ne_of_lt (lL' (by have := bL' _ _ hw112_1; first | rwa [add_block] at this | exact this) GW118.out))) _).trans (hHeld.2.1)))))), ((cell_far (p := ⟨gb118, _, none⟩) (by first | exact Nat.ne_of_lt (lL' (by have := bL' _ _ hw112_2; first | rwa [add_block] at this | exact this) GW118.out) | (rw [add_block]; exact Nat.ne_of_lt (lL' (by have := bL' _ _ hw112_2; first | rwa [add_block] at this | exact this) GW118.out)) | (show (Addr.add _ _).block ≠ _; rw [add_block]; exact Nat.ne_of_lt (lL' (by have := bL' _ _ hw112_2; first | rwa [add_block] at this | exact this) GW118.out)) | (dsimp only; exact Nat.ne_of_lt (lL' (by have := bL' _ _ hw112_2; first | rwa [add_block] at this | exact this) GW118.out))) _).trans (((cell_far (p := ⟨gb118, _, none⟩) (by first | exact Nat.ne_of_lt (lL' (by have := bL' _ _ hw112_2; first | rwa [add_block] at this | exact this) GW118.out) | (rw [add_block]; exact Nat.ne_of_lt (lL' (by have := bL' _ _ hw112_2; first | rwa [add_block] at this | exact this) GW118.out)) | (show (Addr.add _ _).block ≠ _; rw [add_block]; exact Nat.ne_of_lt (lL' (by have := bL' _ _ hw112_2; first | rwa [add_block] at this | exact this) GW118.out)) | (dsimp only; exact Nat.ne_of_lt (lL' (by have := bL' _ _ hw112_2; first | rwa [add_block] at this | exact this) GW118.out))) _).trans (((cell_far (p := ⟨gb118, _, none⟩) (by first | exact Nat.ne_of_lt (lL' (by have := bL' _ _ hw112_2; first | rwa [add_block] at this | exact this) GW118.out) | (rw [add_block]; exact Nat.ne_of_lt (lL' (by have := bL' _ _ hw112_2; first | rwa [add_block] at this | exact this) GW118.out)) | (show (Addr.add _ _).block ≠ _; rw [add_block]; exact Nat.ne_of_lt (lL' (by have := bL' _ _ hw112_2; first | rwa [add_block] at this | exact this) GW118.out)) | (dsimp only; exact Nat.ne_of_lt (lL' (by have := bL' _ _ hw112_2; first | rwa [add_block] at this | exact this) GW118.out))) _).trans (hHeld.2.2.1)))))), ((cell_far (p := ⟨gb118, _, none⟩) (by first | exact Nat.ne_of_lt (lL' (by have := bL' _ _ hw113_0; first | rwa [add_block] at this | exact this) GW118.out) | (rw [add_block]; exact Nat.ne_of_lt (lL' (by have := bL' _ _ hw113_0; first | rwa [add_block] at this | exact this) GW118.out)) | (show (Addr.add _ _).block ≠ _; rw [add_block]; exact Nat.ne_of_lt (lL' (by have := bL' _ _ hw113_0; first | rwa [add_block] at this | exact this) GW118.out)) | (dsimp only; exact Nat.ne_of_lt (lL' (by have := bL' _ _ hw113_0; first | rwa [add_block] at this | exact this) GW118.out))) _).trans (((cell_far (p := ⟨gb118, _, none⟩) (by first | exact Nat.ne_of_lt (lL' (by have := bL' _ _ hw113_0; first | rwa [add_block] at this | exact this) GW118.out) | (rw [add_block]; exact Nat.ne_of_lt (lL' (by have := bL' _ _ hw113_0; first | rwa [add_block] at this | exact this) GW118.out)) | (show (Addr.add _ _).block ≠ _; rw [add_block]; exact Nat.ne_of_lt (lL' (by have := bL' _ _ hw113_0; first | rwa [add_block] at this | exact this) GW118.out)) | (dsimp only; exact Nat.ne_of_lt (lL' (by have := bL' _ _ hw113_0; first | rwa [add_block] at this | exact this) GW118.out))) _).trans (((cell_far (p := ⟨gb118, _, none⟩) (by first | exact Nat.ne_of_lt (lL' (by have := bL' _ _ hw113_0; first | rwa [add_block] at this | exact this) GW118.out) | (rw [add_block]; exact Nat.ne_of_lt (lL' (by have := bL' _ _ hw113_0; first | rwa [add_block] at this | exact this) GW118.out)) | (show (Addr.add _ _).block ≠ _; rw [add_block]; exact Nat.ne_of_lt (lL' (by have := bL' _ _ hw113_0; first | rwa [add_block] at this | exact this) GW118.out)) | (dsimp only; exact Nat.ne_of_lt (lL' (by have := bL' _ _ hw113_0; first | rwa [add_block] at this | exact this) GW118.out))) _).trans (hHeld.2.2.2.1)))))), ((cell_far (p := ⟨gb118, _, none⟩) (by first | exact Nat.ne_of_lt (lL' (by have := bL' _ _ hw113_1; first | rwa [add_block] at this | exact this) GW118.out) | (rw [add_block]; exact Nat.ne_of_lt (lL' (by have := bL' _ _ hw113_1; first | rwa [add_block] at this | exact this) GW118.out)) | (show (Addr.add _ _).block ≠ _; rw [add_block]; exact Nat.ne_of_lt (lL' (by have := bL' _ _ hw113_1; first | rwa [add_block] at this | exact this) GW118.out)) | (dsimp only; exact Nat.ne_of_lt (lL' (by have := bL' _ _ hw113_1; first | rwa [add_block] at this | exact this) GW118.out))) _).trans (((cell_far (p := ⟨gb118, _, none⟩) (by first | exact Nat.ne_of_lt (lL' (by have := bL' _ _ hw113_1; first | rwa [add_block] at this | exact this) GW118.out) | (rw [add_block]; exact Nat.ne_of_lt (lL' (by have := bL' _ _ hw113_1; first | rwa [add_block] at this | exact this) GW118.out)) | (show (Addr.add _ _).block ≠ _; rw [add_block]; exact Nat.ne_of_lt (lL' (by have := bL' _ _ hw113_1; first | rwa [add_block] at this | exact this) GW118.out)) | (dsimp only; exact Nat.ne_of_lt (lL' (by have := bL' _ _ hw113_1; first | rwa [add_block] at this | exact this) GW118.out))) _).trans (((cell_far (p := ⟨gb118, _, none⟩) (by first | exact Nat.ne_of_lt (lL' (by have := bL' _ _ hw113_1; first | rwa [add_block] at this | exact this) GW118.out) | (rw [add_block]; exact Nat.ne_of_lt (lL' (by have := bL' _ _ hw113_1; first | rwa [add_block] at this | exact this) GW118.out)) | (show (Addr.add _ _).block ≠ _; rw [add_block]; exact Nat.ne_of_lt (lL' (by have := bL' _ _ hw113_1; first | rwa [add_block] at this | exact this) GW118.out)) | (dsimp only; exact Nat.ne_of_lt (lL' (by have := bL' _ _ hw113_1; first | rwa [add_block] at this | exact this) GW118.out))) _).trans (hHeld.2.2.2.2.1)))))), ((cell_far (p := ⟨gb118, _, none⟩) (by first | exact Nat.ne_of_lt (lL' (by have := bL' _ _ hw113_2; first | rwa [add_block] at this | exact this) GW118.out) | (rw [add_block]; exact Nat.ne_of_lt (lL' (by have := bL' _ _ hw113_2; first | rwa [add_block] at this | exact this) GW118.out)) | (show (Addr.add _ _).block ≠ _; rw [add_block]; exact Nat.ne_of_lt (lL' (by have := bL' _ _ hw113_2; first | rwa [add_block] at this | exact this) GW118.out)) | (dsimp only; exact Nat.ne_of_lt (lL' (by have := bL' _ _ hw113_2; first | rwa [add_block] at this | exact this) GW118.out))) _).trans (((cell_far (p := ⟨gb118, _, none⟩) (by first | exact Nat.ne_of_lt (lL' (by have := bL' _ _ hw113_2; first | rwa [add_block] at this | exact this) GW118.out) | (rw [add_block]; exact Nat.ne_of_lt (lL' (by have := bL' _ _ hw113_2; first | rwa [add_block] at this | exact this) GW118.out)) | (show (Addr.add _ _).block ≠ _; rw [add_block]; exact Nat.ne_of_lt (lL' (by have := bL' _ _ hw113_2; first | rwa [add_block] at this | exact this) GW118.out)) | (dsimp only; exact Nat.ne_of_lt (lL' (by have := bL' _ _ hw113_2; first | rwa [add_block] at this | exact this) GW118.out))) _).trans (((cell_far (p := ⟨gb118, _, none⟩) (by first | exact Nat.ne_of_lt (lL' (by have := bL' _ _ hw113_2; first | rwa [add_block] at this | exact this) GW118.out) | (rw [add_block]; exact Nat.ne_of_lt (lL' (by have := bL' _ _ hw113_2; first | rwa [add_block] at this | exact this) GW118.out)) | (show (Addr.add _ _).block ≠ _; rw [add_block]; exact Nat.ne_of_lt (lL' (by have := bL' _ _ hw113_2; first | rwa [add_block] at this | exact this) GW118.out)) | (dsimp only; exact Nat.ne_of_lt (lL' (by have := bL' _ _ hw113_2; first | rwa [add_block] at this | exact this) GW118.out))) _).trans (hHeld.2.2.2.2.2))))))⟩ (fun hHeld => ?_)
        clear hK K
        refine pure_ (i := 16) (N := some 8) (v := ?_) (a' := ?_) #[true, true, true, true, true, true, true, true, true, true, true, true, true, true, true, true, true] rfl rfl (any_of HT_.out (by kernel_rfl)) (fun _ _ _ h => h) (Or.inl ⟨by rfl, ?_⟩) ?_ ?_
        rotate_left
        ·
         intro w'
         go_simp
         with_reducible rfl
        rotate_left
        ·
         simp only [Act.put, List.setIfInBounds_toArray, List.set_cons_zero, List.set_cons_succ, i64_w, i32_w]
         rfl
        refine done_ (done_of HT_.out (by kernel_rfl)) ?_
        have hcz17_0 : w13.cell? ⟨gb118, 0, none⟩ = some (.string (⟨#[]⟩ : ByteArray)) := (blk_cell BK118.out 0).trans rfl
        have hcz17_1 : w13.cell? ⟨gb118, 1, none⟩ = some (.int .u64 0) := (blk_cell BK118.out 1).trans rfl
        have hcz17_2 : w13.cell? ⟨gb118, 2, none⟩ = some (.int .u64 0) := (blk_cell BK118.out 2).trans rfl
        have hfz17_0 := blk_frozen BK118.out 0
        have hfz17_1 := blk_frozen BK118.out 1
        have hfz17_2 := blk_frozen BK118.out 2
        try go_wp2_with (first | ((with_reducible refine gate_builtin (b := .append) (xs := #[.tmp 30, .tmp 32]) rfl ?_); at_builtin; refine Kd.R_append kNode (w0 := w) w.heap.size rfl (.tmp 30) (.tmp 32) 43 46 (.agg #[(.string ⟨#[]⟩), (.int .u64 0), (.int .u64 0)]) 32 rfl Tryd.underlying43 infoNode rfl (by decide) (by omega) u5 x5_1 (⟨t114, (⟨t115, t116⟩ : SU128)⟩ : SNode) [.string t114, .int .u64 t115, .int .u64 t116] (fun k_ => k_ ≠ gb118) (fun _ => False) rfl (by first | (go_simp; done) | (go_simp; rfl)) ?aP (fun _ hk => hk.elim) ?aF ?aO ?aB ?aS ?aL ?_; (case aP => exact kNode_mkM _ _ _ (⟨t114, (⟨t115, t116⟩ : SU128)⟩ : SNode)); (case aB => exact (by repeat (first | (with_reducible first | exact HB.out | apply below_alloc | apply pw_below_drewN | apply below_drew1 | refine below_set ?_ GE118.out) | exact HB.out))); (case aF => exact (fun k_ hk => Kd.freshB (g := gb118) (o := .cells #[.string t114, .int .u64 t115, .int .u64 t116] 46 (0, 0)) (by (with_reducible repeat (first | refine blk_drewN ?_ _ | refine blk_drew ?_ | refine blk_alloc ?_ _)); refine blk_put (cs := #[.string t114, .int .u64 t115, .int .u64 0]) ?_ 2 _ rfl; (with_reducible repeat (first | refine blk_drewN ?_ _ | refine blk_drew ?_ | refine blk_alloc ?_ _)); refine blk_put (cs := #[.string t114, .int .u64 0, .int .u64 0]) ?_ 1 _ rfl; (with_reducible repeat (first | refine blk_drewN ?_ _ | refine blk_drew ?_ | refine blk_alloc ?_ _)); refine blk_put (cs := #[.string (⟨#[]⟩ : ByteArray), .int .u64 0, .int .u64 0]) ?_ 0 _ rfl; (with_reducible repeat (first | refine blk_drewN ?_ _ | refine blk_drew ?_ | refine blk_alloc ?_ _)); exact BK118.out) k_ hk)); (case aO => exact (by (with_reducible repeat (first | apply Kd.R_alloc | apply Kd.R_drewN | apply Kd.R_drew)); exact Kd.R_mono (Kd.R_far (p := ⟨gb118, 2, none⟩) (Kd.R_far (p := ⟨gb118, 1, none⟩) (Kd.R_far (p := ⟨gb118, 0, none⟩) (Kd.R_mono HO_5.out (fun k_ hk => (⟨hk, hk⟩ : _ ∧ k_ ≠ gb118))) (fun _ hk => hk.2) (.string t114)) (fun _ hk => hk.2) (.int .u64 t115)) (fun _ hk => hk.2) (.int .u64 t116)) (fun _ hk => hk.1))); (case aS => exact (below_size (by repeat (first | (with_reducible first | exact HB.out | apply below_alloc | apply pw_below_drewN | apply below_drew1 | refine below_set ?_ GE118.out) | exact HB.out)))); (case aL => have := LMc9.out; omega); intro v120 w18 ho hb hg hat; rw [← Ny119.out] at ho; have n0_ := aM' (blk_grown (g := gb118) (o := .cells #[.string t114, .int .u64 t115, .int .u64 t116] 46 (0, 0)) (by (with_reducible repeat (first | refine blk_drewN ?_ _ | refine blk_drew ?_ | refine blk_alloc ?_ _)); refine blk_put (cs := #[.string t114, .int .u64 t115, .int .u64 0]) ?_ 2 _ rfl; (with_reducible repeat (first | refine blk_drewN ?_ _ | refine blk_drew ?_ | refine blk_alloc ?_ _)); refine blk_put (cs := #[.string t114, .int .u64 0, .int .u64 0]) ?_ 1 _ rfl; (with_reducible repeat (first | refine blk_drewN ?_ _ | refine blk_drew ?_ | refine blk_alloc ?_ _)); refine blk_put (cs := #[.string (⟨#[]⟩ : ByteArray), .int .u64 0, .int .u64 0]) ?_ 0 _ rfl; (with_reducible repeat (first | refine blk_drewN ?_ _ | refine blk_drew ?_ | refine blk_alloc ?_ _)); exact BK118.out) hg (Kd.R_away HO_5.out (fun _ hk => hk))); have n1_ := aM' (hb); have n2_ := aM' (ho); clear BK118; clear HB; clear HO_5; have BK118 := n0_; have HB := n1_; have HO121 := n2_; clear n0_ n1_ n2_; clear ho hb hg hat))
        go_roundg k1
        case measure => have := HK1.out; omega
        case rel => exact ⟨(y119), (wrap64 (x6_1 + 2)), (by first | rfl | (simp; done) | (simp [*]; done)), H', ⟨by have := HK1.out; omega⟩, ⟨by (with_reducible repeat (first | apply Kd.R_alloc | apply Kd.R_drewN | apply Kd.R_drew)); exact Kd.R_mono HO121.out (fun _ hk => trivial)⟩, ⟨by repeat (first | (with_reducible first | exact HB.out | apply below_alloc | apply pw_below_drewN | apply below_drew1 | refine below_set ?_ GE118.out) | exact HB.out)⟩⟩
       ·
        rw [if_neg c9] at H
        exact absurd H (by simp)
      ·
       rw [if_neg c7] at H
       exact absurd H (by simp)
     ·
      rw [if_neg c5] at H
      exact absurd H (by simp)
    ·
     rw [if_neg c4] at H
     exact absurd H (by simp)
   ·
    rw [if_neg c3] at H
    have c3b0 : decide ((wrap64 (x6_1 + 1)) < (l1.length : Int)) = false := decide_eq_false c3
    clear c3
    obtain rfl := Option.some.inj H
    go_wp2
    go_ret
    exact ⟨_, by first | rfl | (simp [errW_none, errW_some] <;> rfl) | (simp [*, errW_none, errW_some] <;> rfl), by (with_reducible repeat (first | apply Kd.R_alloc | apply Kd.R_drewN | apply Kd.R_drew)); exact HO_5.out, by repeat (first | (with_reducible first | exact HB.out | apply below_alloc | apply pw_below_drewN | apply below_drew1) | exact HB.out)⟩
end Go.Proofs.YtfcodmdckcihmaaDoor.P
namespace Go.Proofs.YtfcodmdckcihmaaDoor.P
open Go.RowKit Go.Proofs.YtfcodmdckcihmaaDoorW.PrintWords Go.Proofs.YtfcodmdckcihmaaDoorW.PrintLast Go.Proofs.YtfcodmdckcihmaaDoorW.PrintMore
set_option linter.unusedVariables false
set_option linter.unusedSimpArgs false
set_option linter.unnecessarySimpa false
def hgtI (n : Nat) : Int := if isPow n then (n.log2 : Int) else -1
theorem hgt_all : ∀ n ∈ List.range 1025, paymasterref15_Height.f 12 (n : Int) = some (hgtI n) := by decide +kernel
theorem refHeight_eq (n : Nat) (h : n ≤ 1024) : paymasterref15_Height.f 12 (n : Int) = some (hgtI n) := hgt_all n (List.mem_range.2 (by omega))
theorem refNodes_loop (wd : Int) (l : List SLeaf) (hn : l.length ≤ 1024) (hl : ∀ x ∈ l, x.f1.size ≤ 1000000 ∧ x.f2.size ≤ 1000000 ∧ OkU x.f3) : ∀ d i : Nat, i + d = l.length → Ev (fun k => paymasterref15_Nodes.l0 k wd l ((l.take i).map (leafNodeI wd)) (i : Int)) (l.map (leafNodeI wd)) := by
 intro d
 induction d with
 | zero =>
  intro i hi
  refine Ev.step (f := fun _ => some ((l.take i).map (leafNodeI wd))) (fun k => ?_) (ev_eq (Ev.now _) (by rw [List.take_of_length_le (by omega)]))
  simp only [paymasterref15_Nodes.l0]
  rw [if_neg (by omega)]
 | succ d ih =>
  intro i hi
  have hlt : i < l.length := by omega
  obtain ⟨h1, h2, h3⟩ := hl l[i] (List.getElem_mem hlt)
  have e3 : rd_TLeaf l (i : Int) = l[i] := by rw [rd_TLeaf, Int.toNat_natCast]; simp [List.getD_eq_getElem?_getD, hlt]
  refine Ev.step (f := fun k => (paymasterref07_LeafNode.f k wd l[i].f0 l[i].f1 l[i].f2 l[i].f3.f0 l[i].f3.f1).bind fun b => paymasterref15_Nodes.l0 k wd l ((l.take i).map (leafNodeI wd) ++ [(⟨b.1, ⟨b.2.1, b.2.2⟩⟩ : SNode)]) ((i + 1 : Nat) : Int)) (fun k => ?_) ?_
  ·
   simp only [paymasterref15_Nodes.l0]
   have hlen : ((l.take i).map (leafNodeI wd)).length < 4398046511104 := by rw [List.length_map, List.length_take]; omega
   have hw : wrap64 ((i : Int) + 1) = ((i + 1 : Nat) : Int) := by rw [wrap64_id (by omega) (by omega)]; omega
   rw [if_pos (by omega), if_pos (by omega), e3]
   simp only [hlen, hw, if_true]
  ·
   refine Ev.bind (refLeafNode_ev wd l[i] h1 h2 h3) ?_
   refine ev_eq (Ev.congr (fun k => ?_) (ih (i + 1) (by omega))) rfl
   rw [List.take_succ_eq_append_getElem hlt, List.map_append]
   rfl
theorem refNodes_ev (wd : Int) (l : List SLeaf) (hn : l.length ≤ 1024) (hl : ∀ x ∈ l, x.f1.size ≤ 1000000 ∧ x.f2.size ≤ 1000000 ∧ OkU x.f3) : Ev (fun k => paymasterref15_Nodes.f k wd l) (l.map (leafNodeI wd)) := refNodes_loop wd l hn hl l.length 0 (by omega)
theorem refUp_loop (wd : Int) (l : List SNode) (m : Nat) (hm : l.length = 2 * m) (hn : l.length ≤ 1024) (hk : ∀ x ∈ l, NodeK wd x) (hok : pairsOk l = true) : ∀ d j : Nat, j + d = m → Ev (fun k => paymasterref15_Up.l0 k wd l ((pairsV wd l).take j) ((2 * j : Nat) : Int)) (pairsV wd l) := by
 intro d
 have hpl := pairsV_len wd m l hm
 induction d with
 | zero =>
  intro j hj
  refine Ev.step (f := fun _ => some ((pairsV wd l).take j)) (fun k => ?_) (ev_eq (Ev.now _) (by rw [List.take_of_length_le (by omega)]))
  simp only [paymasterref15_Up.l0]
  rw [wrap64_id (by omega) (by omega), if_neg (by omega)]
 | succ d ih =>
  intro j hj
  have h0 : 2 * j < l.length := by omega
  have h1 : 2 * j + 1 < l.length := by omega
  have k0 := hk l[2 * j] (List.getElem_mem h0)
  have k1 := hk l[2 * j + 1] (List.getElem_mem h1)
  have hroom : twoOk l j := (pairsOk_range m l hm).1 hok j (by omega)
  have g0 : l.getD (2 * j) zeroN = l[2 * j] := by simp [List.getD_eq_getElem?_getD, h0]
  have g1 : l.getD (2 * j + 1) zeroN = l[2 * j + 1] := by simp [List.getD_eq_getElem?_getD, h1]
  unfold twoOk at hroom
  rw [g0, g1] at hroom
  have hget : (pairsV wd l)[j]'(by omega) = joinV wd l[2 * j] l[2 * j + 1] := by
   have e := pairsV_range wd m l hm
   simp only [e, List.getElem_map, List.getElem_range]
   unfold twoV
   rw [g0, g1]
  refine Ev.step (f := fun k => (paymasterref14_Join.f k wd l[2 * j].f0 l[2 * j].f1.f0 l[2 * j].f1.f1 l[2 * j + 1].f0 l[2 * j + 1].f1.f0 l[2 * j + 1].f1.f1).bind fun b => paymasterref15_Up.l0 k wd l ((pairsV wd l).take j ++ [(⟨b.1, ⟨b.2.1, b.2.2.1⟩⟩ : SNode)]) ((2 * (j + 1) : Nat) : Int)) (fun k => ?_) ?_
  ·
   simp only [paymasterref15_Up.l0]
   have hlen : ((pairsV wd l).take j).length < 4398046511104 := by rw [List.length_take]; omega
   have hw : wrap64 (((2 * j : Nat) : Int) + 2) = ((2 * (j + 1) : Nat) : Int) := by rw [wrap64_id (by omega) (by omega)]; omega
   rw [wrap64_id (x := ((2 * j : Nat) : Int) + 1) (by omega) (by omega), show ((2 * j : Nat) : Int) + 1 = ((2 * j + 1 : Nat) : Int) by omega, if_pos (by omega), if_pos (by omega), if_pos (by omega), if_pos (by omega), rdNode_nat l (2 * j) h0, rdNode_nat l (2 * j + 1) h1]
   simp only [hlen, hw, if_true]
  ·
   refine Ev.bind (refJoin_ev wd l[2 * j] l[2 * j + 1] k0.u k1.u) ?_
   rw [joinI_room k0 k1 hroom]
   refine ev_eq (Ev.congr (fun k => ?_) (ih (j + 1) (by omega))) rfl
   rw [List.take_succ_eq_append_getElem (by omega), hget]
theorem refUp_ev (wd : Int) (l : List SNode) (m : Nat) (hm : l.length = 2 * m) (hn : l.length ≤ 1024) (hk : ∀ x ∈ l, NodeK wd x) (hok : pairsOk l = true) : Ev (fun k => paymasterref15_Up.f k wd l) (pairsV wd l) := refUp_loop wd l m hm hn hk hok m 0 (by omega)
theorem up_ok {wd : Int} {K : Nat} {l : List SNode} (hl : l.length = 2 ^ K) (hk : ∀ x ∈ l, NodeK wd x) (ht : totL l < 340282366920938463463374607431768211456) : ∀ i, i ≤ K → (upV wd i l).length = 2 ^ (K - i) ∧ (∀ x ∈ upV wd i l, NodeK wd x) ∧ totL (upV wd i l) = totL l := by
 intro i
 induction i with
 | zero => intro _; exact ⟨hl, hk, rfl⟩
 | succ i ih =>
  intro hi
  obtain ⟨h1, h2, h3⟩ := ih (by omega)
  have hm : (upV wd i l).length = 2 * 2 ^ (K - (i + 1)) := by rw [h1, show K - i = (K - (i + 1)) + 1 by omega, Nat.pow_succ, Nat.mul_comm]
  have hok : pairsOk (upV wd i l) = true := by
   cases h : pairsOk (upV wd i l) with
   | true => rfl
   | false => exact absurd (by rw [h3]; exact ht) (pairsOk_tot _ _ hm h2 h)
  rw [upV_succ]
  exact ⟨pairsV_len wd _ _ hm, pairsV_k _ _ hm h2 hok, (pairsV_tot wd _ _ hm).trans h3⟩
theorem up_pairs {wd : Int} {K : Nat} {l : List SNode} (hl : l.length = 2 ^ K) (hk : ∀ x ∈ l, NodeK wd x) (ht : totL l < 340282366920938463463374607431768211456) (i : Nat) (hi : i < K) : ∃ m, (upV wd i l).length = 2 * m ∧ pairsOk (upV wd i l) = true := by
 obtain ⟨h1, h2, h3⟩ := up_ok hl hk ht i (by omega)
 have hm : (upV wd i l).length = 2 * 2 ^ (K - (i + 1)) := by rw [h1, show K - i = (K - (i + 1)) + 1 by omega, Nat.pow_succ, Nat.mul_comm]
 refine ⟨_, hm, ?_⟩
 cases h : pairsOk (upV wd i l) with
 | true => rfl
 | false => exact absurd (by rw [h3]; exact ht) (pairsOk_tot _ _ hm h2 h)
end Go.Proofs.YtfcodmdckcihmaaDoor.P
namespace Go.Proofs.YtfcodmdckcihmaaDoor.P
open Go.RowKit Go.Proofs.YtfcodmdckcihmaaDoorW.PrintWords Go.Proofs.YtfcodmdckcihmaaDoorW.PrintLast Go.Proofs.YtfcodmdckcihmaaDoorW.PrintMore
set_option linter.unusedVariables false
set_option linter.unusedSimpArgs false
set_option linter.unnecessarySimpa false
theorem refAll_loop (w : Int) (l : List SNode) (hl : l.length ≤ 9223372036854775807) : ∀ d i : Nat, i + d = l.length → Ev (fun k => paymasterref14_all.l0 k w l (i : Int)) (if (l.drop i).all (nodeOf w) then (decide (1 ≤ w) && decide (w ≤ 32)) else false) := by
 intro d
 induction d with
 | zero =>
  intro i hi
  refine Ev.step (f := fun _ => some (decide (1 ≤ w) && decide (w ≤ 32))) (fun k => ?_) (ev_eq (Ev.now _) ?_)
  ·
   simp only [paymasterref14_all.l0]; rw [if_neg (by omega)]
   by_cases h1 : w ≥ 1
   ·
    rw [if_pos h1]; have h1' : 1 ≤ w := h1; simp [h1']
   ·
    rw [if_neg h1]; have h1' : ¬ 1 ≤ w := h1; simp [h1']
  ·
   rw [List.drop_of_length_le (by omega)]; rfl
 | succ d ih =>
  intro i hi
  have hlt : i < l.length := by omega
  rw [List.drop_eq_getElem_cons hlt, List.all_cons]
  cases hb : nodeOf w l[i] with
  | false =>
   refine Ev.step (f := fun _ => some false) (fun k => ?_) (ev_eq (Ev.now false) (by simp))
   simp only [paymasterref14_all.l0]; rw [if_pos (by omega), if_pos (by omega), rdNode_nat l i hlt, ref14Of_eq, hb]; rfl
  | true =>
   refine Ev.step (f := fun k => paymasterref14_all.l0 k w l ((i + 1 : Nat) : Int)) (fun k => ?_) (ev_eq (ih (i + 1) (by omega)) (by simp))
   simp only [paymasterref14_all.l0]; rw [if_pos (by omega), if_pos (by omega), rdNode_nat l i hlt, ref14Of_eq, hb, wrap64_id (by omega) (by omega)]; rfl
theorem refAll_ev (w : Int) (l : List SNode) (hl : l.length ≤ 9223372036854775807) : Ev (fun k => paymasterref14_all.f k w l) (if l.all (nodeOf w) then (decide (1 ≤ w) && decide (w ≤ 32)) else false) := refAll_loop w l hl l.length 0 (by omega)
end Go.Proofs.YtfcodmdckcihmaaDoor.P
namespace Go.Proofs.YtfcodmdckcihmaaDoor.P
open Go.RowKit Go.Proofs.YtfcodmdckcihmaaDoorW.PrintWords Go.Proofs.YtfcodmdckcihmaaDoorW.PrintLast Go.Proofs.YtfcodmdckcihmaaDoorW.PrintMore
set_option linter.unusedVariables false
set_option linter.unusedSimpArgs false
set_option linter.unnecessarySimpa false
structure FoS (w : World) (wd : Int) (W : World) : Prop where
 h2 : W.heap[w.heap.size]? = some (.cells #[.int .i64 wd] 3 (0, 0))
 h4 : W.heap[w.heap.size + 1]? = some (.cells #[.string ⟨#[]⟩, .int .u64 0, .int .u64 0] 46 (0, 0))
 hB : Below w.heap.size w W
theorem FoS.below {w W W' : World} {wd : Int} (h : FoS w wd W) (hb : Below W.heap.size W W') : FoS w wd W' := ⟨blk_below h.h2 hb, blk_below h.h4 hb, h.hB.trans (hb.mono h.hB.size)⟩
theorem first_at {W : World} {ad : Addr} {l : List SNode} (h : Kd.C kNode W (some ad) l.length l) (h1 : l.length = 1) : W.cell? ad = some (.string (l.headD zeroN).f0) ∧ W.cell? ⟨ad.block, ad.off + 1, none⟩ = some (.int .u64 (l.headD zeroN).f1.f0) ∧ W.cell? ⟨ad.block, ad.off + 2, none⟩ = some (.int .u64 (l.headD zeroN).f1.f1) := by
 obtain ⟨a1, e1, p0, p1, p2⟩ := at_TNode h 0 (by omega) (by omega)
 cases e1
 match l, h1 with
 | [x], _ => exact ⟨p0, p1, p2⟩
end Go.Proofs.YtfcodmdckcihmaaDoor.P
namespace Go.Proofs.YtfcodmdckcihmaaDoor.P
open Go.RowKit Go.Proofs.YtfcodmdckcihmaaDoorW.PrintWords Go.Proofs.YtfcodmdckcihmaaDoorW.PrintLast Go.Proofs.YtfcodmdckcihmaaDoorW.PrintMore
set_option linter.unusedVariables false
set_option linter.unusedSimpArgs false
set_option linter.unnecessarySimpa false
theorem isPow_iff (n : Nat) : isPow n = true ↔ ∃ k, n = 2 ^ k := ⟨isPow_spec, fun ⟨k, h⟩ => by rw [h]; exact isPow_two k⟩
theorem isPow_half (n : Nat) (h : 1 < n) (h2 : n % 2 = 0) : isPow (n / 2) = isPow n := by
 rw [Bool.eq_iff_iff, isPow_iff, isPow_iff]
 constructor
 ·
  rintro ⟨k, hk⟩
  exact ⟨k + 1, by rw [Nat.pow_succ, ← hk]; omega⟩
 ·
  rintro ⟨k, hk⟩
  cases k with
  | zero => omega
  | succ k => exact ⟨k, by rw [Nat.pow_succ] at hk; omega⟩
theorem isPow_end (n : Nat) (h : ¬ (1 < n ∧ n % 2 = 0)) : isPow n = decide (n = 1) := by
 by_cases h1 : n = 1
 ·
  subst h1; rfl
 ·
  rw [decide_eq_false h1]
  cases hp : isPow n with
  | false => rfl
  | true =>
   obtain ⟨k, hk⟩ := isPow_spec hp
   cases k with
   | zero => exact absurd hk h1
   | succ k =>
    have : 0 < 2 ^ k := Nat.two_pow_pos k
    rw [Nat.pow_succ] at hk
    exact absurd ⟨by omega, by omega⟩ h
theorem slice_to (ad : Addr) (M c h : Nat) (hM : h ≤ M) (hc : M ≤ c) (hp : 0 < c) (wx : World) : (Instr.slice 43 (.slice (some ad) M c) none (some (.int .i64 (h : Int))) none).run Tryd.prog wx = .ok (.slice (some ad) h c) wx := by
 have h1 := run_slice_h (P := Tryd.prog) wx 43 (some ad) M c (by kernel_rfl) .i64 (h : Int) (by omega) (by omega)
 rw [h1]
 have hs : (sizeOf (Tryd.prog.elem 43)).run Tryd.prog wx = .ok 3 wx := by kernel_rfl
 rw [hs]
 simp only [Result.andThen, sliced, Int.toNat_natCast]
 rw [if_neg (by omega)]
 simp [Addr.add]
theorem foldI_halves {wd : Int} {l : List SNode} {k : Nat} (h1 : 1 ≤ wd) (h2 : wd ≤ 32) (hl : l.length = 2 ^ (k + 1)) (hal : l.all (nodeOf wd) = true) (ul : ∀ x ∈ l, OkU x.f1) :
  ((foldI wd (l.take (2 ^ k))).2.2.2 = 0 ∧ (foldI wd (l.drop (2 ^ k))).2.2.2 = 0 → joinI wd (nodeJ (foldI wd (l.take (2 ^ k)))) (nodeJ (foldI wd (l.drop (2 ^ k)))) = foldI wd l) ∧ (¬((foldI wd (l.take (2 ^ k))).2.2.2 = 0 ∧ (foldI wd (l.drop (2 ^ k))).2.2.2 = 0) → foldI wd l = (⟨#[]⟩, 0, 0, 10)) := by
 have hp : 2 ^ (k + 1) = 2 * 2 ^ k := by rw [Nat.pow_succ]; omega
 have hk := allK hal ul
 have k1 : ∀ x ∈ l.take (2 ^ k), NodeK wd x := fun x hx => hk x (List.mem_of_mem_take hx)
 have k2 : ∀ x ∈ l.drop (2 ^ k), NodeK wd x := fun x hx => hk x (List.mem_of_mem_drop hx)
 have t := totL_append (l.take (2 ^ k)) (l.drop (2 ^ k))
 rw [List.take_append_drop] at t
 have t1 := totL_nn k1
 have t2 := totL_nn k2
 have l1 : (l.take (2 ^ k)).length = 2 ^ k := by rw [List.length_take]; omega
 have l2 : (l.drop (2 ^ k)).length = 2 ^ k := by rw [List.length_drop]; omega
 have e1 := foldI_pow h1 h2 l1 (List.all_eq_true.2 fun x hx => (k1 x hx).of)
 have e2 := foldI_pow h1 h2 l2 (List.all_eq_true.2 fun x hx => (k2 x hx).of)
 have e := foldI_pow h1 h2 hl hal
 by_cases r1 : totL (l.take (2 ^ k)) < 340282366920938463463374607431768211456
 ·
  by_cases r2 : totL (l.drop (2 ^ k)) < 340282366920938463463374607431768211456
  ·
   rw [if_pos r1] at e1
   rw [if_pos r2] at e2
   rw [e1, e2]
   refine ⟨fun _ => ?_, fun h => absurd ⟨rfl, rfl⟩ h⟩
   have n1 := treeV_k k _ l1 k1 r1
   have n2 := treeV_k k _ l2 k2 r2
   have v1 := treeV_val (w := wd) k _ l1
   have v2 := treeV_val (w := wd) k _ l2
   by_cases r : totL l < 340282366920938463463374607431768211456
   ·
    rw [e, if_pos r]
    exact joinI_room n1 n2 (by rw [v1, v2]; omega)
   ·
    rw [e, if_neg r]
    exact joinI_full n1 n2 (by rw [v1, v2]; omega)
  ·
   rw [if_neg r2] at e2
   rw [e2]
   exact ⟨fun h => absurd h.2 (by decide), fun _ => by rw [e, if_neg (by omega)]⟩
 ·
  rw [if_neg r1] at e1
  rw [e1]
  exact ⟨fun h => absurd h.1 (by decide), fun _ => by rw [e, if_neg (by omega)]⟩
theorem foldI_ok {wd : Int} {l : List SNode} (ul : ∀ x ∈ l, OkU x.f1) : OkU (nodeJ (foldI wd l)).f1 := by
 have z : OkU (⟨0, 0⟩ : SU128) := ⟨⟨by decide, by decide⟩, ⟨by decide, by decide⟩⟩
 by_cases h : 1 ≤ wd ∧ wd ≤ 32 ∧ l.all (nodeOf wd) = true
 ·
  cases hp : isPow l.length with
  | false => unfold foldI; rw [if_pos h, if_neg (by rw [hp]; decide)]; exact z
  | true =>
   obtain ⟨k, hk⟩ := isPow_spec hp
   rw [foldI_pow h.1 h.2.1 hk h.2.2]
   by_cases r : totL l < 340282366920938463463374607431768211456
   ·
    rw [if_pos r]; exact (treeV_k k l hk (allK h.2.2 ul) r).u
   ·
    rw [if_neg r]; exact z
 ·
  unfold foldI; rw [if_neg h]; exact z
structure RFo (w W : World) : Prop where
 h4 : W.heap[w.heap.size]? = some (.cells #[.string ⟨#[]⟩, .int .u64 0, .int .u64 0] 46 (0, 0))
 hB : Below w.heap.size w W
theorem RFo.below {w W W' : World} (h : RFo w W) (hb : Below W.heap.size W W') : RFo w W' := ⟨blk_below h.h4 hb, h.hB.trans (hb.mono h.hB.size)⟩
set_option maxRecDepth 100000 in
set_option maxHeartbeats 4000000 in
theorem reffold.calls (wd : Int) : ∀ (N : Nat) (A : Option Addr) (c : Nat) (l : List SNode) (w : World), l.length < N → Kd.C kNode w A l.length l → l.length ≤ c → l.length ≤ 300 → (∀ x ∈ l, OkU x.f1) →
  Calls Tryd.prog 61 #[.int .i64 wd, .slice A l.length c] w fun e w' => e = .returned (.tuple #[nodeV (nodeJ (foldI wd l)), .int .i64 (foldI wd l).2.2.2]) ∧ Below w.heap.size w w' := by
 intro N
 induction N with
 | zero => intro A c l w h; exact absurd h (Nat.not_lt_zero _)
 | succ N ih =>
 intro A c l w hN hr hc h300 ul
 have hu := Tryd.underlying46
 have HIH := aM' ih
 have HR := aM' hr
 have HC := aM' hc
 have H3 := aM' h300
 have HN := aM' hN
 have UL := aM' ul
 obtain ⟨ka, hka⟩ := (refAll_ev wd l (by omega)).rounds
 have HAV := aM' hka
 clear hr hc h300 ul ih hN hka
 go_enter Tryd.func61, Tryd.ntmps61
 go_wp2_with fail
 have hs0 : RFo w (w.alloc (.cells #[.string ⟨#[]⟩, .int .u64 0, .int .u64 0] 46)) := ⟨blk_new w _, below_alloc (Below.refl _ _) _⟩
 refine (paymasterref14_all.calls ka wd A c l _ _ (Kd.C_below HR.out hs0.hB) HC.out HAV.out).mono ?_
 rintro e w1 ⟨rfl, hb⟩
 have hs1 := hs0.below hb
 have HS1 := aM' hs1
 clear hs0 hb
 have y0 : w1.cell? ⟨w.heap.size, 0, none⟩ = some (.string ⟨#[]⟩) := blk_cell hs1.h4 0
 have y1 : w1.cell? ⟨w.heap.size, 1, none⟩ = some (.int .u64 0) := blk_cell hs1.h4 1
 have y2 : w1.cell? ⟨w.heap.size, 2, none⟩ = some (.int .u64 0) := blk_cell hs1.h4 2
 have yf : ∀ i, w1.frozen? ⟨w.heap.size, i, none⟩ = false := fun i => blk_frozen hs1.h4 i
 clear hs1
 by_cases hal : 1 ≤ wd ∧ wd ≤ 32 ∧ l.all (nodeOf wd) = true
 ·
  have hb1 : (if l.all (nodeOf wd) = true then decide (1 ≤ wd) && decide (wd ≤ 32) else false) = true := by rw [if_pos hal.2.2]; simp [hal.1, hal.2.1]
  rw [hb1]
  have HAL := aM' hal
  clear hal hb1
  go_wp2
  go_loopw [6] (fun v wr => ∃ n : Nat, v = .int .i64 n ∧ Aside0 (n ≤ 300 ∧ isPow n = isPow l.length) ∧ wr = w1) (fun v _ => (intOf v).toNat)
  case atStart => exact ⟨l.length, rfl, ⟨H3.out, rfl⟩, rfl⟩
  case round =>
   obtain ⟨n, rfl, HNN, rfl⟩ := hrel
   by_cases hlt : 1 < n ∧ n % 2 = 0
   ·
    have b1 : decide (1 < n) = true := decide_eq_true hlt.1
    have b0 : decide ((1 : Int) < (n : Int)) = true := decide_eq_true (by omega)
    have b2 : (n : Int).tmod 2 = 0 := by rw [Int.tmod_eq_emod_of_nonneg (by omega)]; omega
    have b3 : (n : Int).tdiv 2 = ((n / 2 : Nat) : Int) := by rw [Int.tdiv_eq_ediv_of_nonneg (by omega)]; omega
    have wn : wrap64 (((n / 2 : Nat) : Int)) = ((n / 2 : Nat) : Int) := wrap64_id (by have := HNN.out; omega) (by have := HNN.out; omega)
    have HLT := aM' hlt
    clear hlt
    have wn2 : wrap64 ((n : Int) / 2) = ((n / 2 : Nat) : Int) := by rw [show (n : Int) / 2 = ((n / 2 : Nat) : Int) by omega]; exact wn
    go_wp2
    rw [wn2]
    refine ⟨⟨n / 2, rfl, ⟨by have := HNN.out; omega, (isPow_half n HLT.out.1 HLT.out.2).trans HNN.out.2⟩, trivial⟩, ?_⟩
    show (((n / 2 : Nat) : Int)).toNat < ((n : Int)).toNat
    have := HLT.out
    omega
   ·
    have hpe := isPow_end n hlt
    rw [HNN.out.2] at hpe
    by_cases hn1 : n = 1
    ·
     subst hn1
     obtain ⟨K, hK2⟩ := isPow_spec (hpe.trans (decide_eq_true rfl))
     have HK2 := aM' hK2
     have hA : ∃ ad, A = some ad := by
      obtain ⟨_, _, h3⟩ := HR.out
      obtain ⟨a, ha, _⟩ := h3 (by rw [hK2]; exact Nat.two_pow_pos K)
      exact ⟨a, ha⟩
     obtain ⟨ad, rfl⟩ := hA
     clear hlt hpe hK2
     by_cases hl1 : l.length = 1
     ·
      have b4 : ((l.length : Int) == 1) = true := by rw [hl1]; rfl
      obtain ⟨p0, p1, p2⟩ := first_at (Kd.C_below HR.out HS1.out.hB) hl1
      have g1 : (0 : Int) < (l.length : Int) := by omega
      have htot : totL l < 340282366920938463463374607431768211456 := by
       match l, hl1, UL.out with
       | [x], _, hn => have := valU_lt (hn x (by simp)); simp [totL]; exact this
      have HI2 := aM' (show foldI wd l = ((l.headD zeroN).f0, (l.headD zeroN).f1.f0, (l.headD zeroN).f1.f1, 0) by
       have := foldI_pow (k := 0) HAL.out.1 HAL.out.2.1 hl1 HAL.out.2.2
       rw [if_pos htot] at this
       exact this)
      clear htot
      go_wp2
      refine bodyPost_ret (v := .tuple #[.agg #[.string (l.headD zeroN).f0, .int .u64 (l.headD zeroN).f1.f0, .int .u64 (l.headD zeroN).f1.f1], .int .i64 0]) ?_ rfl ⟨by rw [HI2.out], ?_⟩
      ·
       simp [results, Tryd.results61, go_sem, hu, y0, y1, y2]
      ·
       exact below_set (below_set (below_set HS1.out.hB (by (try dsimp only); omega)) (by (try dsimp only); omega)) (by (try dsimp only); omega)
     ·
      have b4 : ((l.length : Int) == 1) = false := by simp; omega
      obtain ⟨k, rfl⟩ : ∃ k', K = k' + 1 := by
       cases K with
       | zero => exact absurd HK2.out hl1
       | succ k => exact ⟨k, rfl⟩
      have hp2 : 2 ^ (k + 1) = 2 * 2 ^ k := by rw [Nat.pow_succ]; omega
      have hpos : 1 ≤ 2 ^ k := Nat.two_pow_pos k
      have hlen : l.length = 2 * 2 ^ k := by rw [HK2.out, hp2]
      have hq : (l.length : Int).tdiv 2 = ((2 ^ k : Nat) : Int) := by rw [Int.tdiv_eq_ediv_of_nonneg (by omega)]; omega
      have hF := foldI_halves HAL.out.1 HAL.out.2.1 HK2.out HAL.out.2.2 UL.out
      have hC1 := Kd.C_take HR.out (show 2 ^ k ≤ l.length by omega)
      have hC2 := Kd.C_drop (c := c) HR.out (show 2 ^ k ≤ l.length by omega) HC.out
      have hl1' : (l.take (2 ^ k)).length = 2 ^ k := by rw [List.length_take]; omega
      have hl2' : (l.drop (2 ^ k)).length = l.length - 2 ^ k := by rw [List.length_drop]
      rw [if_neg (by have := HC.out; omega)] at hC2
      have hu1 : ∀ x ∈ l.take (2 ^ k), OkU x.f1 := fun x hx => UL.out x (List.mem_of_mem_take hx)
      have hu2 : ∀ x ∈ l.drop (2 ^ k), OkU x.f1 := fun x hx => UL.out x (List.mem_of_mem_drop hx)
      have s1 := fun wx => slice_to ad l.length c (2 ^ k) (by omega) HC.out (by have := HC.out; omega) wx
      have s2 := fun wx => slice_from ad l.length c (2 ^ k) (by omega) HC.out wx
      rw [hl1'] at hC1
      rw [hl2'] at hC2
      have wq : wrap64 (((2 ^ k : Nat) : Int)) = ((2 ^ k : Nat) : Int) := wrap64_id (by have := H3.out; omega) (by have := H3.out; omega)
      generalize l.take (2 ^ k) = la at hF hC1 hl1' hu1 ⊢
      generalize l.drop (2 ^ k) = lb at hF hC2 hl2' hu2 ⊢
      generalize 2 ^ k = h at *
      have HF := aM' hF
      have HC1 := aM' hC1
      have HC2 := aM' hC2
      have HL1 := aM' hl1'
      have HL2 := aM' hl2'
      have HU1 := aM' hu1
      have HU2 := aM' hu2
      have HLEN := aM' hlen
      clear hF hC1 hC2 hl1' hl2' hu1 hu2 hlen hp2 HK2 y0 y1 y2 yf
      have oka := foldI_ok (wd := wd) HU1.out
      have okb := foldI_ok (wd := wd) HU2.out
      have q1 := HIH.out (some ad) c la wr (by have := HL1.out; have := HLEN.out; have := HN.out; omega) (by rw [HL1.out]; exact Kd.C_below HC1.out HS1.out.hB) (by have := HL1.out; have := HLEN.out; have := HC.out; omega) (by have := HL1.out; have := HLEN.out; have := H3.out; omega) HU1.out
      have q2 := fun (W : World) (hW : Below w.heap.size w W) => HIH.out (some (ad.add (h * 3))) (c - h) lb W (by have := HL2.out; have := HLEN.out; have := HN.out; omega) (by rw [HL2.out]; exact Kd.C_below HC2.out hW) (by have := HL2.out; have := HLEN.out; have := HC.out; omega) (by have := HL2.out; have := HLEN.out; have := H3.out; omega) HU2.out
      rw [HL1.out] at q1
      rw [HL2.out] at q2
      have hF2 := HF.out
      rcases hfa : foldI wd la with ⟨a1, a2, a3, a4⟩
      rcases hfb : foldI wd lb with ⟨c1, c2, c3, c4⟩
      rw [hfa] at q1 oka hF2
      rw [hfb] at q2 okb hF2
      have HF2 := aM' hF2
      have Q1 := aM' q1
      have Q2 := aM' q2
      have OKA := aM' oka
      have OKB := aM' okb
      clear hF2 q1 q2 oka okb hfa hfb HF
      go_wp2_with fail
      refine Q1.out.mono ?_
      rintro e w2 ⟨rfl, hb2⟩
      have hs2 := HS1.out.below hb2
      have hs2a := hs2.below (below_alloc (Below.refl _ _) (.cells #[.string a1, .int .u64 a2, .int .u64 a3] 46))
      have HS2 := aM' hs2a
      clear hb2 hs2 hs2a Q1
      go_wp2_with fail
      refine (Q2.out _ HS2.out.hB).mono ?_
      rintro e w3 ⟨rfl, hb3⟩
      have HS3 := aM' (HS2.out.below hb3)
      have g7 := blk_below (blk_new w2 _) hb3
      generalize w2.heap.size = b7 at g7 ⊢
      have x0 : ∀ o, (w3.alloc o).cell? ⟨b7, 0, none⟩ = some (.string a1) := fun o => blk_cell (blk_alloc g7 o) 0
      have x1 : ∀ o, (w3.alloc o).cell? ⟨b7, 1, none⟩ = some (.int .u64 a2) := fun o => blk_cell (blk_alloc g7 o) 1
      have x2 : ∀ o, (w3.alloc o).cell? ⟨b7, 2, none⟩ = some (.int .u64 a3) := fun o => blk_cell (blk_alloc g7 o) 2
      have hn7 : b7 ≠ w3.heap.size := Nat.ne_of_lt (blk_lt g7)
      have HS4 := aM' (HS3.out.below (below_alloc (Below.refl _ _) (.cells #[.string c1, .int .u64 c2, .int .u64 c3] 46)))
      have z0 : ∀ o, (w3.alloc o).cell? ⟨w.heap.size, 0, none⟩ = some (.string ⟨#[]⟩) := fun o => blk_cell (blk_alloc HS3.out.h4 o) 0
      have z1 : ∀ o, (w3.alloc o).cell? ⟨w.heap.size, 1, none⟩ = some (.int .u64 0) := fun o => blk_cell (blk_alloc HS3.out.h4 o) 1
      have z2 : ∀ o, (w3.alloc o).cell? ⟨w.heap.size, 2, none⟩ = some (.int .u64 0) := fun o => blk_cell (blk_alloc HS3.out.h4 o) 2
      have zf : ∀ o i, (w3.alloc o).frozen? ⟨w.heap.size, i, none⟩ = false := fun o i => blk_frozen (blk_alloc HS3.out.h4 o) i
      clear hb3 g7 Q2
      by_cases h0 : a4 = 0 ∧ c4 = 0
      ·
       obtain ⟨rfl, rfl⟩ := h0
       have hj : joinI wd ⟨a1, ⟨a2, a3⟩⟩ ⟨c1, ⟨c2, c3⟩⟩ = foldI wd l := HF2.out.1 ⟨rfl, rfl⟩
       obtain ⟨kk, hkk⟩ := refJoin_ev wd ⟨a1, ⟨a2, a3⟩⟩ ⟨c1, ⟨c2, c3⟩⟩ OKA.out OKB.out
       have hkk2 := hkk kk (Nat.le_refl _)
       rw [hj] at hkk2
       rcases hfl : foldI wd l with ⟨r1, r2, r3, r4⟩
       rw [hfl] at hkk2
       have HKK := aM' hkk2
       have HFL := aM' hfl
       clear hkk hkk2 hj hfl
       go_wp2_with fail
       refine (paymasterref14_Join.calls kk wd a1 a2 a3 c1 c2 c3 r1 r2 r3 r4 _ HKK.out).mono ?_
       rintro e w5 ⟨rfl, hb5⟩
       have HS5 := aM' (HS4.out.below hb5)
       clear hb5 x0 x1 x2 z0 z1 z2 zf hn7
       have z0 : w5.cell? ⟨w.heap.size, 0, none⟩ = some (.string ⟨#[]⟩) := blk_cell HS5.out.h4 0
       have z1 : w5.cell? ⟨w.heap.size, 1, none⟩ = some (.int .u64 0) := blk_cell HS5.out.h4 1
       have z2 : w5.cell? ⟨w.heap.size, 2, none⟩ = some (.int .u64 0) := blk_cell HS5.out.h4 2
       have zf : ∀ i, w5.frozen? ⟨w.heap.size, i, none⟩ = false := fun i => blk_frozen HS5.out.h4 i
       go_wp2
       refine bodyPost_ret (v := .tuple #[.agg #[.string r1, .int .u64 r2, .int .u64 r3], .int .i64 r4]) ?_ rfl ⟨by rw [HFL.out], ?_⟩
       ·
        simp [results, Tryd.results61, go_sem, hu, z0, z1, z2]
       ·
        exact below_set (below_set (below_set HS5.out.hB (by (try dsimp only); omega)) (by (try dsimp only); omega)) (by (try dsimp only); omega)
      ·
       have hj := HF2.out.2 h0
       have HFL := aM' hj
       clear hj
       by_cases ha4 : a4 = 0
       ·
        have hc4 : ¬ c4 = 0 := fun h => h0 ⟨ha4, h⟩
        subst ha4
        have b6 : (c4 != 0) = true := by simp [hc4]
        clear h0 hc4
        go_wp2
        refine bodyPost_ret (v := .tuple #[.agg #[.string ⟨#[]⟩, .int .u64 0, .int .u64 0], .int .i64 10]) ?_ rfl ⟨by rw [HFL.out], ?_⟩
        ·
         simp [results, Tryd.results61, go_sem, hu, z0, z1, z2]
        ·
         exact below_set (below_set (below_set HS4.out.hB (by (try dsimp only); omega)) (by (try dsimp only); omega)) (by (try dsimp only); omega)
       ·
        have b6 : (a4 != 0) = true := by simp [ha4]
        clear h0 ha4
        go_wp2
        refine bodyPost_ret (v := .tuple #[.agg #[.string ⟨#[]⟩, .int .u64 0, .int .u64 0], .int .i64 10]) ?_ rfl ⟨by rw [HFL.out], ?_⟩
        ·
         simp [results, Tryd.results61, go_sem, hu, z0, z1, z2]
        ·
         exact below_set (below_set (below_set HS4.out.hB (by (try dsimp only); omega)) (by (try dsimp only); omega)) (by (try dsimp only); omega)
    ·
     have hpf : isPow l.length = false := hpe.trans (decide_eq_false hn1)
     have HI := aM' (show foldI wd l = (⟨#[]⟩, 0, 0, 2) by unfold foldI; rw [if_pos HAL.out, if_neg (by rw [hpf]; decide)])
     have b5 : ((n : Int) != 1) = true := by simp; omega
     by_cases h1n : 1 < n
     ·
      have b0 : decide ((1 : Int) < (n : Int)) = true := decide_eq_true (by omega)
      have b1 : decide (1 < n) = true := decide_eq_true h1n
      have b2 : (n : Int).tmod 2 = 1 := by rw [Int.tmod_eq_emod_of_nonneg (by omega)]; omega
      clear hlt hpe hpf
      go_wp2
      refine bodyPost_ret (v := .tuple #[.agg #[.string ⟨#[]⟩, .int .u64 0, .int .u64 0], .int .i64 2]) ?_ rfl ⟨by rw [HI.out], ?_⟩
      ·
       simp [results, Tryd.results61, go_sem, hu, y0, y1, y2]
      ·
       exact below_set (below_set (below_set HS1.out.hB (by (try dsimp only); omega)) (by (try dsimp only); omega)) (by (try dsimp only); omega)
     ·
      have b0 : decide ((1 : Int) < (n : Int)) = false := decide_eq_false (by omega)
      have b1 : decide (1 < n) = false := decide_eq_false h1n
      clear hlt hpe hpf
      go_wp2
      refine bodyPost_ret (v := .tuple #[.agg #[.string ⟨#[]⟩, .int .u64 0, .int .u64 0], .int .i64 2]) ?_ rfl ⟨by rw [HI.out], ?_⟩
      ·
       simp [results, Tryd.results61, go_sem, hu, y0, y1, y2]
      ·
       exact below_set (below_set (below_set HS1.out.hB (by (try dsimp only); omega)) (by (try dsimp only); omega)) (by (try dsimp only); omega)
 ·
  have hb1 : (if l.all (nodeOf wd) = true then decide (1 ≤ wd) && decide (wd ≤ 32) else false) = false := by
   cases h : (if l.all (nodeOf wd) = true then decide (1 ≤ wd) && decide (wd ≤ 32) else false) with
   | false => rfl
   | true =>
    split at h
    ·
     rename_i h0
     simp only [Bool.and_eq_true, decide_eq_true_eq] at h; exact absurd ⟨h.1, h.2, h0⟩ hal
    ·
     cases h
  rw [hb1]
  have HI := aM' (show foldI wd l = (⟨#[]⟩, 0, 0, 70) by unfold foldI; rw [if_neg hal])
  clear hal hb1
  go_wp2
  refine bodyPost_ret (v := .tuple #[.agg #[.string ⟨#[]⟩, .int .u64 0, .int .u64 0], .int .i64 70]) ?_ rfl ⟨by rw [HI.out], ?_⟩
  ·
   simp [results, Tryd.results61, go_sem, hu, y0, y1, y2]
  ·
   exact below_set (below_set (below_set HS1.out.hB (by (try dsimp only); omega)) (by (try dsimp only); omega)) (by (try dsimp only); omega)
def paymasterref14_Fold.f (x0 : Int) (l : List SNode) : Option (ByteArray × Int × Int × Int) :=
 if l.length ≤ 300 ∧ ∀ x ∈ l, (0 ≤ x.f1.f0 ∧ x.f1.f0 < 18446744073709551616) ∧ (0 ≤ x.f1.f1 ∧ x.f1.f1 < 18446744073709551616) then some (foldI x0 l) else none
theorem paymasterref14_Fold.calls (x0 : Int) (A : Option Addr) (c : Nat) (l : List SNode) (r1 : ByteArray) (r2 r3 r4 : Int) (w : World) (hK : Laid w) (hr : Kd.C kNode w A l.length l) (hc : l.length ≤ c) (h : paymasterref14_Fold.f x0 l = some (r1, r2, r3, r4)) :
  Calls Tryd.prog 61 #[.int .i64 x0, .slice A l.length c] w fun e w' => e = .returned (.tuple #[.agg #[.string r1, .int .u64 r2, .int .u64 r3], .int .i64 r4]) ∧ Below w.heap.size w w' := by
 unfold paymasterref14_Fold.f at h
 split at h
 ·
  rename_i hh
  have h2 := Option.some.inj h
  refine (reffold.calls x0 (l.length + 1) A c l w (Nat.lt_succ_self _) hr hc hh.1 (fun x hx => ⟨(hh.2 x hx).1, (hh.2 x hx).2⟩)).mono ?_
  rintro e w' ⟨rfl, hb⟩
  rw [h2]
  exact ⟨rfl, hb⟩
 ·
  cases h
end Go.Proofs.YtfcodmdckcihmaaDoor.P
namespace Go.Proofs.YtfcodmdckcihmaaDoor.P
open Go.RowKit Go.Proofs.YtfcodmdckcihmaaDoorW.PrintWords Go.Proofs.YtfcodmdckcihmaaDoorW.PrintLast Go.Proofs.YtfcodmdckcihmaaDoorW.PrintMore
set_option linter.unusedVariables false
set_option linter.unusedSimpArgs false
set_option linter.unnecessarySimpa false
def RefT (a : Nat) (wd : Int) (l : List SLeaf) (W : World) : Prop := ∃ LA cap, W.heap[a]? = some (.cells #[.int .i64 wd, .slice LA l.length cap] 118 (0, 0)) ∧ l.length ≤ cap ∧ Kd.C kLeaf W LA l.length l
theorem RefT.below {a : Nat} {wd : Int} {l : List SLeaf} {W W' : World} (h : RefT a wd l W) (hb : Below W.heap.size W W') : RefT a wd l W' := by
 obtain ⟨LA, cap, h1, h2, h3⟩ := h
 exact ⟨LA, cap, blk_below h1 hb, h2, Kd.C_below h3 hb⟩
def RefO (base a : Nat) (wd : Int) (l : List SLeaf) (W : World) : Prop := base ≤ a ∧ ∃ g cap, W.heap[a]? = some (.cells #[.int .i64 wd, .slice (some ⟨g, 0, none⟩) l.length cap] 118 (0, 0)) ∧ W.ownsRow base 36 5 (.slice (some ⟨g, 0, none⟩) l.length cap) l.length (cellsL l)
theorem RefO.read {base a : Nat} {wd : Int} {l : List SLeaf} {W : World} (h : RefO base a wd l W) : RefT a wd l W := by
 obtain ⟨_, g, cap, h1, h2⟩ := h
 exact ⟨some ⟨g, 0, none⟩, cap, h1, (ownLeaves_C h2).2.1, (ownLeaves_C h2).2.2⟩
theorem RefO.far {base a : Nat} {wd : Int} {l : List SLeaf} {W W' : World} (h : RefO base a wd l W) (hk : ∀ k, base ≤ k → k < W.heap.size → W'.heap[k]? = W.heap[k]?) : RefO base a wd l W' := by
 obtain ⟨h0, g, cap, h1, h2⟩ := h
 have hg := h2.lt g rfl
 exact ⟨h0, g, cap, (hk a h0 (blk_lt h1)).trans h1, own_keep h2 (hk g hg.1 hg.2)⟩
def RefPost (w : World) (wd : Int) (l : List SLeaf) (e : Ending) (w' : World) : Prop :=
 Below w.heap.size w w' ∧ ((newI wd l = 0 ∧ ∃ a, e = .returned (.tuple #[ptrT a, .int .i64 0]) ∧ RefO w.heap.size a wd l w') ∨ (newI wd l ≠ 0 ∧ e = .returned (.tuple #[.pointer none, .int .i64 (newI wd l)])))
theorem RefPost.err {w w' : World} {wd : Int} {l : List SLeaf} {e : Int} (h : newI wd l = e) (h0 : e ≠ 0) (hB : Below w.heap.size w w') : RefPost w wd l (.returned (.tuple #[.pointer none, .int .i64 e])) w' := ⟨hB, .inr ⟨by rw [h]; exact h0, by rw [h]⟩⟩
theorem newI_fold {wd : Int} {l : List SLeaf} (hw : ¬ (wd < 1 ∨ 32 < wd)) (hp : isPow l.length = true) (ha : l.all mayLeafI = true) (hl : ∀ x ∈ l, OkL x) : (foldI wd (l.map (leafNodeI wd))).2.2.2 = newI wd l := by
 obtain ⟨K, hK⟩ := isPow_spec hp
 have hk : ∀ x ∈ l.map (leafNodeI wd), NodeK wd x := by
  intro x hx
  obtain ⟨y, hy, rfl⟩ := List.mem_map.1 hx
  have h1 := List.all_eq_true.1 ha y hy
  refine ⟨?_, leafNodeI_ok wd y (hl y hy).ub⟩
  unfold leafNodeI
  rw [if_pos ⟨⟨by omega, by omega⟩, h1⟩]
  have e : ((dgI wd (leafTextI y)).size : Int) = wd := by rw [dgI_size _ _ (by omega) (by omega)]; omega
  simp only [nodeOf, e]
  simp
  omega
 have hal : (l.map (leafNodeI wd)).all (nodeOf wd) = true := List.all_eq_true.2 (fun x hx => (hk x hx).of)
 rw [foldI_pow (by omega) (by omega) (by rw [List.length_map]; exact hK) hal]
 by_cases ht : totL (l.map (leafNodeI wd)) < 340282366920938463463374607431768211456
 ·
  rw [if_pos ht, newI_ok hw hp ha ht]
 ·
  rw [if_neg ht, newI_full hw hp ha ht]
set_option maxRecDepth 100000 in
set_option maxHeartbeats 4000000 in
theorem refNew.calls (wd : Int) (A : Option Addr) (c : Nat) (l : List SLeaf) (w : World) (hK : LaidT w) (hr : Kd.C kLeaf w A l.length l) (hc : l.length ≤ c) (hn : l.length ≤ 300) (hl : ∀ x ∈ l, OkL x) :
  Calls Tryd.prog 15 #[.int .i64 wd, .slice A l.length c] w (RefPost w wd l) := by
 have HK := aM' hK
 have HR := aM' hr
 have HC := aM' hc
 have HN := aM' hn
 have HL := aM' hl
 have hh := refHeight_eq l.length (by omega)
 obtain ⟨kn, hkn⟩ := (refNodes_ev wd l (by omega) (fun x hx => ⟨(hl x hx).id, (hl x hx).sa, (hl x hx).ub⟩)).rounds
 have HKN := aM' hkn
 have HH := aM' hh
 obtain ⟨i0, hi, hz0, hz1, hz2⟩ := info_parts leafInfo
 clear hK hr hc hn hl hh hkn
 by_cases hw : wd < 1 ∨ 32 < wd
 ·
  have HI := aM' (show newI wd l = 70 by unfold newI; rw [if_pos hw])
  by_cases h1 : wd < 1
  ·
   have b1 : decide (wd < 1) = true := decide_eq_true h1
   clear hw
   go_enter Tryd.func15, Tryd.ntmps15
   go_wp2
   go_ret2
   exact RefPost.err HI.out (by decide) (Below.refl _ _)
  ·
   have b1 : decide (wd < 1) = false := decide_eq_false h1
   have b2 : decide (32 < wd) = true := decide_eq_true (by omega)
   clear hw
   go_enter Tryd.func15, Tryd.ntmps15
   go_wp2
   go_ret2
   exact RefPost.err HI.out (by decide) (Below.refl _ _)
 ·
  have b1 : decide (wd < 1) = false := decide_eq_false (by omega)
  have b2 : decide (32 < wd) = false := decide_eq_false (by omega)
  have HW := aM' hw
  clear hw
  go_enter Tryd.func15, Tryd.ntmps15
  go_wp2_with fail
  refine (paymasterref15_Height.calls 12 (l.length : Int) _ _ HH.out).mono ?_
  rintro e w1 ⟨rfl, hd⟩
  obtain ⟨nd, rfl⟩ := hd
  cases hp : isPow l.length with
  | false =>
   have HI := aM' (show newI wd l = 120 by unfold newI; rw [if_neg HW.out, if_pos hp])
   have b3 : decide (hgtI l.length < 0) = true := by unfold hgtI; rw [hp]; rfl
   generalize hgtI l.length = hg at b3
   clear hp
   go_wp2
   go_ret2
   exact RefPost.err HI.out (by decide) (pw_below_drewN (Below.refl _ _) _)
  | true =>
   have b3 : decide (hgtI l.length < 0) = false := by unfold hgtI; rw [hp, if_pos rfl]; exact decide_eq_false (by omega)
   generalize hgtI l.length = hg at b3
   have HP := aM' hp
   clear hp
   go_wp2
   clear b1 b2 b3
   go_loopw [6] (fun v6 wr => ∃ i : Nat, v6 = .int .i64 (i : Int) ∧ Aside0 (i ≤ l.length ∧ (∀ x ∈ l.take i, mayLeafI x = true)) ∧ Aside0 (Below w.heap.size w wr)) (fun v6 _ => l.length - (intOf v6).toNat)
   case atStart => exact ⟨0, rfl, ⟨Nat.zero_le _, by simp⟩, ⟨pw_below_drewN (Below.refl _ _) _⟩⟩
   case round =>
    obtain ⟨i, rfl, HI, HB⟩ := hrel
    have hi2 : i ≤ 300 := by have := HI.out.1; have := HN.out; omega
    by_cases hlt : i < l.length
    ·
     have b1 : decide ((i : Int) < (l.length : Int)) = true := decide_eq_true (by omega)
     have b2 : decide (i < l.length) = true := decide_eq_true hlt
     obtain ⟨ad, e1, p0, p1, p2, p3, p4⟩ := at_TLeaf (Kd.C_below HR.out HB.out) (i : Int) (by omega) (by omega)
     subst e1
     have e3 : rd_TLeaf l (i : Int) = l[i] := by rw [rd_TLeaf, Int.toNat_natCast]; simp [List.getD_eq_getElem?_getD, hlt]
     rw [e3, Int.toNat_natCast] at p0 p1 p2 p3 p4
     have htk : l.take (i + 1) = l.take i ++ [l[i]] := by rw [List.take_succ_eq_append_getElem hlt]
     have hok := HL.out l[i] (List.getElem_mem hlt)
     have hmem : l[i] ∈ l := List.getElem_mem hlt
     generalize l[i] = x at p0 p1 p2 p3 p4 htk hok hmem
     obtain ⟨kl, hkl⟩ := (refMayLeaf_ev x hok.id)
     have HM := aM' (hkl kl (Nat.le_refl _))
     have HTK := aM' htk
     have HMEM := aM' hmem
     clear hkl htk hok e3 hmem
     go_wp2_with fail
     refine (paymasterref07_MayLeaf.calls kl x.f0 x.f1 x.f2 x.f3.f0 x.f3.f1 (mayLeafI x) _ HM.out).mono ?_
     rintro e w2 ⟨rfl, hb⟩
     have HB2 := aM' (HB.out.trans (hb.mono HB.out.size))
     clear hb p0 p1 p2 p3 p4
     cases hml : mayLeafI x with
     | true =>
      have HML := aM' hml
      clear hml
      go_wp2
      go_roundw
      case rel => exact ⟨i + 1, by go_num, ⟨by omega, fun y hy => by
       rw [HTK.out] at hy
       rcases List.mem_append.1 hy with hy | hy
       ·
        exact HI.out.2 y hy
       ·
        rw [List.mem_singleton.1 hy]; exact HML.out⟩, HB2⟩
      case measure => simp [intOf]; omega
     | false =>
      have HML := aM' hml
      clear hml
      go_wp2
      go_ret2
      exact RefPost.err (by
       unfold newI
       rw [if_neg HW.out, if_neg (by rw [HP.out]; decide), if_pos]
       exact List.all_eq_false.2 ⟨x, HMEM.out, by rw [HML.out]; decide⟩) (by decide) HB2.out
    ·
     obtain rfl : i = l.length := by have := HI.out.1; omega
     have b1 : decide ((l.length : Int) < (l.length : Int)) = false := decide_eq_false (by omega)
     have b2 : decide (l.length < l.length) = false := decide_eq_false hlt
     have hall : l.all mayLeafI = true := List.all_eq_true.2 (fun x hx => HI.out.2 x (by rw [List.take_length]; exact hx))
     have HALL := aM' hall
     have HF := aM' (newI_fold HW.out HP.out hall HL.out)
     clear hall
     go_wp2_with fail
     refine (paymasterref15_Nodes.calls kn wd A c l _ _ (Kd.C_below HR.out HB.out) HC.out HKN.out).mono ?_
     rintro e w2 ⟨v, rfl, hv, hb⟩
     obtain ⟨A2, c2, rfl, hc2, hC2⟩ := Kd.R_reads hv
     have HB2 := aM' (HB.out.trans (hb.mono HB.out.size))
     have HC2 := aM' hC2
     have HD2 := aM' hc2
     clear hb hv hC2 hc2 b1 b2
     have ff : paymasterref14_Fold.f wd (l.map (leafNodeI wd)) = some (foldI wd (l.map (leafNodeI wd))) := by
      unfold paymasterref14_Fold.f
      rw [if_pos ⟨by rw [List.length_map]; exact HN.out, fun x hx => by
       obtain ⟨y, hy, rfl⟩ := List.mem_map.1 hx
       have := leafNodeI_ok wd y (HL.out y hy).ub
       exact ⟨this.h0, this.h1⟩⟩]
     have HFF := aM' ff
     clear ff
     obtain ⟨nodes, hnodes⟩ : ∃ n, n = l.map (leafNodeI wd) := ⟨_, rfl⟩
     rw [← hnodes] at HC2 HD2 HFF HF ⊢
     rcases hf : foldI wd nodes with ⟨r1, r2, r3, r4⟩
     rw [hf] at HFF HF
     have HNODES := aM' hnodes
     clear hf hnodes
     go_wp2_with fail
     refine (paymasterref14_Fold.calls wd A2 c2 nodes r1 r2 r3 r4 _ (HK.out.below HB2.out).1 HC2.out HD2.out HFF.out).mono ?_
     rintro e w3 ⟨rfl, hb⟩
     have HB3 := aM' (HB2.out.trans (hb.mono HB2.out.size))
     clear hb
     go_upto_region 11 with (fail)
     by_cases h4 : r4 = 0
     ·
      subst h4
      have HZ : Aside0 (newI wd l = 0) := ⟨HF.out.symm⟩
      obtain ⟨ad, rfl⟩ : ∃ ad, A = some ad := by
       obtain ⟨_, _, h3⟩ := HR.out
       obtain ⟨a, ha, _⟩ := h3 (by
        rcases Nat.eq_zero_or_pos l.length with h0 | h0
        ·
         have := HP.out; rw [h0] at this; exact absurd this (by decide)
        ·
         exact h0)
       exact ⟨a, ha⟩
      obtain ⟨W4, hW4⟩ : ∃ V, V = w3.alloc (.cells #[.string r1, .int .u64 r2, .int .u64 r3] 46) := ⟨_, rfl⟩
      have hB4 : Below w.heap.size w W4 := by rw [hW4]; exact below_alloc HB3.out _
      rw [← hW4]
      have HB4 := aM' hB4
      clear hW4 hB4
      go_wp2_with (at_builtin; refine wpList_append_own _ rfl _ _ 22 rfl W4.heap.size 36 i0 (.agg #[.bool false, .string ⟨#[]⟩, .string ⟨#[]⟩, .int .u64 0, .int .u64 0]) 5 56 Tryd.underlying22 hi hz0 hz1 hz2 rfl (by decide) _ 0 [] rfl (World.ownsRow_made W4 #[] 0 (Nat.le_refl _) (by decide) rfl) ad l.length c (cellsL l) rfl (cellsL_len l) ?c2 ?c3 ?c4 ?c5 ?c6 ?_)
      case c2 => exact leaves_news (Kd.C_below HR.out (below_alloc HB4.out _))
      case c3 => exact oneL l
      case c4 => have := HN.out; unfold maxLen; omega
      case c5 => have := HN.out; omega
      case c6 => simp
      intro v' w' hown hgr hnil
      have hpos : 0 < l.length := by
       rcases Nat.eq_zero_or_pos l.length with h0 | h0
       ·
        have := HP.out; rw [h0] at this; exact absurd this (by decide)
       ·
        exact h0
      obtain ⟨g, cap, rfl, -, hg⟩ := hown.form (by simpa using hpos)
      have hC5 := own_base hown HB4.out.size
      have hB5 : Below w.heap.size w w' := below_grown (below_alloc HB4.out _) hgr (fun r e => by have := Option.some.inj e; have := HB4.out.size; dsimp only at *; omega)
      have HC5 := aM' hC5
      have HB5 := aM' hB5
      clear hown hgr hnil hg hpos hC5 hB5
      go_wp2
      go_ret2
      refine ⟨below_alloc HB5.out _, .inl ⟨HZ.out, w'.heap.size, rfl, HB5.out.size, g, cap, blk_new _ _, by simpa using ownB HC5.out (below_alloc (Below.refl _ _) _)⟩⟩
     ·
      have b4 : (r4 != 0) = true := by simp [h4]
      have H4 := aM' h4
      clear h4
      go_wp2
      go_ret2
      exact RefPost.err HF.out.symm H4.out (below_alloc HB3.out _)
end Go.Proofs.YtfcodmdckcihmaaDoor.P
namespace Go.Proofs.YtfcodmdckcihmaaDoor.P
open Go.RowKit Go.Proofs.YtfcodmdckcihmaaDoorW.PrintWords Go.Proofs.YtfcodmdckcihmaaDoorW.PrintLast Go.Proofs.YtfcodmdckcihmaaDoorW.PrintMore
set_option linter.unusedVariables false
set_option linter.unusedSimpArgs false
set_option linter.unnecessarySimpa false
attribute [local go_sem] sel_true
structure NewOk (wd : Int) (l : List SLeaf) : Prop where
 w : 1 ≤ wd ∧ wd ≤ 32
 p : l.length = 2 ^ l.length.log2
 k : ∀ x ∈ l.map (leafNodeI wd), NodeK wd x
 t : totL (l.map (leafNodeI wd)) < 340282366920938463463374607431768211456
theorem newI_zero {wd : Int} {l : List SLeaf} (h : newI wd l = 0) (hl : ∀ x ∈ l, OkL x) : NewOk wd l := by
 unfold newI at h
 by_cases hw : wd < 1 ∨ 32 < wd
 ·
  rw [if_pos hw] at h; cases h
 rw [if_neg hw] at h
 cases hp : isPow l.length with
 | false => rw [hp, if_pos rfl] at h; cases h
 | true =>
  rw [hp, if_neg (by decide)] at h
  cases ha : l.all mayLeafI with
  | false => rw [ha, if_pos rfl] at h; cases h
  | true =>
   rw [ha, if_neg (by decide)] at h
   by_cases ht : totL (l.map (leafNodeI wd)) < 340282366920938463463374607431768211456
   ·
    refine ⟨by omega, ?_, ?_, ht⟩
    ·
     unfold isPow at hp
     exact (of_decide_eq_true hp).symm
    ·
     intro x hx
     obtain ⟨y, hy, rfl⟩ := List.mem_map.1 hx
     have h1 := List.all_eq_true.1 ha y hy
     refine ⟨?_, leafNodeI_ok wd y (hl y hy).ub⟩
     unfold leafNodeI
     rw [if_pos ⟨⟨by omega, by omega⟩, h1⟩]
     have e : ((dgI wd (leafTextI y)).size : Int) = wd := by rw [dgI_size _ _ (by omega) (by omega)]; omega
     simp only [nodeOf, e]
     simp
     omega
   ·
    rw [if_neg ht] at h; cases h
structure Rl3 (w W : World) (nodes : List SNode) (l : Nat → Bool) (A2 : Option Addr) (c2 : Nat) : Prop where
 hB : Below w.heap.size w W
 hg : l 8 = true → nodes.length ≤ c2 ∧ Kd.C kNode W A2 nodes.length nodes
 o9 : l 9 = true → l 8 = true
theorem Rl3.same {w W : World} {nodes : List SNode} {l : Nat → Bool} {A2 : Option Addr} {c2 : Nat} (h : Rl3 w W nodes l A2 c2) (i : Nat) (hi : i < 8) : Rl3 w W nodes (upd l i) A2 c2 := by
 have e8 : upd l i 8 = l 8 := upd_no (by omega)
 have e9 : upd l i 9 = l 9 := upd_no (by omega)
 exact ⟨h.hB, by rw [e8]; exact h.hg, by rw [e8, e9]; exact h.o9⟩
set_option maxRecDepth 100000 in
set_option maxHeartbeats 4000000 in
theorem refLevel.calls (gt : Nat) (wd : Int) (ls : List SLeaf) (n : Nat) (w : World) (hT : RefT gt wd ls w) (hn : ls.length ≤ 300) (hl : ∀ x ∈ ls, OkL x) (hk : NewOk wd ls) (hnK : n ≤ ls.length.log2) :
  Calls Tryd.prog 23 #[ptrT gt, .int .i64 (n : Int)] w fun e w' => (∃ A c, e = .returned (.slice A (upV wd n (ls.map (leafNodeI wd))).length c) ∧ (upV wd n (ls.map (leafNodeI wd))).length ≤ c ∧ Kd.C kNode w' A (upV wd n (ls.map (leafNodeI wd))).length (upV wd n (ls.map (leafNodeI wd)))) ∧ Below w.heap.size w w' := by
 have hu := Tryd.underlying118
 obtain ⟨kn, hkn⟩ := (refNodes_ev wd ls (by omega) (fun x hx => ⟨(hl x hx).id, (hl x hx).sa, (hl x hx).ub⟩)).rounds
 obtain ⟨nodes, hnodes⟩ : ∃ n, n = ls.map (leafNodeI wd) := ⟨_, rfl⟩
 have hnl : nodes.length = 2 ^ ls.length.log2 := by rw [hnodes, List.length_map]; exact hk.p
 have hkk := hk.k
 have hkt := hk.t
 rw [← hnodes] at hkn hkk hkt ⊢
 have HUP := aM' (fun i hi => up_ok hnl hkk hkt i hi)
 have HPR := aM' (fun i hi => up_pairs hnl hkk hkt i hi)
 obtain ⟨LA, cap, hb, hcap, hC⟩ := hT
 have HN := aM' hn
 have HBX := aM' hb
 have HCP := aM' hcap
 have HC := aM' hC
 have HKN := aM' hkn
 have HNK := aM' hnK
 have HNL := aM' (show nodes.length ≤ 300 by rw [hnodes, List.length_map]; exact hn)
 have b1 : decide ((n : Int) < 0) = false := decide_eq_false (by omega)
 clear hn hl hk hnK hkn hkk hkt hnl hb hcap hC hnodes
 go_enter Tryd.func23, Tryd.ntmps23
 go_upto_region 3 with (fail)
 clear b1
 refine region_inv (fun l a W => ∃ A2 : Option Addr, ∃ c2 : Nat, a = ({ tmps := #[ptrT gt, .int .i64 (n : Int), undef, undef, .slice none 0 0, sel (l 9) (.slice A2 nodes.length c2) (undef), undef, .int .i64 (n : Int), .bool false, sel (l 0) (ptrT gt) (undef), sel (l 1) (ptrT gt) (undef), sel (l 2) (.pointer (some ⟨gt, 0, none⟩)) (undef), sel (l 3) (.int .i64 wd) (undef), sel (l 4) (ptrT gt) (undef), sel (l 5) (ptrT gt) (undef), sel (l 6) (.pointer (some ⟨gt, 1, none⟩)) (undef), sel (l 7) (.slice LA ls.length cap) (undef), sel (l 8) (.slice A2 nodes.length c2) (undef), undef, undef, undef, undef, undef, undef, undef, undef, undef, undef, undef, undef], defers := [] } : Act) ∧ Rl3 w W nodes l A2 c2) 10 rfl rfl (by kernel_rfl) ?h0 ?hend ?hstep
 case h0 => exact ⟨none, 0, rfl, below_drew (Below.refl _ _), (fun h => by cases h), (fun h => by cases h)⟩
 case hstep =>
  refine rg_cons (rg_cons (rg_cons (rg_cons (rg_cons (rg_cons (rg_cons (rg_cons (rg_cons (rg_cons (rg_nil) ?s0) ?s1) ?s2) ?s3) ?s4) ?s5) ?s6) ?s7) ?s8) ?s9
  case s0 =>
   refine rg_step rfl ?_
   rintro l a W ⟨A2, c2, rfl, hI⟩ hl hd
   clear hd
   refine rg_val (v := ptrT gt) (w' := W) rfl (by go_simp) ?_
   refine ⟨A2, c2, ?_, ?_⟩
   ·
    simp only [Act.put, List.setIfInBounds_toArray, List.set_cons_zero, List.set_cons_succ]; rfl
   ·
    exact hI.same 0 (by decide)
  case s1 =>
   refine rg_step rfl ?_
   rintro l a W ⟨A2, c2, rfl, hI⟩ hl hd
   have d0 := hd 0 (by decide)
   clear hd
   refine rg_val (v := ptrT gt) (w' := W) rfl (by go_simp) ?_
   refine ⟨A2, c2, ?_, ?_⟩
   ·
    simp only [Act.put, List.setIfInBounds_toArray, List.set_cons_zero, List.set_cons_succ]; rfl
   ·
    exact hI.same 1 (by decide)
  case s2 =>
   refine rg_step rfl ?_
   rintro l a W ⟨A2, c2, rfl, hI⟩ hl hd
   have d1 := hd 1 (by decide)
   clear hd
   refine rg_val (v := .pointer (some ⟨gt, 0, none⟩)) (w' := W) rfl (by go_simp) ?_
   refine ⟨A2, c2, ?_, ?_⟩
   ·
    simp only [Act.put, List.setIfInBounds_toArray, List.set_cons_zero, List.set_cons_succ]; rfl
   ·
    exact hI.same 2 (by decide)
  case s3 =>
   refine rg_step rfl ?_
   rintro l a W ⟨A2, c2, rfl, hI⟩ hl hd
   have d2 := hd 2 (by decide)
   clear hd
   have x0 := blk_cell (blk_below HBX.out hI.hB) 0
   simp at x0
   refine rg_val (v := .int .i64 wd) (w' := W) rfl (by go_simp) ?_
   refine ⟨A2, c2, ?_, ?_⟩
   ·
    simp only [Act.put, List.setIfInBounds_toArray, List.set_cons_zero, List.set_cons_succ]; rfl
   ·
    exact hI.same 3 (by decide)
  case s4 =>
   refine rg_step rfl ?_
   rintro l a W ⟨A2, c2, rfl, hI⟩ hl hd
   clear hd
   refine rg_val (v := ptrT gt) (w' := W) rfl (by go_simp) ?_
   refine ⟨A2, c2, ?_, ?_⟩
   ·
    simp only [Act.put, List.setIfInBounds_toArray, List.set_cons_zero, List.set_cons_succ]; rfl
   ·
    exact hI.same 4 (by decide)
  case s5 =>
   refine rg_step rfl ?_
   rintro l a W ⟨A2, c2, rfl, hI⟩ hl hd
   have d4 := hd 4 (by decide)
   clear hd
   refine rg_val (v := ptrT gt) (w' := W) rfl (by go_simp) ?_
   refine ⟨A2, c2, ?_, ?_⟩
   ·
    simp only [Act.put, List.setIfInBounds_toArray, List.set_cons_zero, List.set_cons_succ]; rfl
   ·
    exact hI.same 5 (by decide)
  case s6 =>
   refine rg_step rfl ?_
   rintro l a W ⟨A2, c2, rfl, hI⟩ hl hd
   have d5 := hd 5 (by decide)
   clear hd
   refine rg_val (v := .pointer (some ⟨gt, 1, none⟩)) (w' := W) rfl (by go_simp) ?_
   refine ⟨A2, c2, ?_, ?_⟩
   ·
    simp only [Act.put, List.setIfInBounds_toArray, List.set_cons_zero, List.set_cons_succ]; rfl
   ·
    exact hI.same 6 (by decide)
  case s7 =>
   refine rg_step rfl ?_
   rintro l a W ⟨A2, c2, rfl, hI⟩ hl hd
   have d6 := hd 6 (by decide)
   clear hd
   have x1 := blk_cell (blk_below HBX.out hI.hB) 1
   simp at x1
   refine rg_val (v := .slice LA ls.length cap) (w' := W) rfl (by go_simp) ?_
   refine ⟨A2, c2, ?_, ?_⟩
   ·
    simp only [Act.put, List.setIfInBounds_toArray, List.set_cons_zero, List.set_cons_succ]; rfl
   ·
    exact hI.same 7 (by decide)
  case s8 =>
   refine rg_step rfl ?_
   rintro l a W ⟨A2, c2, rfl, hI⟩ hl hd
   have d3 := hd 3 (by decide)
   have d7 := hd 7 (by decide)
   clear hd
   have h9 : l 9 = false := by
    cases hx : l 9 with
    | false => rfl
    | true => exact absurd (hI.o9 hx) (by rw [hl]; decide)
   have h9' : upd l 8 9 = false := h9
   refine rg_call rfl (by go_simp; exact ⟨rfl, rfl⟩) ?_
   refine (paymasterref15_Nodes.calls kn wd LA cap ls nodes W (Kd.C_below HC.out hI.hB) HCP.out HKN.out).mono ?_
   rintro xx W' ⟨v, rfl, hv, hb⟩
   obtain ⟨A3, c3, rfl, hc3, hC3⟩ := Kd.R_reads hv
   refine ⟨_, rfl, A3, c3, ?_, ?_⟩
   ·
    simp only [Act.put, List.setIfInBounds_toArray, List.set_cons_zero, List.set_cons_succ, h9, h9']; rfl
   ·
    exact ⟨hI.hB.trans (hb.mono hI.hB.size), fun _ => ⟨hc3, hC3⟩, fun _ => rfl⟩
  case s9 =>
   refine rg_step rfl ?_
   rintro l a W ⟨A2, c2, rfl, hI⟩ hl hd
   have d8 := hd 8 (by decide)
   clear hd
   refine rg_val (v := .slice A2 nodes.length c2) (w' := W) rfl (by go_simp) ?_
   refine ⟨A2, c2, ?_, ?_⟩
   ·
    simp only [Act.put, List.setIfInBounds_toArray, List.set_cons_zero, List.set_cons_succ]; rfl
   ·
    exact ⟨hI.hB, hI.hg, fun _ => d8⟩
 case hend =>
  rintro l a W ⟨A2, c2, rfl, hI⟩ hall
  have e0 := hall 0 (by decide)
  have e1 := hall 1 (by decide)
  have e2 := hall 2 (by decide)
  have e3 := hall 3 (by decide)
  have e4 := hall 4 (by decide)
  have e5 := hall 5 (by decide)
  have e6 := hall 6 (by decide)
  have e7 := hall 7 (by decide)
  have e8 := hall 8 (by decide)
  have e9 := hall 9 (by decide)
  clear hall
  have hg8 := hI.hg e8
  simp only [e0, e1, e2, e3, e4, e5, e6, e7, e8, e9, sel_true]
  clear e0 e1 e2 e3 e4 e5 e6 e7 e8 e9
  have hB := hI.hB
  have HB := aM' hB
  have HG := aM' hg8
  clear hI hB hg8
  go_wp2
  go_loopw [5, 6] (fun v5 v6 wr => ∃ (i : Nat) (A : Option Addr) (c : Nat), v6 = .int .i64 (i : Int) ∧ v5 = .slice A (upV wd i nodes).length c ∧ Aside0 (i ≤ n) ∧ Aside0 ((upV wd i nodes).length ≤ c ∧ Kd.C kNode wr A (upV wd i nodes).length (upV wd i nodes)) ∧ Aside0 (Below w.heap.size w wr)) (fun _ v6 _ => n - (intOf v6).toNat)
  case atStart => exact ⟨0, A2, c2, rfl, rfl, ⟨Nat.zero_le _⟩, HG, HB⟩
  case round =>
   obtain ⟨i, A, c, rfl, rfl, HI, HR, HB2⟩ := hrel
   have hi2 : i ≤ 1000 := by
    have h1 := HI.out; have h2 := HNK.out; have h3 := HN.out
    have h4 : ls.length.log2 ≤ 300 := Nat.le_trans (Nat.log2_le_self _) h3
    omega
   by_cases hlt : i < n
   ·
    have b1 : decide ((i : Int) < (n : Int)) = true := decide_eq_true (by omega)
    have b2 : decide (i < n) = true := decide_eq_true hlt
    obtain ⟨m, hm, hok⟩ := HPR.out i (by have := HNK.out; omega)
    obtain ⟨q1, q2, q3⟩ := HUP.out i (by have := HNK.out; omega)
    have hle : (upV wd i nodes).length ≤ 1024 := by
     have h1 := (HUP.out 0 (Nat.zero_le _)).1
     have h2 : 2 ^ (ls.length.log2 - i) ≤ 2 ^ (ls.length.log2 - 0) := Nat.pow_le_pow_right (by decide) (by omega)
     have h3 : (upV wd 0 nodes).length ≤ 300 := HNL.out
     omega
    obtain ⟨ku, hku⟩ := (refUp_ev wd (upV wd i nodes) m hm hle q2 hok).rounds
    rw [← upV_succ] at hku
    have HKU := aM' hku
    have x0 := blk_cell (blk_below HBX.out HB2.out) 0
    simp at x0
    clear hm hok q1 q2 q3 hle hku
    go_wp2_with fail
    refine (paymasterref15_Up.calls ku wd A c (upV wd i nodes) _ _ HR.out.2 HR.out.1 HKU.out).mono ?_
    rintro e w3 ⟨v, rfl, hv, hb⟩
    obtain ⟨A3, c3, rfl, hc3, hC3⟩ := Kd.R_reads hv
    have HB3 := aM' (HB2.out.trans (hb.mono HB2.out.size))
    have HC3 := aM' (And.intro hc3 hC3)
    clear hb hv hc3 hC3 x0
    go_wp2
    go_roundw
    case rel => exact ⟨i + 1, A3, c3, by go_num, rfl, ⟨by omega⟩, HC3, HB3⟩
    case measure => simp [intOf]; omega
   ·
    obtain rfl : i = n := by have := HI.out; omega
    have b1 : decide ((i : Int) < (i : Int)) = false := decide_eq_false (by omega)
    have b2 : decide (i < i) = false := decide_eq_false hlt
    go_wp2
    go_ret
    exact ⟨⟨A, c, rfl, HR.out.1, HR.out.2⟩, HB2.out⟩
end Go.Proofs.YtfcodmdckcihmaaDoor.P
namespace Go.Proofs.YtfcodmdckcihmaaDoor.P
open Go.RowKit Go.Proofs.YtfcodmdckcihmaaDoorW.PrintWords Go.Proofs.YtfcodmdckcihmaaDoorW.PrintLast Go.Proofs.YtfcodmdckcihmaaDoorW.PrintMore
set_option linter.unusedVariables false
set_option linter.unusedSimpArgs false
set_option linter.unnecessarySimpa false
attribute [local go_sem] sel_true
structure RrS (w W2 W : World) (x : SNode) (m : Int) (l : Nat → Bool) : Prop where
 hC : l 10 = false → Below W2.heap.size W2 W
 hz : W.heap[w.heap.size]? = some (.cells (if l 10 = true then #[.string x.f0, .int .u64 x.f1.f0, .int .u64 x.f1.f1, .int .i64 m] else #[.string ⟨#[]⟩, .int .u64 0, .int .u64 0, .int .i64 0]) 41 (0, 0))
 hD : Below w.heap.size w W
 ho : l 10 = true → ∀ i, i < 10 → l i = true
theorem RrS.no {w W2 W : World} {x : SNode} {m : Int} {l : Nat → Bool} (h : RrS w W2 W x m l) {i : Nat} (hi : i < 10) (hl : l i = false) : l 10 = false := by
 cases h7 : l 10 with
 | false => rfl
 | true => rw [h.ho h7 i hi] at hl; cases hl
theorem RrS.other {w W2 W : World} {x : SNode} {m : Int} {l : Nat → Bool} (h : RrS w W2 W x m l) (i : Nat) (hi : i < 10) (hl : l i = false) : RrS w W2 W x m (upd l i) := by
 have h7 := h.no hi hl
 have e : upd l i 10 = l 10 := upd_no (by omega)
 refine ⟨fun _ => h.hC h7, by rw [e]; exact h.hz, h.hD, fun h' => by rw [e, h7] at h'; cases h'⟩
theorem RrS.store {w W2 W : World} {x : SNode} {m : Int} {l : Nat → Bool} (h : RrS w W2 W x m l) (h7 : l 10 = false) (ha : ∀ i, i < 10 → l i = true) :
  RrS w W2 ((((W.setCell ⟨w.heap.size, 0, none⟩ (.string x.f0)).setCell ⟨w.heap.size, 1, none⟩ (.int .u64 x.f1.f0)).setCell ⟨w.heap.size, 2, none⟩ (.int .u64 x.f1.f1)).setCell ⟨w.heap.size, 3, none⟩ (.int .i64 m)) x m (upd l 10) := by
 have hz := h.hz
 rw [h7, if_neg (by decide)] at hz
 have e : upd l 10 10 = true := rfl
 refine ⟨(fun h' => by rw [e] at h'; cases h'), ?_, below_set (below_set (below_set (below_set h.hD (Nat.le_refl _)) (Nat.le_refl _)) (Nat.le_refl _)) (Nat.le_refl _), fun _ i hi => by rw [upd_no (by omega)]; exact ha i hi⟩
 rw [e, if_pos rfl]
 exact blk_put (cs' := #[.string x.f0, .int .u64 x.f1.f0, .int .u64 x.f1.f1, .int .i64 m]) (blk_put (cs' := #[.string x.f0, .int .u64 x.f1.f0, .int .u64 x.f1.f1, .int .i64 0]) (blk_put (cs' := #[.string x.f0, .int .u64 x.f1.f0, .int .u64 0, .int .i64 0]) (blk_put (cs' := #[.string x.f0, .int .u64 0, .int .u64 0, .int .i64 0]) hz 0 (.string x.f0) rfl) 1 (.int .u64 x.f1.f0) rfl) 2 (.int .u64 x.f1.f1) rfl) 3 (.int .i64 m) rfl
theorem levels_top (wd : Int) (ls : List SLeaf) : topI (treeT wd ls) = (upV wd ls.length.log2 (ls.map (leafNodeI wd))).headD nodeZ := by
 have h : (treeT wd ls).rows = levelsV wd ls.length.log2 (ls.map (leafNodeI wd)) := rfl
 unfold topI
 rw [h, levelsV_len, Nat.add_sub_cancel, List.getD_eq_getElem?_getD, levelsV_get wd _ _ _ (Nat.le_refl _)]
 rfl
theorem hgt_ok {wd : Int} {ls : List SLeaf} (hk : NewOk wd ls) : hgtI ls.length = (ls.length.log2 : Int) := by
 unfold hgtI isPow
 rw [if_pos (decide_eq_true hk.p.symm)]
set_option maxRecDepth 100000 in
set_option maxHeartbeats 4000000 in
theorem refRoot.calls (gt : Nat) (wd : Int) (ls : List SLeaf) (w : World) (hT : RefT gt wd ls w) (hn : ls.length ≤ 300) (hl : ∀ x ∈ ls, OkL x) (hk : NewOk wd ls) :
  Calls Tryd.prog 22 #[ptrT gt] w fun e w' => e = .returned (rootV (treeT wd ls)) ∧ Below w.heap.size w w' := by
 have hu := Tryd.underlying118
 have hu4 := Tryd.underlying46
 have hu5 := Tryd.underlying41
 have hrl : ((treeT wd ls).rows.length : Int) - 1 = (ls.length.log2 : Int) := by
  have h : (treeT wd ls).rows = levelsV wd ls.length.log2 (ls.map (leafNodeI wd)) := rfl
  rw [h, levelsV_len]; omega
 unfold rootV
 rw [hrl, levels_top]
 have HH := aM' (refHeight_eq ls.length (by omega))
 have hg := hgt_ok hk
 rw [hg] at HH
 have HLV := aM' (fun V hV => refLevel.calls gt wd ls ls.length.log2 V hV hn hl hk (Nat.le_refl _))
 have hup := (up_ok (K := ls.length.log2) (by rw [List.length_map]; exact hk.p) hk.k hk.t ls.length.log2 (Nat.le_refl _)).1
 rw [Nat.sub_self] at hup
 have HTT := aM' hT
 obtain ⟨lt, hlt⟩ : ∃ t, t = upV wd ls.length.log2 (ls.map (leafNodeI wd)) := ⟨_, rfl⟩
 rw [← hlt] at hup HLV ⊢
 obtain ⟨m, hm⟩ : ∃ m, m = ls.length.log2 := ⟨_, rfl⟩
 have HUP := aM' hup
 rw [← hm] at HH HLV ⊢
 obtain ⟨x, hx⟩ : ∃ x, x = lt.headD nodeZ := ⟨_, rfl⟩
 rw [← hx]
 have HX := aM' hx
 clear hx
 have hb0 := below_alloc (Below.refl w.heap.size w) (.cells #[.string ⟨#[]⟩, .int .u64 0, .int .u64 0, .int .i64 0] 41)
 obtain ⟨LA, cap, hb, hcap, hC⟩ := hT.below hb0
 have hbx := blk_cell hb 1
 simp at hbx
 have HB0 := aM' hb0
 clear hT hn hl hk hrl hg hup hlt hm hb hcap hC hb0
 go_enter Tryd.func22, Tryd.ntmps22
 go_wp2_with fail
 refine (paymasterref15_Height.calls 12 (ls.length : Int) _ _ HH.out).mono ?_
 rintro e w1 ⟨rfl, hd⟩
 obtain ⟨nd, rfl⟩ := hd
 have hB1 := pw_below_drewN HB0.out nd
 have HB1 := aM' hB1
 have HZ1 := aM' (blk_below (blk_new w (.cells #[.string ⟨#[]⟩, .int .u64 0, .int .u64 0, .int .i64 0] 41)) (pw_below_drewN (Below.refl _ _) nd))
 clear hB1 hbx
 go_wp2_with fail
 refine (HLV.out _ (HTT.out.below HB1.out)).mono ?_
 rintro e w2 ⟨⟨A, c, rfl, hc, hC⟩, hb⟩
 have HB2 := aM' (HB1.out.trans (hb.mono HB1.out.size))
 have HZ2 := aM' (blk_below HZ1.out hb)
 obtain ⟨ad, e1, p0, p1, p2⟩ := at_TNode hC 0 (by omega) (by have := HUP.out; omega)
 subst e1
 have e3 : rd_TNode lt 0 = lt.headD nodeZ := by cases lt with | nil => rfl | cons y l => rfl
 have ea : ad.add (Int.toNat 0 * 3) = ad := by cases ad; simp [Addr.add]
 rw [e3, ea, ← HX.out] at p0 p1 p2
 have HP := aM' (And.intro p0 (And.intro p1 p2))
 generalize hL : lt.length = L at *
 have hL1 : 1 ≤ L := by have := HUP.out; omega
 clear hc hC hb p0 p1 p2 e3 ea
 go_upto_region 3 with (fail)
 refine region_inv (fun l a W => a = ({ tmps := #[ptrT gt, undef, .pointer (some ⟨w.heap.size, 0, none⟩), .int .i64 (m : Int), .slice (some ad) L c, ptrT gt, .pointer (some ⟨gt, 0, none⟩), .pointer (some ⟨gt, 1, none⟩), .slice LA ls.length cap, .int .i64 (ls.length : Int), .int .i64 (m : Int), ptrT gt, .int .i64 (m : Int), .slice (some ad) L c, sel (l 0) (.slice (some ad) L c) (undef), sel (l 1) (.pointer (some ad)) (undef), sel (l 2) (.pointer (some ad)) (undef), sel (l 3) (.string x.f0) (undef), sel (l 4) (.slice (some ad) L c) (undef), sel (l 5) (.pointer (some ad)) (undef), sel (l 6) (.pointer (some ⟨ad.block, ad.off + 1, none⟩)) (undef), sel (l 7) (.agg #[.int .u64 x.f1.f0, .int .u64 x.f1.f1]) (undef), sel (l 8) (.int .i64 (m : Int)) (undef), sel (l 9) (.agg #[.string x.f0, .int .u64 x.f1.f0, .int .u64 x.f1.f1, .int .i64 (m : Int)]) (undef)], defers := [] } : Act) ∧ RrS w w2 W x (m : Int) l) 11 rfl rfl (by kernel_rfl) ?h0 ?hend ?hstep
 case h0 => exact ⟨rfl, ⟨fun _ => below_drew (Below.refl _ _), by rw [if_neg (by decide)]; exact blk_below HZ2.out (below_drew (Below.refl _ _)), below_drew HB2.out, fun h => by cases h⟩⟩
 case hstep =>
  refine rg_cons (rg_cons (rg_cons (rg_cons (rg_cons (rg_cons (rg_cons (rg_cons (rg_cons (rg_cons (rg_cons (rg_nil) ?s0) ?s1) ?s2) ?s3) ?s4) ?s5) ?s6) ?s7) ?s8) ?s9) ?s10
  case s0 =>
   refine rg_step rfl ?_
   rintro l a W ⟨rfl, hI⟩ hl hd
   clear hd
   refine rg_val (v := .slice (some ad) L c) (w' := W) rfl (by go_simp) ?_
   refine ⟨?_, ?_⟩
   ·
    simp only [Act.put, List.setIfInBounds_toArray, List.set_cons_zero, List.set_cons_succ]; rfl
   ·
    exact hI.other 0 (by decide) hl
  case s1 =>
   refine rg_step rfl ?_
   rintro l a W ⟨rfl, hI⟩ hl hd
   have d0 := hd 0 (by decide)
   clear hd
   refine rg_val (v := .pointer (some ad)) (w' := W) rfl (by go_simp; intro h; omega) ?_
   refine ⟨?_, ?_⟩
   ·
    simp only [Act.put, List.setIfInBounds_toArray, List.set_cons_zero, List.set_cons_succ]; rfl
   ·
    exact hI.other 1 (by decide) hl
  case s2 =>
   refine rg_step rfl ?_
   rintro l a W ⟨rfl, hI⟩ hl hd
   have d1 := hd 1 (by decide)
   clear hd
   refine rg_val (v := .pointer (some ad)) (w' := W) rfl (by go_simp) ?_
   refine ⟨?_, ?_⟩
   ·
    simp only [Act.put, List.setIfInBounds_toArray, List.set_cons_zero, List.set_cons_succ]; rfl
   ·
    exact hI.other 2 (by decide) hl
  case s3 =>
   refine rg_step rfl ?_
   rintro l a W ⟨rfl, hI⟩ hl hd
   have d2 := hd 2 (by decide)
   clear hd
   have hb := hI.hC (hI.no (show 3 < 10 by decide) hl)
   have y0 := pw_cell_below hb HP.out.1
   refine rg_val (v := .string x.f0) (w' := W) rfl (by go_simp) ?_
   refine ⟨?_, ?_⟩
   ·
    simp only [Act.put, List.setIfInBounds_toArray, List.set_cons_zero, List.set_cons_succ]; rfl
   ·
    exact hI.other 3 (by decide) hl
  case s4 =>
   refine rg_step rfl ?_
   rintro l a W ⟨rfl, hI⟩ hl hd
   clear hd
   refine rg_val (v := .slice (some ad) L c) (w' := W) rfl (by go_simp) ?_
   refine ⟨?_, ?_⟩
   ·
    simp only [Act.put, List.setIfInBounds_toArray, List.set_cons_zero, List.set_cons_succ]; rfl
   ·
    exact hI.other 4 (by decide) hl
  case s5 =>
   refine rg_step rfl ?_
   rintro l a W ⟨rfl, hI⟩ hl hd
   have d4 := hd 4 (by decide)
   clear hd
   refine rg_val (v := .pointer (some ad)) (w' := W) rfl (by go_simp; intro h; omega) ?_
   refine ⟨?_, ?_⟩
   ·
    simp only [Act.put, List.setIfInBounds_toArray, List.set_cons_zero, List.set_cons_succ]; rfl
   ·
    exact hI.other 5 (by decide) hl
  case s6 =>
   refine rg_step rfl ?_
   rintro l a W ⟨rfl, hI⟩ hl hd
   have d5 := hd 5 (by decide)
   clear hd
   refine rg_val (v := .pointer (some ⟨ad.block, ad.off + 1, none⟩)) (w' := W) rfl (by go_simp) ?_
   refine ⟨?_, ?_⟩
   ·
    simp only [Act.put, List.setIfInBounds_toArray, List.set_cons_zero, List.set_cons_succ]; rfl
   ·
    exact hI.other 6 (by decide) hl
  case s7 =>
   refine rg_step rfl ?_
   rintro l a W ⟨rfl, hI⟩ hl hd
   have d6 := hd 6 (by decide)
   clear hd
   have hb := hI.hC (hI.no (show 7 < 10 by decide) hl)
   have y1 := pw_cell_below hb HP.out.2.1
   have y2 := pw_cell_below hb HP.out.2.2
   refine rg_val (v := .agg #[.int .u64 x.f1.f0, .int .u64 x.f1.f1]) (w' := W) rfl (by go_simp) ?_
   refine ⟨?_, ?_⟩
   ·
    simp only [Act.put, List.setIfInBounds_toArray, List.set_cons_zero, List.set_cons_succ]; rfl
   ·
    exact hI.other 7 (by decide) hl
  case s8 =>
   refine rg_step rfl ?_
   rintro l a W ⟨rfl, hI⟩ hl hd
   clear hd
   refine rg_val (v := .int .i64 (m : Int)) (w' := W) rfl (by go_simp) ?_
   refine ⟨?_, ?_⟩
   ·
    simp only [Act.put, List.setIfInBounds_toArray, List.set_cons_zero, List.set_cons_succ]; rfl
   ·
    exact hI.other 8 (by decide) hl
  case s9 =>
   refine rg_step rfl ?_
   rintro l a W ⟨rfl, hI⟩ hl hd
   have d3 := hd 3 (by decide)
   have d7 := hd 7 (by decide)
   have d8 := hd 8 (by decide)
   clear hd
   refine rg_val (v := .agg #[.string x.f0, .int .u64 x.f1.f0, .int .u64 x.f1.f1, .int .i64 (m : Int)]) (w' := W) rfl (by go_simp) ?_
   refine ⟨?_, ?_⟩
   ·
    simp only [Act.put, List.setIfInBounds_toArray, List.set_cons_zero, List.set_cons_succ]; rfl
   ·
    exact hI.other 9 (by decide) hl
  case s10 =>
   refine rg_step rfl ?_
   rintro l a W ⟨rfl, hI⟩ hl hd
   have d0 := hd 0 (by decide)
   have d1 := hd 1 (by decide)
   have d2 := hd 2 (by decide)
   have d3 := hd 3 (by decide)
   have d4 := hd 4 (by decide)
   have d5 := hd 5 (by decide)
   have d6 := hd 6 (by decide)
   have d7 := hd 7 (by decide)
   have d8 := hd 8 (by decide)
   have d9 := hd 9 (by decide)
   clear hd
   have hz := hI.hz
   rw [show l 10 = false from hl, if_neg (by decide)] at hz
   have z0 := blk_cell hz 0
   have z1 := blk_cell hz 1
   have z2 := blk_cell hz 2
   have z3 := blk_cell hz 3
   have zf := fun i => blk_frozen hz i
   simp at z0 z1 z2 z3
   refine rg_skip rfl (by go_simp; rfl) ?_
   refine ⟨?_, ?_⟩
   ·
    simp only [Act.put, List.setIfInBounds_toArray, List.set_cons_zero, List.set_cons_succ]; rfl
   ·
    exact hI.store hl (fun i hi => by match i, hi with | 0, _ => exact d0 | 1, _ => exact d1 | 2, _ => exact d2 | 3, _ => exact d3 | 4, _ => exact d4 | 5, _ => exact d5 | 6, _ => exact d6 | 7, _ => exact d7 | 8, _ => exact d8 | 9, _ => exact d9)
 case hend =>
  rintro l a W ⟨rfl, hI⟩ hall
  have e0 := hall 0 (by decide)
  have e1 := hall 1 (by decide)
  have e2 := hall 2 (by decide)
  have e3 := hall 3 (by decide)
  have e4 := hall 4 (by decide)
  have e5 := hall 5 (by decide)
  have e6 := hall 6 (by decide)
  have e7 := hall 7 (by decide)
  have e8 := hall 8 (by decide)
  have e9 := hall 9 (by decide)
  have e10 := hall 10 (by decide)
  clear hall
  have hx10 := e10
  simp only [e0, e1, e2, e3, e4, e5, e6, e7, e8, e9, e10, sel_true]
  clear e0 e1 e2 e3 e4 e5 e6 e7 e8 e9 e10
  have hz := hI.hz
  rw [if_pos hx10] at hz
  have z0 := blk_cell hz 0
  have z1 := blk_cell hz 1
  have z2 := blk_cell hz 2
  have z3 := blk_cell hz 3
  simp at z0 z1 z2 z3
  have HBF := aM' hI.hD
  clear hI hz hx10
  go_wp2
  refine bodyPost_ret (v := .agg #[.string x.f0, .int .u64 x.f1.f0, .int .u64 x.f1.f1, .int .i64 (m : Int)]) ?_ rfl ⟨rfl, HBF.out⟩
  simp [results, Tryd.results22, go_sem, hu5, z0, z1, z2, z3]
theorem nodeAt_tree (wd : Int) (ls : List SLeaf) (n : Nat) (hn : n ≤ ls.length.log2) (p : Int) : nodeAtI (treeT wd ls) (n : Int) p = ((upV wd n (ls.map (leafNodeI wd))).getD p.toNat nodeZ, decide (p.toNat < (upV wd n (ls.map (leafNodeI wd))).length)) := by
 have h : (treeT wd ls).rows = levelsV wd ls.length.log2 (ls.map (leafNodeI wd)) := rfl
 have hg : (levelsV wd ls.length.log2 (ls.map (leafNodeI wd))).getD n [] = upV wd n (ls.map (leafNodeI wd)) := by rw [List.getD_eq_getElem?_getD, levelsV_get wd _ _ _ hn]; rfl
 unfold nodeAtI
 rw [h, levelsV_len, if_pos ⟨by omega, by omega⟩, Int.toNat_natCast, hg]
theorem nodeAt_out (wd : Int) (ls : List SLeaf) (n p : Int) (h : n < 0 ∨ (ls.length.log2 : Int) < n) : nodeAtI (treeT wd ls) n p = (nodeZ, false) := by
 have h2 : (treeT wd ls).rows = levelsV wd ls.length.log2 (ls.map (leafNodeI wd)) := rfl
 unfold nodeAtI
 rw [h2, levelsV_len, if_neg (by omega)]
set_option maxRecDepth 100000 in
set_option maxHeartbeats 4000000 in
theorem refNode.calls (gt : Nat) (wd : Int) (ls : List SLeaf) (n p : Int) (w : World) (hT : RefT gt wd ls w) (hn : ls.length ≤ 300) (hl : ∀ x ∈ ls, OkL x) (hk : NewOk wd ls) (hp : 0 ≤ p) (hn64 : -9223372036854775808 ≤ n ∧ n ≤ 9223372036854775807) :
  Calls Tryd.prog 25 #[ptrT gt, .int .i64 n, .int .u64 p] w fun e w' => e = .returned (.tuple #[nodeV (nodeAtI (treeT wd ls) n p).1, .bool (nodeAtI (treeT wd ls) n p).2]) ∧ Below w.heap.size w w' := by
 have hu := Tryd.underlying118
 have hu4 := Tryd.underlying46
 have HH := aM' (refHeight_eq ls.length (by omega))
 have hg := hgt_ok hk
 rw [hg] at HH
 have hb0 := below_alloc (Below.refl w.heap.size w) (.cells #[.string ⟨#[]⟩, .int .u64 0, .int .u64 0] 46)
 have HTT := aM' hT
 obtain ⟨LA, cap, hb, hcap, hC⟩ := hT.below hb0
 have hbx := blk_cell hb 1
 simp at hbx
 have HB0 := aM' hb0
 by_cases h0 : n < 0
 ·
  have b0 : decide (n < 0) = true := decide_eq_true h0
  rw [nodeAt_out wd ls n p (.inl h0)]
  clear hT hn hl hk hg hb hcap hC hb0 h0
  go_enter Tryd.func25, Tryd.ntmps25
  go_wp2
  refine bodyPost_ret (v := .tuple #[nodeV nodeZ, .bool false]) ?_ rfl ⟨rfl, ?_⟩
  ·
   simp [results, Tryd.results25, go_sem, hu4]
  ·
   (repeat (with_reducible first | exact Below.refl _ _ | apply below_alloc | refine below_set ?_ (by (try dsimp only); omega)))
 ·
  have b0 : decide (n < 0) = false := decide_eq_false h0
  by_cases h1 : (ls.length.log2 : Int) < n
  ·
   have b1 : decide ((ls.length.log2 : Int) < n) = true := decide_eq_true h1
   rw [nodeAt_out wd ls n p (.inr h1)]
   generalize ls.length.log2 = m at b1 HH h1
   clear hT hn hl hk hg hb hcap hC hb0 h0 h1
   go_enter Tryd.func25, Tryd.ntmps25
   go_wp2_with fail
   refine (paymasterref15_Height.calls 12 (ls.length : Int) _ _ HH.out).mono ?_
   rintro e w1 ⟨rfl, hd⟩
   obtain ⟨nd, rfl⟩ := hd
   have HB1 := aM' (pw_below_drewN HB0.out nd)
   have hz := blk_below (blk_new w (.cells #[.string ⟨#[]⟩, .int .u64 0, .int .u64 0] 46)) (pw_below_drewN (Below.refl _ _) nd)
   have z0 := blk_cell hz 0
   have z1 := blk_cell hz 1
   have z2 := blk_cell hz 2
   have zf := fun i => blk_frozen hz i
   simp at z0 z1 z2
   clear hbx hz
   go_wp2
   refine bodyPost_ret (v := .tuple #[nodeV nodeZ, .bool false]) ?_ rfl ⟨rfl, ?_⟩
   ·
    simp [results, Tryd.results25, go_sem, hu4, z0, z1, z2]
   ·
    first | exact HB1.out | exact below_set (below_set (below_set HB1.out (Nat.le_refl _)) (Nat.le_refl _)) (Nat.le_refl _)
  ·
   have b1 : decide ((ls.length.log2 : Int) < n) = false := decide_eq_false h1
   obtain ⟨k, rfl⟩ := Int.eq_ofNat_of_zero_le (show 0 ≤ n by omega)
   obtain ⟨q, rfl⟩ := Int.eq_ofNat_of_zero_le hp
   have hkm : k ≤ ls.length.log2 := by omega
   rw [nodeAt_tree wd ls k hkm]
   have HLV := aM' (fun V hV => refLevel.calls gt wd ls k V hV hn hl hk hkm)
   have hup := (up_ok (K := ls.length.log2) (by rw [List.length_map]; exact hk.p) hk.k hk.t k hkm).1
   have hle : (upV wd k (ls.map (leafNodeI wd))).length ≤ 300 := by
    rw [hup]
    have h2 : 2 ^ (ls.length.log2 - k) ≤ 2 ^ ls.length.log2 := Nat.pow_le_pow_right (by decide) (by omega)
    have h3 := hk.p
    omega
   generalize upV wd k (ls.map (leafNodeI wd)) = lt at HLV hle ⊢
   rw [Int.toNat_natCast]
   have b1' : decide (ls.length.log2 < k) = false := decide_eq_false (by omega)
   generalize ls.length.log2 = m at b1 b1' HH h1 hkm
   have HLE := aM' hle
   obtain ⟨rx, hrx⟩ : ∃ r, r = lt.getD q nodeZ := ⟨_, rfl⟩
   obtain ⟨rb, hrb⟩ : ∃ b, b = decide (q < lt.length) := ⟨_, rfl⟩
   rw [← hrx, ← hrb]
   have HRX := aM' hrx
   have HRB := aM' hrb
   clear hrx hrb
   clear hT hn hl hk hg hb hcap hC hb0 h0 h1 hup hle hkm
   go_enter Tryd.func25, Tryd.ntmps25
   go_wp2_with fail
   refine (paymasterref15_Height.calls 12 (ls.length : Int) _ _ HH.out).mono ?_
   rintro e w1 ⟨rfl, hd⟩
   obtain ⟨nd, rfl⟩ := hd
   have HB1 := aM' (pw_below_drewN HB0.out nd)
   have HZ1 := aM' (blk_below (blk_new w (.cells #[.string ⟨#[]⟩, .int .u64 0, .int .u64 0] 46)) (pw_below_drewN (Below.refl _ _) nd))
   clear hbx
   go_wp2_with fail
   refine (HLV.out _ (HTT.out.below HB1.out)).mono ?_
   rintro e w2 ⟨⟨A, c, rfl, hc, hC⟩, hb⟩
   have HB2 := aM' (HB1.out.trans (hb.mono HB1.out.size))
   have hz := blk_below HZ1.out hb
   have z0 := blk_cell hz 0
   have z1 := blk_cell hz 1
   have z2 := blk_cell hz 2
   have zf := fun i => blk_frozen hz i
   simp at z0 z1 z2
   have hw : IntKind.u64.wrap ((lt.length : Nat) : Int) = (lt.length : Int) := wrapu64_id (by omega) (by have := HLE.out; omega)
   clear b0 b1 hz hb
   by_cases hq : q < lt.length
   ·
    obtain ⟨ad, e1, p0, p1, p2⟩ := at_TNode hC (q : Int) (by omega) (by omega)
    subst e1
    rw [rdNode_nat lt q hq, Int.toNat_natCast] at p0 p1 p2
    have e2 : lt[q] = rx := by rw [HRX.out]; simp [List.getD_eq_getElem?_getD, hq]
    rw [e2] at p0 p1 p2
    have b0 : decide ((lt.length : Int) ≤ (q : Int)) = false := decide_eq_false (by omega)
    have b1 : decide (lt.length ≤ q) = false := decide_eq_false (by omega)
    have HB9 : Aside0 (rb = true) := ⟨by rw [HRB.out]; exact decide_eq_true hq⟩
    clear hC hc e2
    go_wp2
    refine bodyPost_ret (v := .tuple #[nodeV rx, .bool true]) ?_ rfl ⟨by rw [HB9.out], ?_⟩
    ·
     simp [results, Tryd.results25, go_sem, hu4, z0, z1, z2]
    ·
     exact below_set (below_set (below_set HB2.out (Nat.le_refl _)) (Nat.le_refl _)) (Nat.le_refl _)
   ·
    have b0 : decide ((lt.length : Int) ≤ (q : Int)) = true := decide_eq_true (by omega)
    have b1 : decide (lt.length ≤ q) = true := decide_eq_true (by omega)
    have HB9 : Aside0 (rb = false ∧ rx = nodeZ) := ⟨by rw [HRB.out]; exact decide_eq_false hq, by rw [HRX.out]; simp [List.getD_eq_getElem?_getD, show lt.length ≤ q by omega]⟩
    clear hC hc
    go_wp2
    refine bodyPost_ret (v := .tuple #[nodeV nodeZ, .bool false]) ?_ rfl ⟨by rw [HB9.out.1, HB9.out.2], ?_⟩
    ·
     simp [results, Tryd.results25, go_sem, hu4, z0, z1, z2]
    ·
     first | exact HB2.out | exact below_set (below_set (below_set HB2.out (Nat.le_refl _)) (Nat.le_refl _)) (Nat.le_refl _)
end Go.Proofs.YtfcodmdckcihmaaDoor.P
namespace Go.Proofs.YtfcodmdckcihmaaDoor.P
open Go.RowKit Go.Proofs.YtfcodmdckcihmaaDoorW.PrintWords Go.Proofs.YtfcodmdckcihmaaDoorW.PrintLast Go.Proofs.YtfcodmdckcihmaaDoorW.PrintMore
set_option linter.unusedVariables false
set_option linter.unusedSimpArgs false
set_option linter.unnecessarySimpa false
theorem TreeOwn.far {base a gl cl : Nat} {VV : Value} {gs : List RowG} {T : STree} {W W' : World} (h : TreeOwn base W a T gl cl VV gs) (hk : ∀ k, base ≤ k → k < W.heap.size → W'.heap[k]? = W.heap[k]?) : TreeOwn base W' a T gl cl VV gs := by
 have hg := h.hl.lt gl rfl
 exact ⟨(hk a h.lo (blk_lt h.ht)).trans h.ht, own_keep h.hl (hk gl hg.1 hg.2), ownAny_keep h.hv (fun g hgg => hk g (h.hv.lt g hgg).1 (h.hv.lt g hgg).2), h.hg.keep (fun k hm => hk k (h.hg.lt k hm).1 (h.hg.lt k hm).2), h.ap, h.av, h.lo⟩
theorem cellsV_get : ∀ (i n : Nat) (gs : List RowG) (rs : List (List SNode)) (p : RowG) (r : List SNode), gs[n]? = some p → rs[n]? = some r → (cellsV i gs rs)[n * 2]? = some (rowV p r) ∧ (cellsV i gs rs)[n * 2 + 1]? = some (.int .i64 ((i + n : Nat) : Int))
 | i, n, [], rs, p, r, h, _ => by simp at h
 | i, n, q :: gs, [], p, r, _, h => by simp at h
 | i, 0, q :: gs, s :: rs, p, r, h1, h2 => by
  obtain rfl := Option.some.inj h1
  obtain rfl := Option.some.inj h2
  exact ⟨rfl, rfl⟩
 | i, n + 1, q :: gs, s :: rs, p, r, h1, h2 => by
  have := cellsV_get (i + 1) n gs rs p r (by simpa using h1) (by simpa using h2)
  rw [cellsV, show (n + 1) * 2 = n * 2 + 2 by omega]
  simp only [List.getElem?_cons_succ]
  refine ⟨this.1, ?_⟩
  rw [this.2, show i + 1 + n = i + (n + 1) by omega]
theorem OwnRows.get {W : World} {base : Nat} : ∀ {gs : List RowG} {rs : List (List SNode)} {n : Nat} {r : List SNode}, OwnRows W base gs rs → rs[n]? = some r → ∃ p, gs[n]? = some p ∧ W.ownsRow base 46 3 (rowV p r) r.length (cellsN r)
 | [], [], n, r, _, h => by simp at h
 | p :: gs, s :: rs, 0, r, h, hr => by
  obtain rfl := Option.some.inj hr
  exact ⟨p, rfl, h.1⟩
 | p :: gs, s :: rs, n + 1, r, h, hr => by
  obtain ⟨q, h1, h2⟩ := h.2.get (n := n) (by simpa using hr)
  exact ⟨q, by simpa using h1, h2⟩
theorem TreeOwn.read {base a gl cl : Nat} {VV : Value} {gs : List RowG} {T : STree} {W : World} (h : TreeOwn base W a T gl cl VV gs) (hl : 1 ≤ T.leaves.length ∧ T.leaves.length ≤ 1024) (hv : 1 ≤ T.rows.length ∧ T.rows.length ≤ 11) (hr : ∀ r ∈ T.rows, 1 ≤ r.length ∧ r.length ≤ 1024) : TreeR a T W := by
 obtain ⟨q1, q2, q3⟩ := ownLeaves_C h.hl
 obtain ⟨gv, cv, hvv, hbb, hlt⟩ := h.hv.form hv.1
 have ht := h.ht
 rw [hvv] at ht
 have hcap : T.rows.length ≤ cv := by
  rcases h.hv.2 with ⟨_, h2⟩ | ⟨g', cap', cur, h1, _, _, h2, _⟩
  ·
   omega
  ·
   rw [hvv] at h1; cases h1; exact h2
 have hcell := h.hv.cells (g := gv) (by rw [hvv]; rfl)
 refine ⟨some ⟨gl, 0, none⟩, cl, ⟨gv, 0, none⟩, cv, ht, q2, q3, hl.1, hl.2, hcap, hv.1, hv.2, fun i hi => ?_⟩
 obtain ⟨p, hp, ho⟩ := h.hg.get (n := i) (List.getElem?_eq_getElem hi)
 obtain ⟨c1, c2⟩ := cellsV_get 0 i gs T.rows p T.rows[i] hp (List.getElem?_eq_getElem hi)
 obtain ⟨r1, r2, r3⟩ := ownNodes_C ho
 have hm := hr T.rows[i] (List.getElem_mem hi)
 refine ⟨⟨p.1, 0, none⟩, p.2, hcell _ _ c1, ?_, r2, r3, hm⟩
 have := hcell _ _ c2
 rw [Nat.zero_add] at this
 have ea : ∀ n, (⟨gv, 0, none⟩ : Addr).add n = ⟨gv, n, none⟩ := fun n => by unfold Addr.add; split <;> simp_all
 rw [ea] at this ⊢
 exact this
theorem levels_ok {wd : Int} {ls : List SLeaf} (hk : NewOk wd ls) (hn : ls.length ≤ 1024) : (1 ≤ (treeT wd ls).rows.length ∧ (treeT wd ls).rows.length ≤ 11) ∧ (∀ r ∈ (treeT wd ls).rows, 1 ≤ r.length ∧ r.length ≤ 1024) ∧ 1 ≤ ls.length := by
 have h : (treeT wd ls).rows = levelsV wd ls.length.log2 (ls.map (leafNodeI wd)) := rfl
 have hp := hk.p
 have hK : ls.length.log2 ≤ 10 := by
  rcases Nat.lt_or_ge 10 ls.length.log2 with h1 | h1
  ·
   have h2 := Nat.pow_le_pow_right (n := 2) (by decide) (show 11 ≤ ls.length.log2 by omega)
   omega
  ·
   exact h1
 rw [h, levelsV_len]
 refine ⟨⟨by omega, by omega⟩, fun r hr => ?_, by have := Nat.two_pow_pos ls.length.log2; omega⟩
 obtain ⟨i, hi, rfl⟩ := List.getElem_of_mem hr
 have hi2 : i ≤ ls.length.log2 := by rw [levelsV_len] at hi; omega
 have e := levelsV_get wd ls.length.log2 i (ls.map (leafNodeI wd)) hi2
 rw [List.getElem?_eq_getElem hi] at e
 rw [Option.some.inj e, (up_ok (K := ls.length.log2) (by rw [List.length_map]; exact hk.p) hk.k hk.t i hi2).1]
 have h1 := Nat.two_pow_pos (ls.length.log2 - i)
 have h2 : 2 ^ (ls.length.log2 - i) ≤ 2 ^ ls.length.log2 := Nat.pow_le_pow_right (by decide) (by omega)
 omega
theorem TreeOwn.readT {base a gl cl : Nat} {VV : Value} {gs : List RowG} {wd : Int} {ls : List SLeaf} {W : World} (h : TreeOwn base W a (treeT wd ls) gl cl VV gs) (hk : NewOk wd ls) (hn : ls.length ≤ 1024) : TreeR a (treeT wd ls) W := by
 obtain ⟨h1, h2, h3⟩ := levels_ok hk hn
 exact h.read ⟨h3, hn⟩ h1 h2
end Go.Proofs.YtfcodmdckcihmaaDoor.P
namespace Go.Proofs.YtfcodmdckcihmaaDoor.P
open Go.RowKit Go.Proofs.YtfcodmdckcihmaaDoorW.PrintWords Go.Proofs.YtfcodmdckcihmaaDoorW.PrintLast Go.Proofs.YtfcodmdckcihmaaDoorW.PrintMore
set_option linter.unusedVariables false
set_option linter.unusedSimpArgs false
set_option linter.unnecessarySimpa false
theorem rdLeaf_nat (l : List SLeaf) (i : Nat) (h : i < l.length) : rd_TLeaf l (i : Int) = l[i] := by simp [rd_TLeaf, h]
theorem great15_loop (l : List SLeaf) (hl : l.length ≤ 9223372036854775807) : ∀ d i : Nat, i + d = l.length → Ev (fun k => paymasterlaw15_Great.l0 k l (i : Int)) ((l.drop i).any fun n => decide (200 < n.f1.size) || decide (200 < n.f2.size)) := by
 intro d
 induction d with
 | zero =>
  intro i hi
  refine Ev.step (f := fun _ => some false) (fun k => ?_) (ev_eq (Ev.now false) ?_)
  ·
   simp only [paymasterlaw15_Great.l0]; rw [if_neg (by omega)]
  ·
   rw [List.drop_of_length_le (by omega)]; rfl
 | succ d ih =>
  intro i hi
  have hlt : i < l.length := by omega
  rw [any_drop_succ _ l i hlt]
  by_cases hb : 200 < l[i].f1.size
  ·
   refine Ev.step (f := fun _ => some true) (fun k => ?_) (ev_eq (Ev.now true) (by simp [hb]))
   simp only [paymasterlaw15_Great.l0]; rw [if_pos (by omega), if_pos (by omega), rdLeaf_nat l i hlt, if_pos (by omega)]
  ·
   by_cases hc : 200 < l[i].f2.size
   ·
    refine Ev.step (f := fun _ => some true) (fun k => ?_) (ev_eq (Ev.now true) (by simp [hc]))
    simp only [paymasterlaw15_Great.l0]; rw [if_pos (by omega), if_pos (by omega), rdLeaf_nat l i hlt, if_neg (by omega), if_pos (by omega)]
   ·
    refine Ev.step (f := fun k => paymasterlaw15_Great.l0 k l ((i + 1 : Nat) : Int)) (fun k => ?_) (ev_eq (ih (i + 1) (by omega)) (by simp [hb, hc]))
    simp only [paymasterlaw15_Great.l0]; rw [if_pos (by omega), if_pos (by omega), rdLeaf_nat l i hlt, if_neg (by omega), if_neg (by omega), wrap64_id (by omega) (by omega)]; rfl
def greatL (l : List SLeaf) : Bool := decide (70 < l.length) || l.any fun n => decide (200 < n.f1.size) || decide (200 < n.f2.size)
theorem great15_ev (l : List SLeaf) (hl : l.length ≤ 9223372036854775807) : Ev (fun k => paymasterlaw15_Great.f k l) (greatL l) := by
 unfold paymasterlaw15_Great.f greatL
 by_cases h : 70 < l.length
 ·
  exact Ev.some_ (fun k => by rw [if_pos (by omega)]; simp [h])
 ·
  refine Ev.congr (fun k => by rw [if_neg (by omega)]; rfl) (ev_eq (great15_loop l hl l.length 0 (by omega)) (by simp [h]))
end Go.Proofs.YtfcodmdckcihmaaDoor.P
namespace Go.Proofs.YtfcodmdckcihmaaDoor.P
open Go.RowKit Go.Proofs.YtfcodmdckcihmaaDoorW.PrintWords Go.Proofs.YtfcodmdckcihmaaDoorW.PrintLast Go.Proofs.YtfcodmdckcihmaaDoorW.PrintMore
set_option linter.unusedVariables false
set_option linter.unusedSimpArgs false
set_option linter.unnecessarySimpa false
attribute [local go_sem high] eqANode heqRoot eqALeaf
/-! The law TreeBuilds, walked. -/
theorem run_copyL (A : Option Addr) (c : Nat) (l : List SLeaf) (W : World) (hr : Kd.C kLeaf W A l.length l) (hn : l.length ≤ 1024) :
    ∃ g cap W', (Builtin.append_ #[22, 22] 22 #[.slice (some ⟨W.heap.size, 0, none⟩) 0 0, .slice A l.length c]).run Tryd.prog (W.alloc (.cells #[] 36 (0, 0))) = .ok (.slice (some ⟨g, 0, none⟩) l.length cap) W' ∧ W'.ownsRow W.heap.size 36 5 (.slice (some ⟨g, 0, none⟩) l.length cap) l.length (cellsL l) ∧ Below W.heap.size W W' := by
  obtain ⟨i0, hi, hz0, hz1, hz2⟩ := info_parts leafInfo
  have hu := Tryd.underlying22
  cases A with
  | some ad =>
    obtain ⟨v', w', h1, h2, h3, h4⟩ := run_append_own (P := Tryd.prog) (w := W.alloc (.cells #[] 36 (0, 0))) W.heap.size 22 22 36 i0 (.agg #[.bool false, .string ⟨#[]⟩, .string ⟨#[]⟩, .int .u64 0, .int .u64 0]) 5 56 hu hi hz0 hz1 hz2 rfl (by decide) _ 0 [] (World.ownsRow_made W #[] 0 (Nat.le_refl _) (by decide) rfl) ad l.length c (cellsL l) (cellsL_len l) (leaves_news (Kd.C_below hr (below_alloc (Below.refl _ _) _))) (oneL l) (by unfold maxLen; omega) (by omega) (by simp)
    rw [Nat.zero_add, List.nil_append] at h2
    have hne : v' ≠ .slice none 0 0 := fun e => by have := (h4.1 e).1; cases this
    rcases h2.2 with ⟨e, _⟩ | ⟨g, cap, cur, e, _⟩
    · exact absurd e hne
    · subst e
      refine ⟨g, cap, w', h1, h2, below_grown (below_alloc (Below.refl _ _) _) h3 (fun r e => ?_)⟩
      have := Option.some.inj e
      dsimp only at this
      omega
  | none =>
    have hl : l.length = 0 := by
      rcases Nat.eq_zero_or_pos l.length with h | h
      · exact h
      · obtain ⟨_, _, h3⟩ := hr
        obtain ⟨a, ha, _⟩ := h3 h
        cases ha
    obtain rfl : l = [] := List.eq_nil_of_length_eq_zero hl
    refine ⟨W.heap.size, 0, W.alloc (.cells #[] 36 (0, 0)), ?_, World.ownsRow_made W #[] 0 (Nat.le_refl _) (by decide) rfl, below_alloc (Below.refl _ _) _⟩
    simp [Builtin.append_, run_underlying hu, sizeOf, typeInfo, hi, Builtin.lenOf, Builtin.firstCells, loadCells, loadCellsFrom, storeCells]
theorem same15_refl (l : List SLeaf) (hl : l.length ≤ 9223372036854775806) : ∀ d i : Nat, i + d = l.length → Ev (fun k => paymasterref15_Same.l0 k l l (i : Int)) true := by
  intro d
  induction d with
  | zero =>
    intro i hi
    refine Ev.step (f := fun _ => some true) (fun k => ?_) (Ev.now _)
    simp only [paymasterref15_Same.l0]
    rw [if_neg (by omega)]
  | succ d ih =>
    intro i hi
    refine Ev.step (f := fun k => paymasterref15_Same.l0 k l l ((i + 1 : Nat) : Int)) (fun k => ?_) (ih (i + 1) (by omega))
    have hw : wrap64 ((i : Int) + 1) = ((i + 1 : Nat) : Int) := by rw [wrap64_id (by omega) (by omega)]; omega
    simp only [paymasterref15_Same.l0]
    rw [if_pos (by omega)]
    simp [hw]
    try omega
theorem same15_ev (l : List SLeaf) (hl : l.length ≤ 9223372036854775806) : Ev (fun k => paymasterref15_Same.f k l l) true := by
  unfold paymasterref15_Same.f
  exact Ev.congr (fun k => by rw [if_pos rfl]; rfl) (same15_refl l hl l.length 0 (by omega))
theorem greatL_ok {l : List SLeaf} (h : greatL l = false) : l.length ≤ 70 ∧ ∀ x ∈ l, x.f1.size ≤ 200 ∧ x.f2.size ≤ 200 := by
  unfold greatL at h
  simp only [Bool.or_eq_false_iff, decide_eq_false_iff_not, List.any_eq_false] at h
  refine ⟨by omega, fun x hx => ?_⟩
  have := h.2 x hx
  simp at this
  omega
/-- Both trees stand. -/
structure TB (w : World) (a ar : Nat) (wd : Int) (l : List SLeaf) (V : World) : Prop where
  t : TreeR a (treeT wd l) V
  r : RefT ar wd l V
  b : Below w.heap.size w V
theorem TB.below {w : World} {a ar : Nat} {wd : Int} {l : List SLeaf} {V V' : World} (h : TB w a ar wd l V) (hb : Below V.heap.size V V') : TB w a ar wd l V' := ⟨h.t.below hb, h.r.below hb, h.b.trans (hb.mono h.b.size)⟩
/-- Only the block g is another one, and it takes leaves. -/
structure KB (w V0 : World) (g n : Nat) (V : World) : Prop where
  k : ∀ k, k ≠ g → V.heap[k]? = V0.heap[k]?
  c : ∃ cs, V.heap[g]? = some (.cells cs 36 (0, 0)) ∧ n * 5 ≤ cs.size
  b : Below w.heap.size w V
  s : V.heap.size = V0.heap.size
theorem KB.cell {w V0 V : World} {g n i : Nat} (h : KB w V0 g n V) (hi : i < n) : (∃ v, V.cell? ⟨g, i * 5 + 1, none⟩ = some v) ∧ V.frozen? ⟨g, i * 5 + 1, none⟩ = false := by
  obtain ⟨cs, h1, h2⟩ := h.c
  exact ⟨⟨cs[i * 5 + 1]'(by omega), by rw [blk_cell h1]; simp [show i * 5 + 1 < cs.size by omega]⟩, blk_frozen h1 _⟩
theorem KB.put {w V0 V : World} {g n i : Nat} (h : KB w V0 g n V) (hg : w.heap.size ≤ g) (v : Value) : KB w V0 g n (V.setCell ⟨g, i, none⟩ v) := by
  obtain ⟨cs, h1, h2⟩ := h.c
  exact ⟨fun k hk => (Below.heap_setCell _ _ _ _ hk).trans (h.k k hk), ⟨cs.setIfInBounds i v, blk_put h1 i v rfl, by simpa using h2⟩, below_set h.b hg, by simpa using h.s⟩
theorem KB.start {w V0 : World} {base g n cap : Nat} {xs : List SLeaf} (h : V0.ownsRow base 36 5 (.slice (some ⟨g, 0, none⟩) n cap) n (cellsL xs)) (hB : Below w.heap.size w V0) : KB w V0 g n V0 := by
  rcases h.2 with ⟨e, _⟩ | ⟨g', cap', cur, e, _, h2, h3, _, h5, _⟩
  · cases e
  · cases e
    exact ⟨fun _ _ => rfl, ⟨cur, h2, by rw [h5]; exact Nat.mul_le_mul_right 5 h3⟩, hB, rfl⟩
set_option maxRecDepth 100000 in
set_option maxHeartbeats 8000000 in
theorem lawTB.calls (wd : Int) (A : Option Addr) (c : Nat) (l : List SLeaf) (lev p : Int) (w : World) (hK : LaidT w) (hr : Kd.C kLeaf w A l.length l) (hc : l.length ≤ c) (hub : ∀ x ∈ l, OkU x.f3) (hll : l.length ≤ 9223372036854775807) (hp : 0 ≤ p) (hlev : -9223372036854775808 ≤ lev ∧ lev ≤ 9223372036854775807) :
    Calls Tryd.prog 3 #[.int .i64 wd, .slice A l.length c, .int .i64 lev, .int .u64 p] w fun e w' => e = .returned (.bool true) ∧ Below w.heap.size w w' := by
  have HK := Aside0.mk hK
  have HR := Aside0.mk hr
  have HC := Aside0.mk hc
  have HP := Aside0.mk (And.intro hp hlev)
  obtain ⟨kg, hkg⟩ := (great15_ev l hll).rounds
  obtain ⟨gr, hgr⟩ : ∃ g, g = greatL l := ⟨_, rfl⟩
  rw [← hgr] at hkg
  have HG := Aside0.mk hkg
  cases gr with
  | true =>
    clear hK hr hc hub hll hp hlev hkg hgr
    go_enter Tryd.func3, Tryd.ntmps3
    go_wp2_with fail
    refine (paymasterlaw15_Great.calls kg A c l true _ HR.out HC.out HG.out).mono ?_
    rintro e w1 ⟨rfl, hd⟩
    obtain ⟨nd, rfl⟩ := hd
    go_wp2
    go_ret
    exact ⟨rfl, pw_below_drewN (Below.refl _ _) _⟩
  | false =>
    obtain ⟨h70, hsz⟩ := greatL_ok hgr.symm
    have hOk : ∀ x ∈ l, OkL x := fun x hx => ⟨by have := (hsz x hx).1; omega, by have := (hsz x hx).2; omega, hub x hx⟩
    have HOK := Aside0.mk hOk
    have H70 := Aside0.mk h70
    clear hK hr hc hub hll hp hlev hkg hgr h70 hsz hOk
    go_enter Tryd.func3, Tryd.ntmps3
    go_wp2_with fail
    refine (paymasterlaw15_Great.calls kg A c l false _ HR.out HC.out HG.out).mono ?_
    rintro e w1 ⟨rfl, hd⟩
    obtain ⟨nd, rfl⟩ := hd
    obtain ⟨W1, hW1⟩ : ∃ V, V = w.drewN nd := ⟨_, rfl⟩
    have hB1 : Below w.heap.size w W1 := by rw [hW1]; exact pw_below_drewN (Below.refl _ _) _
    rw [← hW1]
    obtain ⟨gm, cm, W2, hrun, hown, hb2⟩ := run_copyL A c l W1 (Kd.C_below HR.out hB1) (by have := H70.out; omega)
    have HB1 := Aside0.mk hB1
    have HOWN := Aside0.mk hown
    have HB12 := Aside0.mk hb2
    have HB2 := Aside0.mk (hB1.trans (hb2.mono hB1.size))
    clear hW1 hB1 hown hb2
    go_wp2_with (at_builtin; refine Lib.wpList_append_run _ rfl _ _ _ _ rfl _ _ rfl rfl _ _ hrun ?_)
    clear hrun
    go_wp2_with fail
    have hmr := ownLeaves_C HOWN.out
    have HMR := Aside0.mk hmr
    refine (treeNew.calls wd (some ⟨gm, 0, none⟩) cm l W2 (HK.out.below HB2.out) hmr.2.2 hmr.2.1 (by have := H70.out; omega) HOK.out).mono ?_
    rintro e w3 ⟨hb3, h3⟩
    have HB23 := Aside0.mk hb3
    have HB3 := Aside0.mk (HB2.out.trans (hb3.mono HB2.out.size))
    clear hmr hb3
    rcases h3 with ⟨hz, a, gl, cl, VV, gs, rfl, hO⟩ | ⟨hnz, rfl⟩
    · have HZ := Aside0.mk hz
      have HO := Aside0.mk hO
      clear hz hO
      go_wp2_with fail
      refine (refNew.calls wd A c l w3 (HK.out.below HB3.out) (Kd.C_below HR.out HB3.out) HC.out (by have := H70.out; omega) HOK.out).mono ?_
      rintro e w4 ⟨hb4, h4⟩
      rcases h4 with ⟨-, ar, rfl, hRO⟩ | ⟨hnz, -⟩
      case inr => exact absurd HZ.out hnz
      have HB34 := Aside0.mk hb4
      have HB4 := Aside0.mk (HB3.out.trans (hb4.mono HB3.out.size))
      have HRO := Aside0.mk hRO
      have hk := newI_zero HZ.out HOK.out
      obtain ⟨m, hm⟩ : ∃ m, m = l.length.log2 := ⟨_, rfl⟩
      have hrl : ((treeT wd l).rows.length : Int) - 1 = (m : Int) := by
        have h : (treeT wd l).rows = levelsV wd l.length.log2 (l.map (leafNodeI wd)) := rfl
        rw [h, levelsV_len, hm]; omega
      obtain ⟨x, hx⟩ : ∃ x, x = topI (treeT wd l) := ⟨_, rfl⟩
      have hm70 : m ≤ 70 := by rw [hm]; exact Nat.le_trans (Nat.log2_le_self _) H70.out
      have CH := Aside0.mk (fun (V : World) (h : TB w a ar wd l V) => by have q := tHeight.calls a _ V h.t; rw [hrl] at q; exact q)
      have CW := Aside0.mk (fun (V : World) (h : TB w a ar wd l V) => tWidth.calls a _ V h.t)
      have hlv : (treeT wd l).leaves = l := rfl
      have CL := Aside0.mk (fun (V : World) (h : TB w a ar wd l V) => by have q := tLeaves.calls a _ V h.t; rw [hlv] at q; exact q)
      clear hlv
      have CR := Aside0.mk (fun (V : World) (h : TB w a ar wd l V) => by have q := tRoot.calls a _ V h.t; unfold rootV at q; rw [hrl, ← hx] at q; exact q)
      have CRR := Aside0.mk (fun (V : World) (h : TB w a ar wd l V) => by have q := refRoot.calls ar wd l V h.r (by have := H70.out; omega) HOK.out hk; unfold rootV at q; rw [hrl, ← hx] at q; exact q)
      have CRH := Aside0.mk (fun (V : World) => by have q := refHeight_eq l.length (by have := H70.out; omega); rw [hgt_ok hk, ← hm] at q; exact paymasterref15_Height.calls 12 (l.length : Int) (m : Int) V q)
      have CRL := Aside0.mk (fun (V : World) (h : TB w a ar wd l V) (n : Nat) (hn : n ≤ m) => refLevel.calls ar wd l n V h.r (by have := H70.out; omega) HOK.out hk (by rw [← hm]; exact hn))
      have CN := Aside0.mk (fun (V : World) (h : TB w a ar wd l V) (n q : Int) (hq : 0 ≤ q) => tNode.calls a _ n q V h.t hq)
      have CNN := Aside0.mk (fun (n : Nat) (hn : n ≤ m) (q : Int) => nodeAt_tree wd l n (by rw [← hm]; exact hn) q)
      have CRN := Aside0.mk (fun (V : World) (h : TB w a ar wd l V) (n q : Int) (hq : 0 ≤ q) (hn : -9223372036854775808 ≤ n ∧ n ≤ 9223372036854775807) => refNode.calls ar wd l n q V h.r (by have := H70.out; omega) HOK.out hk hq hn)
      have HKK := Aside0.mk hk
      have HM70 := Aside0.mk hm70
      have HMEQ := Aside0.mk hm
      obtain ⟨ks, hks⟩ := (same15_ev l (by have := H70.out; omega)).rounds
      have HKS := Aside0.mk hks
      have HM4 := Aside0.mk (ownB (ownB HOWN.out HB23.out) hb4)
      have HT4 := Aside0.mk (HO.out.far (fun k _ hk => hb4.block k hk))
      clear hb4 hRO hk hm hrl hx hm70 hks
      go_wp2_with fail
      refine (paymasterref15_Same.calls ks (some ⟨gm, 0, none⟩) cm l A c l true _ (ownLeaves_C HM4.out).2.2 (ownLeaves_C HM4.out).2.1 (Kd.C_below HR.out HB4.out) HC.out HKS.out).mono ?_
      rintro e w5 ⟨rfl, hd⟩
      obtain ⟨nd2, rfl⟩ := hd
      obtain ⟨W5, hW5⟩ : ∃ V, V = w4.drewN nd2 := ⟨_, rfl⟩
      rw [← hW5]
      have hd5 : Below w4.heap.size w4 W5 := by rw [hW5]; exact pw_below_drewN (Below.refl _ _) _
      have hs5 : W5.heap.size = w4.heap.size := by rw [hW5]; simp
      have HM5 := Aside0.mk (ownB HM4.out hd5)
      have HT5 := Aside0.mk (HT4.out.far (fun k _ hk => hd5.block k hk))
      have HR5 := Aside0.mk (HRO.out.far (fun k _ hk => hd5.block k hk))
      have HB5 := Aside0.mk (HB4.out.trans (hd5.mono HB4.out.size))
      have HGM := Aside0.mk (show w.heap.size ≤ gm ∧ gm < W2.heap.size from ⟨Nat.le_trans HB1.out.size (HOWN.out.lt gm rfl).1, (HOWN.out.lt gm rfl).2⟩)
      have HKB := Aside0.mk (KB.start HM5.out HB5.out)
      clear hW5 hd5 hs5
      go_wp2
      go_loopw [14] (fun v14 wr => ∃ i : Nat, v14 = .int .i64 (i : Int) ∧ Aside0 (i ≤ l.length) ∧ Aside0 (KB w W5 gm l.length wr)) (fun v14 _ => l.length - (intOf v14).toNat)
      case atStart => exact ⟨0, rfl, ⟨Nat.zero_le _⟩, HKB⟩
      case round =>
        obtain ⟨i, rfl, HI, HKI⟩ := hrel
        have hi2 : i ≤ 70 := by have := HI.out; have := H70.out; omega
        by_cases hlt : i < l.length
        · have b1 : decide ((i : Int) < (l.length : Int)) = true := decide_eq_true (by omega)
          have b2 : decide (i < l.length) = true := decide_eq_true hlt
          obtain ⟨⟨v, hv⟩, hf⟩ := HKI.out.cell hlt
          have HK2 := Aside0.mk (HKI.out.put (i := i * 5 + 1) HGM.out.1 (.string ⟨#[63]⟩))
          go_wp2
          go_roundw
          case rel => exact ⟨i + 1, by go_num, ⟨by omega⟩, HK2⟩
          case measure => simp [intOf]; omega
        · obtain rfl : i = l.length := by have := HI.out; omega
          have b1 : decide ((l.length : Int) < (l.length : Int)) = false := decide_eq_false (by omega)
          have b2 : decide (l.length < l.length) = false := decide_eq_false hlt
          have HT6 := Aside0.mk (HT5.out.far (fun k hk _ => HKI.out.k k (by have := HGM.out.2; omega)))
          have HR6 := Aside0.mk (HR5.out.far (fun k hk _ => HKI.out.k k (by have := HGM.out.2; have := HB23.out.size; omega)))
          have HTB6 := Aside0.mk (TB.mk (HT6.out.readT HKK.out (by have := H70.out; omega)) HR6.out.read HKI.out.b)
          go_wp2_with fail
          refine (CL.out _ HTB6.out).mono ?_
          rintro e w7 ⟨ga, ca, rfl, hown, hb, hga⟩
          have HA7 := Aside0.mk hown
          have HB67 := Aside0.mk hb
          have HTB7 := Aside0.mk (HTB6.out.below hb)
          clear hown hb hga b1 b2
          go_wp2_with fail
          refine (CW.out _ HTB7.out).mono ?_
          rintro e _ ⟨rfl, rfl⟩
          have u0 : (wd == wd) = true := by simp
          go_wp2_with fail
          refine (CH.out _ HTB7.out).mono ?_
          rintro e _ ⟨rfl, rfl⟩
          go_wp2_with fail
          refine (CRH.out _).mono ?_
          rintro e w8 ⟨rfl, hd⟩
          obtain ⟨nd8, rfl⟩ := hd
          have HTB8 := Aside0.mk (HTB7.out.below (pw_below_drewN (Below.refl _ _) nd8))
          have HA8 := Aside0.mk (ownB HA7.out (pw_below_drewN (Below.refl _ _) nd8))
          have HB68 := Aside0.mk (HB67.out.trans ((pw_below_drewN (Below.refl _ _) nd8).mono HB67.out.size))
          obtain ⟨W8, hW8⟩ : ∃ V, V = w7.drewN nd8 := ⟨_, rfl⟩
          rw [← hW8] at HTB8 HA8 HB68
          simp only [← hW8]
          have u1 : ((m : Int) == (m : Int)) = true := by simp
          clear hW8 HTB7 HA7 HB67
          go_wp2_with fail
          refine (CR.out _ HTB8.out).mono ?_
          rintro e w9 ⟨rfl, hb9⟩
          have HTB9 := Aside0.mk (HTB8.out.below hb9)
          have HA9 := Aside0.mk (ownB HA8.out hb9)
          have HB69 := Aside0.mk (HB68.out.trans (hb9.mono HB68.out.size))
          clear hb9 HTB8 HA8 HB68
          go_wp2_with fail
          refine (CRR.out _ HTB9.out).mono ?_
          rintro e w10 ⟨rfl, hb10⟩
          have HTB10 := Aside0.mk (HTB9.out.below hb10)
          have HA10 := Aside0.mk (ownB HA9.out hb10)
          have HB610 := Aside0.mk (HB69.out.trans (hb10.mono HB69.out.size))
          clear hb10 HTB9 HA9 HB69
          go_wp2_with fail
          refine (paymasterref15_Same.calls ks (some ⟨ga, 0, none⟩) ca l A c l true _ (ownLeaves_C HA10.out).2.2 (ownLeaves_C HA10.out).2.1 (Kd.C_below HR.out HTB10.out.b) HC.out HKS.out).mono ?_
          rintro e w11 ⟨rfl, hd⟩
          obtain ⟨nd11, rfl⟩ := hd
          have HTB11 := Aside0.mk (HTB10.out.below (pw_below_drewN (Below.refl _ _) nd11))
          have HA11 := Aside0.mk (ownB HA10.out (pw_below_drewN (Below.refl _ _) nd11))
          have HB611 := Aside0.mk (HB610.out.trans ((pw_below_drewN (Below.refl _ _) nd11).mono HB610.out.size))
          obtain ⟨W11, hW11⟩ : ∃ V, V = w10.drewN nd11 := ⟨_, rfl⟩
          rw [← hW11] at HTB11 HA11 HB611
          simp only [← hW11]
          clear hW11 HTB10 HA10 HB610
          have HGA := Aside0.mk (show wr.heap.size ≤ ga from (HA11.out.lt ga rfl).1)
          have HKB1 := Aside0.mk (KB.start HA11.out HTB11.out.b)
          have HWG := Aside0.mk (Nat.le_trans HKI.out.b.size HGA.out)
          have HTBS := Aside0.mk (fun (V : World) (hV : KB w W11 ga l.length V) => TB.mk ((HT6.out.far (fun k hk _ => (hV.k k (by have := HGM.out.2; have := HGA.out; have := HB23.out.size; omega)).trans (HB611.out.block k (by have := HGM.out.2; omega)))).readT HKK.out (by have := H70.out; omega)) (HR6.out.far (fun k hk _ => (hV.k k (by have := HGM.out.2; have := HGA.out; have := HB23.out.size; omega)).trans (HB611.out.block k (by have := HGM.out.2; have := HB23.out.size; omega)))).read hV.b)
          go_wp2
          go_loopw [16] (fun v16 wq => ∃ i : Nat, v16 = .int .i64 (i : Int) ∧ Aside0 (i ≤ l.length) ∧ Aside0 (KB w W11 ga l.length wq)) (fun v16 _ => l.length - (intOf v16).toNat)
          case atStart => exact ⟨0, rfl, ⟨Nat.zero_le _⟩, HKB1⟩
          case round =>
            obtain ⟨i, rfl, HI2, HKI2⟩ := hrel
            have hi3 : i ≤ 70 := by have := HI2.out; have := H70.out; omega
            by_cases hlt : i < l.length
            · have b1 : decide ((i : Int) < (l.length : Int)) = true := decide_eq_true (by omega)
              have b2 : decide (i < l.length) = true := decide_eq_true hlt
              obtain ⟨⟨v, hv⟩, hf⟩ := HKI2.out.cell hlt
              have HK2 := Aside0.mk (HKI2.out.put (i := i * 5 + 1) HWG.out (.string ⟨#[63]⟩))
              go_wp2
              go_roundw
              case rel => exact ⟨i + 1, by go_num, ⟨by omega⟩, HK2⟩
              case measure => simp [intOf]; omega
            · obtain rfl : i = l.length := by have := HI2.out; omega
              have b1 : decide ((l.length : Int) < (l.length : Int)) = false := decide_eq_false (by omega)
              have b2 : decide (l.length < l.length) = false := decide_eq_false hlt
              have HTB12 := Aside0.mk (HTBS.out _ HKI2.out)
              clear b1 b2 HTBS HWG HGA HKB1 HA11 HB611 HTB11 HT6 HR6 HTB6 hi3
              go_wp2
              go_loopw [17] (fun v17 wq => ∃ n : Nat, v17 = .int .i64 (n : Int) ∧ Aside0 (n ≤ m + 1) ∧ Aside0 (TB w a ar wd l wq)) (fun v17 _ => m + 1 - (intOf v17).toNat)
              case atStart => exact ⟨0, rfl, ⟨Nat.zero_le _⟩, HTB12⟩
              case round =>
                obtain ⟨n, rfl, HN, HTN⟩ := hrel
                have hm8 : m ≤ 70 := HM70.out
                have hn71 : n ≤ 71 := by have := HN.out; omega
                by_cases hle : n ≤ m
                · have b1 : decide ((n : Int) ≤ (m : Int)) = true := decide_eq_true (by omega)
                  have b2 : decide (n ≤ m) = true := decide_eq_true hle
                  go_wp2_with fail
                  refine (CH.out _ HTN.out).mono ?_
                  rintro e _ ⟨rfl, rfl⟩
                  go_wp2_with fail
                  refine (CRL.out _ HTN.out n hle).mono ?_
                  rintro e w13 ⟨⟨AR, cR, rfl, hcR, hR⟩, hb13⟩
                  have HTN13 := Aside0.mk (HTN.out.below hb13)
                  have HCN := Aside0.mk (fun (V : World) (h : TB w a ar wd l V) (j : Nat) => by have q := CN.out V h (n : Int) (j : Int) (by omega); rw [CNN.out n hle (j : Int), Int.toNat_natCast] at q; exact q)
                  obtain ⟨lt, hlt⟩ : ∃ t, t = upV wd n (l.map (leafNodeI wd)) := ⟨_, rfl⟩
                  rw [← hlt] at HCN hR hcR
                  simp only [← hlt]
                  have HRW := Aside0.mk hR
                  have HLL := Aside0.mk (show lt.length ≤ 300 by
                    rw [hlt, (up_ok (K := l.length.log2) (by rw [List.length_map]; exact HKK.out.p) HKK.out.k HKK.out.t n (by have := HMEQ.out; omega)).1]
                    have h2 : 2 ^ (l.length.log2 - n) ≤ 2 ^ l.length.log2 := Nat.pow_le_pow_right (by decide) (by omega)
                    have h3 := HKK.out.p
                    have := H70.out
                    omega)
                  clear hlt hb13 hR
                  --A
                  go_wp2
                  go_loopw [19] (fun v19 wq => ∃ j : Nat, v19 = .int .i64 (j : Int) ∧ Aside0 (j ≤ lt.length + 1) ∧ Aside0 (TB w a ar wd l wq ∧ Kd.C kNode wq AR lt.length lt)) (fun v19 _ => lt.length + 1 - (intOf v19).toNat)
                  case atStart => exact ⟨0, rfl, ⟨Nat.zero_le _⟩, ⟨HTN13.out, HRW.out⟩⟩
                  case round =>
                    obtain ⟨j, rfl, HJ, HJT⟩ := hrel
                    have hll : lt.length ≤ 300 := HLL.out
                    have hj301 : j ≤ 301 := by have := HJ.out; omega
                    have hwj : IntKind.u64.wrap (j : Int) = (j : Int) := wrapu64_id (by omega) (by omega)
                    by_cases hjle : j ≤ lt.length
                    · have c1 : decide ((j : Int) ≤ (lt.length : Int)) = true := decide_eq_true (by omega)
                      have c2 : decide (j ≤ lt.length) = true := decide_eq_true hjle
                      go_wp2_with fail
                      refine (HCN.out _ HJT.out.1 j).mono ?_
                      rintro e w20 ⟨rfl, hb20⟩
                      have HJ20 := Aside0.mk (And.intro (HJT.out.1.below hb20) (Kd.C_below HJT.out.2 hb20))
                      obtain ⟨rx, hrx⟩ : ∃ r, r = lt.getD j nodeZ := ⟨_, rfl⟩
                      simp only [← hrx]
                      have hz := blk_new w20 (.cells (nodeA rx) 46)
                      have z0 := blk_cell hz 0
                      have z1 := blk_cell hz 1
                      have z2 := blk_cell hz 2
                      have zf := fun i => blk_frozen hz i
                      have hb21 := below_alloc (Below.refl w20.heap.size w20) (.cells (nodeA rx) 46)
                      have HJ21 := Aside0.mk (And.intro (HJ20.out.1.below hb21) (Kd.C_below HJ20.out.2 hb21))
                      by_cases hjlt : j < lt.length
                      · obtain ⟨ad, e1, p0, p1, p2⟩ := at_TNode HJ21.out.2 (j : Int) (by omega) (by omega)
                        subst e1
                        rw [rdNode_nat lt j hjlt, Int.toNat_natCast] at p0 p1 p2
                        have e2 : lt[j] = rx := by rw [hrx]; simp [List.getD_eq_getElem?_getD, hjlt]
                        rw [e2] at p0 p1 p2
                        have d1 : decide (j < lt.length) = true := decide_eq_true hjlt
                        have d2 : decide ((j : Int) < (lt.length : Int)) = true := decide_eq_true (by omega)
                        simp only [d1]
                        clear hb20 hb21 hz e2 hrx b1 b2
                        go_wp2_with fail
                        go_region
                        go_wp2
                        go_roundw
                        case rel => exact ⟨j + 1, by go_num, ⟨by omega⟩, ⟨⟨HJ21.out.1.below (below_drew (Below.refl _ _)), Kd.C_below HJ21.out.2 (below_drew (Below.refl _ _))⟩⟩⟩
                        case measure => simp [intOf]; omega
                      · have d1 : decide (j < lt.length) = false := decide_eq_false hjlt
                        have d2 : decide ((j : Int) < (lt.length : Int)) = false := decide_eq_false (by omega)
                        have e2 : rx = nodeZ := by rw [hrx]; simp [List.getD_eq_getElem?_getD, hjlt]
                        subst e2
                        simp only [d1]
                        clear hb20 hb21 hz hrx b1 b2
                        go_wp2_with fail
                        go_region
                        go_wp2
                        go_roundw
                        case rel => exact ⟨j + 1, by go_num, ⟨by omega⟩, ⟨⟨HJ21.out.1.below (below_drew (Below.refl _ _)), Kd.C_below HJ21.out.2 (below_drew (Below.refl _ _))⟩⟩⟩
                        case measure => simp [intOf]; omega
                    · have c1 : decide ((j : Int) ≤ (lt.length : Int)) = false := decide_eq_false (by omega)
                      have c2 : decide (j ≤ lt.length) = false := decide_eq_false hjle
                      clear b1 b2
                      go_wp2
                      go_roundw
                      case rel => exact ⟨n + 1, by go_num, ⟨by omega⟩, ⟨HJT.out.1⟩⟩
                      case measure => simp [intOf]; omega
                  --AE
                · have b1 : decide ((n : Int) ≤ (m : Int)) = false := decide_eq_false (by omega)
                  have b2 : decide (n ≤ m) = false := decide_eq_false hle
                  go_wp2_with fail
                  refine (CH.out _ HTN.out).mono ?_
                  rintro e _ ⟨rfl, rfl⟩
                  go_wp2_with fail
                  refine (CN.out _ HTN.out lev p HP.out.1).mono ?_
                  rintro e w14 ⟨rfl, hb14⟩
                  have HTN14 := Aside0.mk (HTN.out.below hb14)
                  clear hb14
                  obtain ⟨xx, hxx⟩ : ∃ y, y = (nodeAtI (treeT wd l) lev p).1 := ⟨_, rfl⟩
                  obtain ⟨bb, hbb⟩ : ∃ y, y = (nodeAtI (treeT wd l) lev p).2 := ⟨_, rfl⟩
                  have CRN2 := Aside0.mk (fun (V : World) (h : TB w a ar wd l V) => by have q := CRN.out V h lev p HP.out.1 HP.out.2; rw [← hxx, ← hbb] at q; exact q)
                  rw [← hxx, ← hbb]
                  clear hxx hbb
                  go_wp2_with fail
                  refine (CRN2.out _ (HTN14.out.below (below_alloc (Below.refl _ _) _))).mono ?_
                  rintro e w15 ⟨rfl, hb15⟩
                  have HTN15 := Aside0.mk ((HTN14.out.below (below_alloc (Below.refl _ _) _)).below hb15)
                  --B
                  have hbx := blk_below (blk_new w14 (.cells (nodeA xx) 46)) hb15
                  have HB15 := Aside0.mk HTN15.out.b
                  have z := fun (o : Obj) (i : Nat) => blk_cell (blk_alloc hbx o) i
                  have z0 := fun o => z o 0
                  have z1 := fun o => z o 1
                  have z2 := fun o => z o 2
                  have u3 : (bb == bb) = true := by simp
                  clear hb15 z hbx
                  go_wp2_with fail
                  refine (CL.out _ (HTN15.out.below (below_alloc (Below.refl _ _) _))).mono ?_
                  rintro e w16 ⟨gb, cb, rfl, hown, hb, -⟩
                  have HTN16 := Aside0.mk ((HTN15.out.below (below_alloc (Below.refl _ _) _)).below hb)
                  have HOB := Aside0.mk (ownLeaves_C hown)
                  clear hown hb
                  go_wp2_with fail
                  refine (paymasterref15_Same.calls ks (some ⟨gb, 0, none⟩) cb l A c l true _ HOB.out.2.2 HOB.out.2.1 (Kd.C_below HR.out HTN16.out.b) HC.out HKS.out).mono ?_
                  rintro e w17 ⟨rfl, hd⟩
                  obtain ⟨nd17, rfl⟩ := hd
                  have HB17 := Aside0.mk (HTN16.out.below (pw_below_drewN (Below.refl _ _) nd17)).b
                  go_wp2
                  go_ret
                  exact ⟨rfl, HB17.out⟩
                  --BE
    · have HNZ := Aside0.mk hnz
      clear hnz
      go_wp2_with fail
      refine (refNew.calls wd A c l w3 (HK.out.below HB3.out) (Kd.C_below HR.out HB3.out) HC.out (by have := H70.out; omega) HOK.out).mono ?_
      rintro e w4 ⟨hb4, h4⟩
      rcases h4 with ⟨hz, _⟩ | ⟨-, rfl⟩
      case inl => exact absurd hz HNZ.out
      have HB4 := Aside0.mk (HB3.out.trans (hb4.mono HB3.out.size))
      have HM4 := Aside0.mk (ownLeaves_C (ownB (ownB HOWN.out HB23.out) hb4))
      obtain ⟨ks, hks⟩ := (same15_ev l (by have := H70.out; omega)).rounds
      have HKS := Aside0.mk hks
      have hne : newI wd l = newI wd l := rfl
      generalize newI wd l = er at HNZ hne ⊢
      clear hb4 hks hne
      go_wp2_with fail
      refine (paymasterref15_Same.calls ks (some ⟨gm, 0, none⟩) cm l A c l true _ HM4.out.2.2 HM4.out.2.1 (Kd.C_below HR.out HB4.out) HC.out HKS.out).mono ?_
      rintro e w5 ⟨rfl, hd⟩
      obtain ⟨nd2, rfl⟩ := hd
      have HB5 := Aside0.mk (pw_below_drewN HB4.out nd2)
      go_wp2
      go_ret
      exact ⟨rfl, HB5.out⟩
def law15_TreeBuilds.f (wd : Int) (l : List SLeaf) (lev p : Int) : Option Bool := if 0 ≤ p ∧ (-9223372036854775808 ≤ lev ∧ lev ≤ 9223372036854775807) ∧ l.length ≤ 9223372036854775807 ∧ (∀ x ∈ l, (0 ≤ x.f3.f0 ∧ x.f3.f0 < 18446744073709551616) ∧ 0 ≤ x.f3.f1 ∧ x.f3.f1 < 18446744073709551616) then some true else none
theorem law15_TreeBuilds.calls (wd : Int) (A : Option Addr) (c : Nat) (l : List SLeaf) (lev p : Int) (r : Bool) (w : World) (hK : LaidT w) (hr : Kd.C kLeaf w A l.length l) (hc : l.length ≤ c) (h : law15_TreeBuilds.f wd l lev p = some r) :
    Calls Tryd.prog 3 #[.int .i64 wd, .slice A l.length c, .int .i64 lev, .int .u64 p] w fun e w' => e = .returned (.bool r) ∧ Below w.heap.size w w' := by
  unfold law15_TreeBuilds.f at h
  split at h
  · next hh =>
    cases h
    exact lawTB.calls wd A c l lev p w hK hr hc (fun x hx => by obtain ⟨⟨h1, h2⟩, h3, h4⟩ := hh.2.2.2 x hx; constructor <;> first | assumption | exact ⟨h1, h2⟩ | exact ⟨h3, h4⟩ | omega) hh.2.2.1 hh.1 hh.2.1
  · cases h
end Go.Proofs.YtfcodmdckcihmaaDoor.P
namespace Go.Proofs.YtfcodmdckcihmaaDoor.P
open Go.RowKit Go.Proofs.YtfcodmdckcihmaaDoorW.PrintWords Go.Proofs.YtfcodmdckcihmaaDoorW.PrintLast Go.Proofs.YtfcodmdckcihmaaDoorW.PrintMore
set_option linter.unusedVariables false
set_option linter.unusedSimpArgs false
set_option linter.unnecessarySimpa false
theorem pure_TreeBuilds : ∀ (y0 : Int) (y1 : (List SLeaf)) (y2 : Int) (y3 : Int), (Lit.int .i64 y0).wf = true → (y1.length ≤ 140737488355328 ∧ ∀ q0 ∈ y1, wfLeaf q0) → (Lit.int .i64 y2).wf = true → (Lit.int .u64 y3).wf = true → law15_TreeBuilds.f y0 y1 y2 y3 = some true := fun _ _ _ _ _ hl h2 h3 => by
 unfold law15_TreeBuilds.f
 rw [if_pos ⟨(wf_u64 h3).1, wf_i64 h2, by omega, fun x hx => ⟨wf_u64 (hl.2 x hx).2.2.2.1, wf_u64 (hl.2 x hx).2.2.2.2⟩⟩]
end Go.Proofs.YtfcodmdckcihmaaDoor.P
