-- Several texts of this workplace as one.
import Derived.Test.YtfcodmdckcihmaaDoorZVerifyHonest2
import Derived.Test.YtfcodmdckcihmaaDoorProg
import Derived.Deep.OwnRows
import Derived.Laws.Rows
import Derived.Test.YtfcodmdckcihmaaDoorRows
import Derived.Test.YtfcodmdckcihmaaDoorCards
import Derived.Test.YtfcodmdckcihmaaDoorTie
namespace Go.Proofs.YtfcodmdckcihmaaDoor.P
open Go.RowKit Go.Proofs.YtfcodmdckcihmaaDoorW.PrintWords Go.Proofs.YtfcodmdckcihmaaDoorW.PrintLast Go.Proofs.YtfcodmdckcihmaaDoorW.PrintMore
set_option linter.unusedVariables false
set_option linter.unusedSimpArgs false
set_option linter.unnecessarySimpa false
abbrev RowG := Nat × Nat
theorem levelInfo : (Tryd.prog.info? 109).map (fun i => (i.zero, i.size, i.bytes)) = some (some (.agg #[.slice none 0 0, .int .i64 0]), 2, 32) := by kernel_rfl
def cellsV : Nat → List RowG → List (List SNode) → List Value
 | i, p :: gs, r :: rs => .slice (some ⟨p.1, 0, none⟩) r.length p.2 :: .int .i64 (i : Int) :: cellsV (i + 1) gs rs
 | _, _, _ => []
theorem cellsV_snoc (p : RowG) (r : List SNode) : ∀ (i : Nat) (gs : List RowG) (rs : List (List SNode)), gs.length = rs.length → cellsV i (gs ++ [p]) (rs ++ [r]) = cellsV i gs rs ++ [.slice (some ⟨p.1, 0, none⟩) r.length p.2, .int .i64 ((i + rs.length : Nat) : Int)]
 | i, [], [], _ => rfl
 | i, _ :: gs, _ :: rs, h => by
  have := cellsV_snoc p r (i + 1) gs rs (by simpa using h)
  rw [List.cons_append, List.cons_append, cellsV, cellsV, this]
  simp only [List.cons_append, List.length_cons]
  rw [show i + 1 + rs.length = i + (rs.length + 1) by omega]
abbrev rowV (p : RowG) (r : List SNode) : Value := .slice (some ⟨p.1, 0, none⟩) r.length p.2
def OwnRows (W : World) (base : Nat) : List RowG → List (List SNode) → Prop
 | p :: gs, r :: rs => W.ownsRow base 46 3 (rowV p r) r.length (cellsN r) ∧ OwnRows W base gs rs
 | [], [] => True
 | _, _ => False
theorem OwnRows.len {W : World} {base : Nat} : ∀ {gs : List RowG} {rs : List (List SNode)}, OwnRows W base gs rs → gs.length = rs.length
 | [], [], _ => rfl
 | _ :: _, _ :: _, h => by rw [List.length_cons, List.length_cons, OwnRows.len h.2]
theorem OwnRows.snoc {W : World} {base : Nat} {p : RowG} {r : List SNode} (hr : W.ownsRow base 46 3 (rowV p r) r.length (cellsN r)) : ∀ {gs : List RowG} {rs : List (List SNode)}, OwnRows W base gs rs → OwnRows W base (gs ++ [p]) (rs ++ [r])
 | [], [], _ => ⟨hr, trivial⟩
 | _ :: _, _ :: _, h => ⟨h.1, h.2.snoc hr⟩
theorem OwnRows.keep {W W' : World} {base : Nat} : ∀ {gs : List RowG} {rs : List (List SNode)}, OwnRows W base gs rs → (∀ k ∈ gs.map Prod.fst, W'.heap[k]? = W.heap[k]?) → OwnRows W' base gs rs
 | [], [], _, _ => trivial
 | p :: gs, r :: rs, h, hk => ⟨own_keep h.1 (hk p.1 (by simp)), h.2.keep (fun k h => hk k (by simp at h ⊢; exact .inr h))⟩
theorem OwnRows.lt {W : World} {base : Nat} : ∀ {gs : List RowG} {rs : List (List SNode)}, OwnRows W base gs rs → ∀ k ∈ gs.map Prod.fst, base ≤ k ∧ k < W.heap.size
 | [], [], _, k, hk => by cases hk
 | p :: gs, r :: rs, h, k, hk => by
  rw [List.map_cons] at hk
  rcases List.mem_cons.1 hk with rfl | hk
  ·
   exact h.1.lt _ rfl
  ·
   exact h.2.lt k hk
theorem ownAny_keep {w w' : World} {base n size : Nat} {xs : List Value} {e : TypeId} {v : Value} (h : w.ownsRow base e size v n xs) (hk : ∀ g, v.ownBlock = some g → w'.heap[g]? = w.heap[g]?) : w'.ownsRow base e size v n xs := by
 obtain ⟨hlen, h⟩ := h
 refine ⟨hlen, ?_⟩
 rcases h with h | ⟨g', cap', cur, hv, hb, hg, hr⟩
 ·
  exact .inl h
 ·
  exact .inr ⟨_, cap', cur, hv, hb, (hk g' (by rw [hv]; rfl)).trans hg, hr⟩
theorem own_cells {w : World} {base n size : Nat} {xs : List Value} {e : TypeId} {v : Value} {g : Nat} (h : w.ownsRow base e size v n xs) (hg : v.ownBlock = some g) : ∃ cs, w.heap[g]? = some (.cells cs e (0, 0)) := by
 rcases h.2 with ⟨h, _⟩ | ⟨g', cap', cur, hv, hb, hg', hr⟩
 ·
  rw [h] at hg; cases hg
 ·
  rw [hv] at hg
  obtain rfl : g' = g := Option.some.inj hg
  exact ⟨cur, hg'⟩
structure NwT (w : World) (wd : Int) (lf : List SLeaf) (bt gl cl : Nat) (VV : Value) (gs : List RowG) (done : List (List SNode)) (ds : List Nat) (W : World) : Prop where
 bx : NwB w wd W
 ht : W.heap[bt]? = some (.cells #[.int .i64 wd, .slice (some ⟨gl, 0, none⟩) lf.length cl, VV] 105 (0, 0))
 hl : W.ownsRow (w.heap.size + 3) 36 5 (.slice (some ⟨gl, 0, none⟩) lf.length cl) lf.length (cellsL lf)
 hv : W.ownsRow (w.heap.size + 3) 109 2 VV done.length (cellsV 0 gs done)
 hg : OwnRows W (w.heap.size + 3) gs done
 ap : (bt :: gl :: gs.map Prod.fst).Nodup
 av : ∀ k, VV.ownBlock = some k → k ∉ bt :: gl :: gs.map Prod.fst
 lo : w.heap.size + 3 ≤ bt
 dn : ds.Nodup
 hd : ∀ D ∈ ds, W.heap[D]? = some (.deferred (some []))
structure NwT.Off (w : World) (bt gl : Nat) (VV : Value) (gs : List RowG) (W : World) (k : Nat) : Prop where
 lo : w.heap.size + 3 ≤ k
 ap : k ∉ bt :: gl :: gs.map Prod.fst
 av : VV.ownBlock ≠ some k
 cs : ∃ c t f, W.heap[k]? = some (.cells c t f)
theorem NwT.size {w : World} {wd : Int} {lf : List SLeaf} {bt gl cl : Nat} {VV : Value} {gs : List RowG} {done : List (List SNode)} {ds : List Nat} {W : World} (h : NwT w wd lf bt gl cl VV gs done ds W) : ∀ k ∈ bt :: gl :: gs.map Prod.fst, w.heap.size + 3 ≤ k ∧ k < W.heap.size := by
 intro k hk
 rcases List.mem_cons.1 hk with rfl | hk
 ·
  exact ⟨h.lo, blk_lt h.ht⟩
 rcases List.mem_cons.1 hk with rfl | hk
 ·
  exact h.hl.lt _ rfl
 ·
  exact h.hg.lt k hk
theorem NwT.keep {w : World} {wd : Int} {lf : List SLeaf} {bt gl cl : Nat} {VV : Value} {gs : List RowG} {done : List (List SNode)} {ds : List Nat} {W W' : World} (h : NwT w wd lf bt gl cl VV gs done ds W) (X : Nat → Prop) (hX : ∀ k, X k → NwT.Off w bt gl VV gs W k) (hk : ∀ k, k < W.heap.size → ¬ X k → W'.heap[k]? = W.heap[k]?) (hB : Below w.heap.size w W') : NwT w wd lf bt gl cl VV gs done ds W' := by
 have hs := h.size
 have hlt := h.bx.lt
 have hin : ∀ k ∈ bt :: gl :: gs.map Prod.fst, W'.heap[k]? = W.heap[k]? := fun k hm => hk k (hs k hm).2 (fun hx => (hX k hx).ap hm)
 refine ⟨h.bx.keep (fun k hlt2 => hk k (by omega) (fun hx => by have := (hX k hx).lo; omega)) hB, (hin bt (by simp)).trans h.ht, own_keep h.hl (hin gl (by simp)), ownAny_keep h.hv (fun g hg => hk g (h.hv.lt g hg).2 (fun hx => (hX g hx).av hg)), h.hg.keep (fun k hm => hin k (by simp at hm ⊢; exact .inr (.inr hm))), h.ap, h.av, h.lo, h.dn, fun D hD => ?_⟩
 have h1 := h.hd D hD
 refine (hk D (blk_lt h1) (fun hx => ?_)).trans h1
 obtain ⟨c, t, f, h2⟩ := (hX D hx).cs
 rw [h1] at h2
 cases h2
theorem NwT.below {w : World} {wd : Int} {lf : List SLeaf} {bt gl cl : Nat} {VV : Value} {gs : List RowG} {done : List (List SNode)} {ds : List Nat} {W W' : World} (h : NwT w wd lf bt gl cl VV gs done ds W) (hb : Below W.heap.size W W') : NwT w wd lf bt gl cl VV gs done ds W' :=
 h.keep (fun _ => False) (fun _ h => h.elim) (fun k hk _ => hb.block k hk) (h.bx.hB.trans (hb.mono h.bx.hB.size))
theorem below_grown {w X Y : World} {row : Option Nat} (h : Below w.heap.size w X) (hg : X.grownBy Y row) (hr : ∀ r, row = some r → w.heap.size ≤ r) : Below w.heap.size w Y :=
 ⟨hg.os.trans h.os, hg.tape.trans h.tape, hg.output.trans h.output, Nat.le_trans h.size hg.size, fun i hi => (hg.block i (lL' hi h.size) (fun e => by have := hr i e.symm; omega)).trans (h.block i hi)⟩
theorem NwT.grown {w : World} {wd : Int} {lf : List SLeaf} {bt gl cl : Nat} {VV : Value} {gs : List RowG} {done : List (List SNode)} {ds : List Nat} {W W' : World} {row : Option Nat} (h : NwT w wd lf bt gl cl VV gs done ds W) (hg : W.grownBy W' row) (hr : ∀ r, row = some r → NwT.Off w bt gl VV gs W r) : NwT w wd lf bt gl cl VV gs done ds W' :=
 h.keep (fun k => row = some k) hr (fun k hk hn => hg.block k hk (fun e => hn e.symm)) (below_grown h.bx.hB hg (fun r e => by have := (hr r e).lo; omega))
theorem NwT.level {w : World} {wd : Int} {lf : List SLeaf} {bt gl cl : Nat} {VV : Value} {gs : List RowG} {done : List (List SNode)} {ds : List Nat} {W W' : World} {p : RowG} {cur : List SNode} {g κ : Nat}
  (h : NwT w wd lf bt gl cl VV gs done ds W) (hc : W.ownsRow (w.heap.size + 3) 46 3 (rowV p cur) cur.length (cellsN cur)) (ho : NwT.Off w bt gl VV gs W p.1)
  (hk : ∀ k, k < W.heap.size → VV.ownBlock ≠ some k → W'.heap[k]? = W.heap[k]?) (hown : W'.ownsRow (w.heap.size + 3) 109 2 (.slice (some ⟨g, 0, none⟩) (done.length + 1) κ) (done.length + 1) (cellsV 0 gs done ++ [rowV p cur, .int .i64 (done.length : Int)]))
  (hgg : VV.ownBlock = some g ∨ W.heap.size ≤ g) (hB : Below w.heap.size w W') :
  NwT w wd lf bt gl cl (.slice (some ⟨g, 0, none⟩) (done.length + 1) κ) (gs ++ [p]) (done ++ [cur]) ds (W'.setCell ⟨bt, 2, none⟩ (.slice (some ⟨g, 0, none⟩) (done.length + 1) κ)) := by
 have hs := h.size
 have hlt := h.bx.lt
 have hbt := hs bt (by simp)
 have hnot : ∀ k ∈ bt :: gl :: gs.map Prod.fst, VV.ownBlock ≠ some k := fun k hm e => h.av k e hm
 have hin : ∀ k ∈ bt :: gl :: gs.map Prod.fst, W'.heap[k]? = W.heap[k]? := fun k hm => hk k (hs k hm).2 (hnot k hm)
 have hpc : W'.heap[p.1]? = W.heap[p.1]? := hk p.1 (hc.lt _ rfl).2 ho.av
 have hpn : p.1 ∉ bt :: gl :: gs.map Prod.fst := ho.ap
 have hset : ∀ k, k ≠ bt → (W'.setCell ⟨bt, 2, none⟩ (.slice (some ⟨g, 0, none⟩) (done.length + 1) κ)).heap[k]? = W'.heap[k]? := fun k hk => Below.heap_setCell _ _ _ _ hk
 have hgn : g ∉ bt :: gl :: (gs ++ [p]).map Prod.fst := by
  intro hm
  simp only [List.map_append, List.map_cons, List.map_nil, List.mem_cons, List.mem_append, List.not_mem_nil, or_false] at hm
  have hm2 : g ∈ bt :: gl :: gs.map Prod.fst ∨ g = p.1 := by
   simp only [List.mem_cons]
   rcases hm with h1 | h1 | h1 | h1
   ·
    exact .inl (.inl h1)
   ·
    exact .inl (.inr (.inl h1))
   ·
    exact .inl (.inr (.inr h1))
   ·
    exact .inr h1
  rcases hm2 with h1 | h1
  ·
   rcases hgg with h2 | h2
   ·
    exact hnot g h1 h2
   ·
    have := (hs g h1).2; omega
  ·
   rcases hgg with h2 | h2
   ·
    exact ho.av (h1 ▸ h2)
   ·
    have := (hc.lt _ rfl).2; rw [h1] at h2; exact absurd this (by show ¬ p.1 < _; omega)
 have hgbt : g ≠ bt := fun e => hgn (by rw [e]; simp)
 have hpbt : p.1 ≠ bt := fun e => hpn (by rw [e]; simp)
 have hglbt : gl ≠ bt := fun e => by have := h.ap; rw [e] at this; simp at this
 have hgsbt : ∀ k ∈ gs.map Prod.fst, k ≠ bt := fun k hm e => by
  have := (List.nodup_cons.1 h.ap).1
  exact this (by rw [← e]; exact List.mem_cons_of_mem _ hm)
 have hlen := h.hg.len
 refine ⟨(h.bx.keep (fun k hk2 => hk k (by omega) (fun e => by have := (h.hv.lt k e).1; omega)) hB).keep (fun k hk2 => hset k (by omega)) (hB.setCell (by show w.heap.size ≤ bt; omega) _), ?_, ?_, ?_, ?_, ?_, ?_, h.lo, h.dn, ?_⟩
 ·
  exact blk_put ((hin bt (by simp)).trans h.ht) 2 _ rfl
 ·
  exact own_keep (own_keep h.hl (hin gl (by simp))) (hset gl hglbt)
 ·
  rw [List.length_append, List.length_singleton, cellsV_snoc p cur 0 gs done hlen, Nat.zero_add]
  exact own_keep hown (hset g hgbt)
 ·
  refine OwnRows.snoc (own_keep (own_keep hc hpc) (hset _ hpbt)) ((h.hg.keep (fun k hm => hin k (by simp at hm ⊢; exact .inr (.inr hm)))).keep (fun k hm => hset k (hgsbt k hm)))
 ·
  simp only [List.map_append, List.map_cons, List.map_nil]
  rw [← List.cons_append, ← List.cons_append]
  exact List.nodup_append.2 ⟨h.ap, by simp, fun a ha b hb e => by
   obtain rfl := List.mem_singleton.1 hb
   exact hpn (e ▸ ha)⟩
 ·
  intro k hk2 hm
  obtain rfl : g = k := Option.some.inj hk2
  exact hgn hm
 ·
  intro D hD
  have h1 := h.hd D hD
  have hne : D ≠ bt := fun e => by rw [e] at h1; rw [h.ht] at h1; cases h1
  rw [hset D hne]
  refine (hk D (blk_lt h1) (fun e => ?_)).trans h1
  obtain ⟨cs, h2⟩ := own_cells h.hv e
  rw [h1] at h2
  cases h2
structure Nw16 (w W0 W : World) (wd : Int) (lf : List SLeaf) (bt gl cl : Nat) (VV : Value) (gs : List RowG) (done : List (List SNode)) (ds : List Nat) (p : RowG) (cur : List SNode) (l : Nat → Bool) (γ γ2 κ : Nat) : Prop where
 hA : l 14 = false → Below W0.heap.size W0 W
 hT : l 13 = true → l 14 = false → W.heap[γ]? = some (.cells #[rowV p cur, .int .i64 (done.length : Int)] 109 (0, 0))
 hP : l 14 = true → l 17 = false → (∀ k, k < W0.heap.size → VV.ownBlock ≠ some k → W.heap[k]? = W0.heap[k]?) ∧ W.ownsRow (w.heap.size + 3) 109 2 (.slice (some ⟨γ2, 0, none⟩) (done.length + 1) κ) (done.length + 1) (cellsV 0 gs done ++ [rowV p cur, .int .i64 (done.length : Int)]) ∧ (VV.ownBlock = some γ2 ∨ W0.heap.size ≤ γ2) ∧ Below w.heap.size w W
 hQ : l 17 = true → NwT w wd lf bt gl cl (.slice (some ⟨γ2, 0, none⟩) (done.length + 1) κ) (gs ++ [p]) (done ++ [cur]) ds W
 o11 : l 11 = true → l 10 = true
 o12 : l 12 = true → l 11 = true
 o13 : l 13 = true → l 12 = true
 o14 : l 14 = true → l 13 = true ∧ l 4 = true
 o17 : l 17 = true → l 14 = true
theorem upd_or {l : Nat → Bool} {i j : Nat} : upd l i j = true ↔ j = i ∨ l j = true := by
 unfold upd
 by_cases h : j = i
 ·
  rw [if_pos h]; simp [h]
 ·
  rw [if_neg h]; simp [h]
theorem upd_no {l : Nat → Bool} {i j : Nat} (h : j ≠ i) : upd l i j = l j := by unfold upd; rw [if_neg h]
section
variable {w W0 W : World} {wd : Int} {lf : List SLeaf} {bt gl cl : Nat} {VV : Value} {gs : List RowG} {done : List (List SNode)} {ds : List Nat} {p : RowG} {cur : List SNode} {l : Nat → Bool} {γ γ2 κ : Nat}
theorem Nw16.pure (h : Nw16 w W0 W wd lf bt gl cl VV gs done ds p cur l γ γ2 κ) (i : Nat) (hi : i ≠ 13 ∧ i ≠ 14 ∧ i ≠ 17) (h11 : i = 11 → l 10 = true) (h12 : i = 12 → l 11 = true) : Nw16 w W0 W wd lf bt gl cl VV gs done ds p cur (upd l i) γ γ2 κ := by
 have e13 : upd l i 13 = l 13 := upd_no (by omega)
 have e14 : upd l i 14 = l 14 := upd_no (by omega)
 have e17 : upd l i 17 = l 17 := upd_no (by omega)
 refine ⟨by rw [e14]; exact h.hA, by rw [e13, e14]; exact h.hT, by rw [e14, e17]; exact h.hP, by rw [e17]; exact h.hQ, ?_, ?_, ?_, ?_, ?_⟩
 ·
  intro hx
  rcases upd_or.1 hx with hx | hx
  ·
   exact upd_or.2 (.inr (h11 hx.symm))
  ·
   exact upd_or.2 (.inr (h.o11 hx))
 ·
  intro hx
  rcases upd_or.1 hx with hx | hx
  ·
   exact upd_or.2 (.inr (h12 hx.symm))
  ·
   exact upd_or.2 (.inr (h.o12 hx))
 ·
  rw [e13]; exact fun hx => upd_or.2 (.inr (h.o13 hx))
 ·
  rw [e14, e13]; exact fun hx => ⟨(h.o14 hx).1, upd_or.2 (.inr (h.o14 hx).2)⟩
 ·
  rw [e17, e14]; exact h.o17
theorem Nw16.no4 (h : Nw16 w W0 W wd lf bt gl cl VV gs done ds p cur l γ γ2 κ) (hl : l 4 = false) : l 14 = false := by
 cases hx : l 14 with
 | false => rfl
 | true => rw [(h.o14 hx).2] at hl; cases hl
theorem Nw16.no13 (h : Nw16 w W0 W wd lf bt gl cl VV gs done ds p cur l γ γ2 κ) (hl : l 13 = false) : l 14 = false := by
 cases hx : l 14 with
 | false => rfl
 | true => rw [(h.o14 hx).1] at hl; cases hl
theorem Nw16.no10 (h : Nw16 w W0 W wd lf bt gl cl VV gs done ds p cur l γ γ2 κ) (hl : l 10 = false) : l 14 = false := by
 refine h.no13 ?_
 cases hx : l 13 with
 | false => rfl
 | true => rw [h.o11 (h.o12 (h.o13 hx))] at hl; cases hl
theorem Nw16.no17 (h : Nw16 w W0 W wd lf bt gl cl VV gs done ds p cur l γ γ2 κ) (hl : l 14 = false) : l 17 = false := by
 cases hx : l 17 with
 | false => rfl
 | true => rw [h.o17 hx] at hl; cases hl
theorem Nw16.made (h : Nw16 w W0 W wd lf bt gl cl VV gs done ds p cur l γ γ2 κ) (hl : l 13 = false) (h12 : l 12 = true) : Nw16 w W0 (W.alloc (.cells #[rowV p cur, .int .i64 (done.length : Int)] 109 (0, 0))) wd lf bt gl cl VV gs done ds p cur (upd l 13) W.heap.size γ2 κ := by
 have h14 := h.no13 hl
 have h17 := h.no17 h14
 have e14 : upd l 13 14 = l 14 := rfl
 have e17 : upd l 13 17 = l 17 := rfl
 exact ⟨fun _ => below_alloc (h.hA h14) _, fun _ _ => blk_new W _, (fun hx => by rw [e14, h14] at hx; cases hx), (fun hx => by rw [e17, h17] at hx; cases hx), h.o11, h.o12, fun _ => h12, (fun hx => by rw [e14, h14] at hx; cases hx), h.o17⟩
theorem Nw16.appended {W' : World} {g κ' : Nat} (h : Nw16 w W0 W wd lf bt gl cl VV gs done ds p cur l γ γ2 κ) (h0 : NwT w wd lf bt gl cl VV gs done ds W0) (hl : l 14 = false) (h13 : l 13 = true) (h4 : l 4 = true) (hgr : W.grownBy W' VV.ownBlock)
  (hown : W'.ownsRow (w.heap.size + 3) 109 2 (.slice (some ⟨g, 0, none⟩) (done.length + 1) κ') (done.length + 1) (cellsV 0 gs done ++ [rowV p cur, .int .i64 (done.length : Int)])) (hgg : VV.ownBlock = some g ∨ g = W.heap.size) :
  Nw16 w W0 W' wd lf bt gl cl VV gs done ds p cur (upd l 14) γ g κ' := by
 have h17 := h.no17 hl
 have hb := h.hA hl
 have e17 : upd l 14 17 = l 17 := rfl
 have e14 : upd l 14 14 = true := rfl
 have hsz := hb.size
 refine ⟨(fun hx => by rw [e14] at hx; cases hx), (fun _ hx => by rw [e14] at hx; cases hx), fun _ _ => ⟨fun k hk hn => (hgr.block k (by omega) (fun e => hn e.symm)).trans (hb.block k hk), hown, ?_, ?_⟩, (fun hx => by rw [e17, h17] at hx; cases hx), h.o11, h.o12, h.o13, fun _ => ⟨h13, h4⟩, fun _ => rfl⟩
 ·
  rcases hgg with hx | hx
  ·
   exact .inl hx
  ·
   exact .inr (by omega)
 ·
  exact below_grown (h0.bx.hB.trans (hb.mono h0.bx.hB.size)) hgr (fun r e => by have := (h0.hv.lt r e).1; omega)
theorem Nw16.stored (h : Nw16 w W0 W wd lf bt gl cl VV gs done ds p cur l γ γ2 κ) (h0 : NwT w wd lf bt gl cl VV gs done ds W0) (hc : W0.ownsRow (w.heap.size + 3) 46 3 (rowV p cur) cur.length (cellsN cur)) (ho : NwT.Off w bt gl VV gs W0 p.1) (hl : l 17 = false) (h14 : l 14 = true) :
  Nw16 w W0 (W.setCell ⟨bt, 2, none⟩ (.slice (some ⟨γ2, 0, none⟩) (done.length + 1) κ)) wd lf bt gl cl VV gs done ds p cur (upd l 17) γ γ2 κ := by
 obtain ⟨p1, p2, p3, p4⟩ := h.hP h14 hl
 have e14 : upd l 17 14 = l 14 := rfl
 have e17 : upd l 17 17 = true := rfl
 exact ⟨(fun hx => by rw [e14, h14] at hx; cases hx), (fun _ hx => by rw [e14, h14] at hx; cases hx), (fun _ hx => by rw [e17] at hx; cases hx), fun _ => h0.level hc ho p1 p2 p3 p4, h.o11, h.o12, h.o13, h.o14, fun _ => h14⟩
end
theorem own_base {w : World} {base base' n size : Nat} {xs : List Value} {e : TypeId} {v : Value} (h : w.ownsRow base e size v n xs) (hb : base' ≤ base) : w.ownsRow base' e size v n xs := by
 obtain ⟨hlen, h⟩ := h
 refine ⟨hlen, ?_⟩
 rcases h with h | ⟨g', cap', cur, hv, hbb, hr⟩
 ·
  exact .inl h
 ·
  exact .inr ⟨g', cap', cur, hv, Nat.le_trans hb hbb, hr⟩
def lenT (a : Act) : Nat := match a.tmps.getD 8 undef with
 | .slice _ n _ => n
 | _ => 0
structure NwH (w : World) (wd : Int) (ls : List SLeaf) (bt gl cl : Nat) (gs : List RowG) (done : List (List SNode)) (ds : List Nat) (cur : List SNode) (gc cc : Nat) (A9 : Option Addr) (c9 : Nat) (V : World) : Prop where
 t : NwT w wd ls bt gl cl (.slice A9 done.length c9) gs done ds V
 c : V.ownsRow (w.heap.size + 3) 46 3 (rowV (gc, cc) cur) cur.length (cellsN cur)
 o : NwT.Off w bt gl (.slice A9 done.length c9) gs V gc
 k : ∃ k K, cur.length = 2 ^ k ∧ ls.length = 2 ^ K ∧ done.length + k = K ∧ done ++ levelsV wd k cur = levelsV wd K (ls.map (leafNodeI wd))
 n : ∀ x ∈ cur, NodeK wd x
 s : totL cur = totL (ls.map (leafNodeI wd))
 m : done.length ≤ 11 ∧ cur.length ≤ 1024 ∧ ls.length ≤ 1024
 d : ∀ D ∈ ds, w.heap.size ≤ D
theorem exec_append {P : Program} {oi : Oper} {a : Act} {w w' : World} {v : Value} (s x : Operand) (t : TypeId) (ho : oi.op = .call { callee := .builtin .append, args := #[s, x], argTypes := #[t, t] }) (v1 v2 : Value) (hs : a.eval s = v1) (hx : a.eval x = v2) (hr : (Builtin.append_ #[t, t] oi.type #[v1, v2]).run P w = .ok v w') :
  (execOp a.eval oi).run P w = .ok (.value v) w' := by
 unfold execOp
 simp only [ho, resolve, invoke, builtin, Sem.run_bind, Sem.run_pure, Result.andThen_ok, List.map_toArray, List.map_cons, List.map_nil, hs, hx, hr]
structure TreeOwn (base : Nat) (W : World) (a : Nat) (T : STree) (gl cl : Nat) (VV : Value) (gs : List RowG) : Prop where
 ht : W.heap[a]? = some (.cells #[.int .i64 T.wd, .slice (some ⟨gl, 0, none⟩) T.leaves.length cl, VV] 105 (0, 0))
 hl : W.ownsRow base 36 5 (.slice (some ⟨gl, 0, none⟩) T.leaves.length cl) T.leaves.length (cellsL T.leaves)
 hv : W.ownsRow base 109 2 VV T.rows.length (cellsV 0 gs T.rows)
 hg : OwnRows W base gs T.rows
 ap : (a :: gl :: gs.map Prod.fst).Nodup
 av : ∀ k, VV.ownBlock = some k → k ∉ a :: gl :: gs.map Prod.fst
 lo : base ≤ a
def treeT (wd : Int) (l : List SLeaf) : STree := ⟨wd, l, levelsV wd l.length.log2 (l.map (leafNodeI wd))⟩
def NewPost (w : World) (wd : Int) (l : List SLeaf) (e : Ending) (w' : World) : Prop :=
 Below w.heap.size w w' ∧ ((newI wd l = 0 ∧ ∃ a gl cl VV gs, e = .returned (.tuple #[ptrT a, .int .i64 0]) ∧ TreeOwn w.heap.size w' a (treeT wd l) gl cl VV gs) ∨ (newI wd l ≠ 0 ∧ e = .returned (.tuple #[.pointer none, .int .i64 (newI wd l)])))
theorem newErr {w W : World} {wd : Int} {l : List SLeaf} {tmps : Array Value} {e : Int} (h : NwB w wd W) (h4 : tmps.getD 4 undef = .pointer (some ⟨w.heap.size + 1, 0, none⟩)) (h5 : tmps.getD 5 undef = .pointer (some ⟨w.heap.size + 1 + 1, 0, none⟩)) (he : newI wd l = e) (hn : e ≠ 0) :
  Exit.noGoto (bodyPostM Fence.wide 3 Tryd.prog Tryd.f14 (NewPost w wd l)) Exit.ret { tmps := tmps, defers := [] } ((W.setCell ⟨w.heap.size + 1, 0, none⟩ (.pointer none)).setCell ⟨w.heap.size + 1 + 1, 0, none⟩ (.int .i64 e)) := by
 obtain ⟨p4, p5, pb⟩ := h.put (.pointer none) (.int .i64 e)
 exact ret0 _ (new_results _ _ _ _ _ _ h4 h5 p4 p5) ⟨pb, .inr ⟨by rw [he]; exact hn, by rw [he]⟩⟩
theorem ButD.below {w W W' : World} {ds : List Nat} (h : ButD ds W W') (hB : Below w.heap.size w W) (hd : ∀ D ∈ ds, w.heap.size ≤ D) : Below w.heap.size w W' :=
 ⟨h.os.trans hB.os, h.tape.trans hB.tape, h.output.trans hB.output, by rw [h.size]; exact hB.size, fun i hi => (h.heap i (fun e => by have := hd i e; omega)).trans (hB.block i hi)⟩
theorem OwnRows.cellsAt {W : World} {base : Nat} : ∀ {gs : List RowG} {rs : List (List SNode)}, OwnRows W base gs rs → ∀ k ∈ gs.map Prod.fst, ∃ c, W.heap[k]? = some (.cells c 46 (0, 0))
 | [], [], _, k, hk => by cases hk
 | p :: gs, r :: rs, h, k, hk => by
  rw [List.map_cons] at hk
  rcases List.mem_cons.1 hk with rfl | hk
  ·
   exact own_cells h.1 rfl
  ·
   exact h.2.cellsAt k hk
theorem OwnRows.base {W : World} {base base' : Nat} (hb : base' ≤ base) : ∀ {gs : List RowG} {rs : List (List SNode)}, OwnRows W base gs rs → OwnRows W base' gs rs
 | [], [], _ => trivial
 | _ :: _, _ :: _, h => ⟨own_base h.1 hb, h.2.base hb⟩
theorem newDone {w W : World} {wd : Int} {ls : List SLeaf} {bt gl cl : Nat} {VV : Value} {gs : List RowG} {done : List (List SNode)} {ds : List Nat} {tmps : Array Value} (h : NwT w wd ls bt gl cl VV gs done ds W) (hds : ∀ D ∈ ds, w.heap.size ≤ D)
  (h4 : tmps.getD 4 undef = .pointer (some ⟨w.heap.size + 1, 0, none⟩)) (h5 : tmps.getD 5 undef = .pointer (some ⟨w.heap.size + 1 + 1, 0, none⟩)) (hI : newI wd ls = 0) (hr : done = levelsV wd ls.length.log2 (ls.map (leafNodeI wd))) :
  Exit.noGoto (bodyPostM Fence.wide 3 Tryd.prog Tryd.f14 (NewPost w wd ls)) Exit.ret { tmps := tmps, defers := ds.map markD } ((W.setCell ⟨w.heap.size + 1, 0, none⟩ (ptrT bt)).setCell ⟨w.heap.size + 1 + 1, 0, none⟩ (.int .i64 0)) := by
 obtain ⟨p4, p5, pb⟩ := h.bx.put (ptrT bt) (.int .i64 0)
 have hs := h.size
 have hset : ∀ k, w.heap.size + 3 ≤ k → ((W.setCell ⟨w.heap.size + 1, 0, none⟩ (ptrT bt)).setCell ⟨w.heap.size + 1 + 1, 0, none⟩ (.int .i64 0)).heap[k]? = W.heap[k]? := fun k hk =>
  (Below.heap_setCell _ _ _ _ (by show k ≠ w.heap.size + 1 + 1; omega)).trans (Below.heap_setCell _ _ _ _ (by show k ≠ w.heap.size + 1; omega))
 have hdd : ∀ D ∈ ds, ∃ o, ((W.setCell ⟨w.heap.size + 1, 0, none⟩ (ptrT bt)).setCell ⟨w.heap.size + 1 + 1, 0, none⟩ (.int .i64 0)).heap[D]? = some (.deferred o) ∧ o = some [] := fun D hD => by
  have h1 := h.hd D hD
  have n1 : D ≠ w.heap.size + 1 := fun e => by rw [e, h.bx.h4] at h1; cases h1
  have n2 : D ≠ w.heap.size + 1 + 1 := fun e => by rw [e, h.bx.h5] at h1; cases h1
  exact ⟨_, (Below.heap_setCell _ _ _ _ n2).trans ((Below.heap_setCell _ _ _ _ n1).trans h1), rfl⟩
 refine retD (v := .tuple #[ptrT bt, .int .i64 0]) h.dn (fun D hD => by obtain ⟨o, h1, rfl⟩ := hdd D hD; exact h1) (fun W' hW' => ?_)
 have hno : ∀ (k : Nat) (c : Array Value) (t : TypeId) (f : Nat × Nat), ((W.setCell ⟨w.heap.size + 1, 0, none⟩ (ptrT bt)).setCell ⟨w.heap.size + 1 + 1, 0, none⟩ (.int .i64 0)).heap[k]? = some (Obj.cells c t f) → W'.heap[k]? = some (Obj.cells c t f) := fun k c t f hk => by
  rw [hW'.heap k (fun hD => ?_)]
  ·
   exact hk
  ·
   obtain ⟨o, h1, -⟩ := hdd k hD
   rw [hk] at h1
   cases h1
 have hsame : ∀ k, w.heap.size + 3 ≤ k → (∃ (c : Array Value) (t : TypeId) (f : Nat × Nat), W.heap[k]? = some (Obj.cells c t f)) → W'.heap[k]? = W.heap[k]? := fun k hk ⟨c, t, f, hc⟩ => by
  rw [hno k c t f ((hset k hk).trans hc), hc]
 refine ⟨new_results _ _ _ _ _ _ h4 h5 (hno _ _ _ _ p4) (hno _ _ _ _ p5), hW'.below pb hds, .inl ⟨hI, bt, gl, cl, VV, gs, rfl, ?_⟩⟩
 have hT : (treeT wd ls).rows = done := hr.symm
 have hgl := h.hl.lt gl rfl
 refine ⟨(hsame bt h.lo ⟨_, _, _, h.ht⟩).trans h.ht, own_base (own_keep h.hl (hsame gl hgl.1 (by obtain ⟨c, hc⟩ := own_cells h.hl rfl; exact ⟨_, _, _, hc⟩))) (Nat.le_add_right _ 3), ?_, ?_, h.ap, h.av, by have := h.lo; omega⟩
 ·
  rw [hT]
  refine own_base (ownAny_keep h.hv (fun g hg => hsame g (h.hv.lt g hg).1 ?_)) (Nat.le_add_right _ 3)
  obtain ⟨c, hc⟩ := own_cells h.hv hg
  exact ⟨_, _, _, hc⟩
 ·
  rw [hT]
  refine (h.hg.keep (fun k hk => hsame k (h.hg.lt k hk).1 ?_)).base (Nat.le_add_right _ 3)
  obtain ⟨c, hc⟩ := h.hg.cellsAt k hk
  exact ⟨_, _, _, hc⟩
theorem newErrD {w W : World} {wd : Int} {ls : List SLeaf} {ds : List Nat} {tmps : Array Value} {e : Int} (hB : Below w.heap.size w W) (hn : ds.Nodup) (hd : ∀ D ∈ ds, W.heap[D]? = some (.deferred (some []))) (hds : ∀ D ∈ ds, w.heap.size ≤ D)
  (h4 : tmps.getD 4 undef = .pointer (some ⟨w.heap.size + 1, 0, none⟩)) (h5 : tmps.getD 5 undef = .pointer (some ⟨w.heap.size + 1 + 1, 0, none⟩)) (p4 : W.heap[w.heap.size + 1]? = some (.cells #[.pointer none] 25 (0, 0))) (p5 : W.heap[w.heap.size + 1 + 1]? = some (.cells #[.int .i64 e] 26 (0, 0)))
  (hI : newI wd ls = e) (h0 : e ≠ 0) : Exit.noGoto (bodyPostM Fence.wide 3 Tryd.prog Tryd.f14 (NewPost w wd ls)) Exit.ret { tmps := tmps, defers := ds.map markD } W := by
 refine retD (v := .tuple #[.pointer none, .int .i64 e]) hn hd (fun W' hW' => ?_)
 have hno : ∀ (k : Nat) (c : Array Value) (t : TypeId) (f : Nat × Nat), W.heap[k]? = some (Obj.cells c t f) → W'.heap[k]? = some (Obj.cells c t f) := fun k c t f hk => by
  rw [hW'.heap k (fun hD => ?_)]
  ·
   exact hk
  ·
   have := hd k hD
   rw [hk] at this
   cases this
 exact ⟨new_results _ _ _ _ _ _ h4 h5 (hno _ _ _ _ p4) (hno _ _ _ _ p5), hW'.below hB hds, .inr ⟨by rw [hI]; exact h0, by rw [hI]⟩⟩
theorem NwH.one {w : World} {wd : Int} {ls : List SLeaf} {bt gl cl : Nat} {gs : List RowG} {done : List (List SNode)} {ds : List Nat} {cur : List SNode} {gc cc : Nat} {A9 : Option Addr} {c9 : Nat} {V : World} (h : NwH w wd ls bt gl cl gs done ds cur gc cc A9 c9 V) (h1 : cur.length = 1) :
  totL (ls.map (leafNodeI wd)) < 340282366920938463463374607431768211456 ∧ done ++ [cur] = levelsV wd ls.length.log2 (ls.map (leafNodeI wd)) := by
 obtain ⟨k, K, e1, e2, e3, e4⟩ := h.k
 have hk : k = 0 := by
  rcases Nat.eq_zero_or_pos k with h | h
  ·
   exact h
  ·
   have := Nat.pow_lt_pow_right (a := 2) (by decide) h; omega
 subst hk
 refine ⟨?_, ?_⟩
 ·
  rw [← h.s]
  match cur, h1, h.n with
  | [x], _, hn => have := valU_lt (hn x (by simp)).u; simp [totL]; exact this
 ·
  rw [e2, Nat.log2_two_pow, ← e4]; rfl
theorem newI_ok {wd : Int} {ls : List SLeaf} (hw : ¬ (wd < 1 ∨ 32 < wd)) (hp : isPow ls.length = true) (ha : ls.all mayLeafI = true) (ht : totL (ls.map (leafNodeI wd)) < 340282366920938463463374607431768211456) : newI wd ls = 0 := by
 unfold newI; rw [if_neg hw, if_neg (by rw [hp]; decide), if_neg (by rw [ha]; decide), if_pos ht]
theorem newI_full {wd : Int} {ls : List SLeaf} (hw : ¬ (wd < 1 ∨ 32 < wd)) (hp : isPow ls.length = true) (ha : ls.all mayLeafI = true) (ht : ¬ totL (ls.map (leafNodeI wd)) < 340282366920938463463374607431768211456) : newI wd ls = 10 := by
 unfold newI; rw [if_neg hw, if_neg (by rw [hp]; decide), if_neg (by rw [ha]; decide), if_neg ht]
end Go.Proofs.YtfcodmdckcihmaaDoor.P
namespace Go.Proofs.YtfcodmdckcihmaaDoor.P
open Go.RowKit Go.Proofs.YtfcodmdckcihmaaDoorW.PrintWords Go.Proofs.YtfcodmdckcihmaaDoorW.PrintLast Go.Proofs.YtfcodmdckcihmaaDoorW.PrintMore
set_option linter.unusedVariables false
set_option linter.unusedSimpArgs false
set_option linter.unnecessarySimpa false
structure NwBd (w : World) (bt gl : Nat) (VV : Value) (gs : List RowG) (ds : List Nat) (H : Nat) : Prop where
 l : ∀ k ∈ bt :: gl :: gs.map Prod.fst, k < H
 v : ∀ k, VV.ownBlock = some k → k < H
 b : w.heap.size + 3 ≤ H
 d : ∀ D ∈ ds, D < H
section
variable {w : World} {wd : Int} {ls : List SLeaf} {bt gl cl : Nat} {VV : Value} {gs : List RowG} {done : List (List SNode)} {ds : List Nat}
theorem NwT.bd {W : World} (h : NwT w wd ls bt gl cl VV gs done ds W) : NwBd w bt gl VV gs ds W.heap.size :=
 ⟨fun k hk => (h.size k hk).2, fun k hk => (h.hv.lt k hk).2, by have := h.bx.lt; omega, fun D hD => blk_lt (h.hd D hD)⟩
theorem NwT.upto {W W' : World} {H : Nat} (h : NwT w wd ls bt gl cl VV gs done ds W) (hb : NwBd w bt gl VV gs ds H) (hk : ∀ k, k < H → W'.heap[k]? = W.heap[k]?) (hB : Below w.heap.size w W') : NwT w wd ls bt gl cl VV gs done ds W' := by
 have hin : ∀ k ∈ bt :: gl :: gs.map Prod.fst, W'.heap[k]? = W.heap[k]? := fun k hm => hk k (hb.l k hm)
 refine ⟨h.bx.keep (fun k hlt2 => hk k (by have := hb.b; omega)) hB, (hin bt (by simp)).trans h.ht, own_keep h.hl (hin gl (by simp)), ownAny_keep h.hv (fun g hg => hk g (hb.v g hg)), h.hg.keep (fun k hm => hin k (by simp at hm ⊢; exact .inr (.inr hm))), h.ap, h.av, h.lo, h.dn, fun D hD => (hk D (hb.d D hD)).trans (h.hd D hD)⟩
structure NxS (w : World) (wd : Int) (ls : List SLeaf) (bt gl cl : Nat) (VV : Value) (gs : List RowG) (done : List (List SNode)) (ds : List Nat) (b12 H : Nat) (nx : List SNode) (V : World) : Prop where
 hH : b12 < H
 t : NwT w wd ls bt gl cl VV gs done ds V
 bd : NwBd w bt gl VV gs ds b12
 b : ∃ A c, V.heap[b12]? = some (.cells #[.slice A nx.length c] 43 (0, 0)) ∧ V.ownsRow H 46 3 (.slice A nx.length c) nx.length (cellsN nx)
theorem NxS.lt {b12 H : Nat} {nx : List SNode} {V : World} (h : NxS w wd ls bt gl cl VV gs done ds b12 H nx V) : b12 < V.heap.size := by
 obtain ⟨A, c, h1, -⟩ := h.b
 exact blk_lt h1
theorem NxS.below {b12 H : Nat} {nx : List SNode} {V V' : World} (h : NxS w wd ls bt gl cl VV gs done ds b12 H nx V) (hb : Below V.heap.size V V') : NxS w wd ls bt gl cl VV gs done ds b12 H nx V' := by
 obtain ⟨A, c, h1, h2⟩ := h.b
 exact ⟨h.hH, h.t.below hb, h.bd, A, c, blk_below h1 hb, ownB h2 hb⟩
theorem NxS.grown {b12 H : Nat} {nx : List SNode} {X Y : World} {row : Option Nat} (h : NxS w wd ls bt gl cl VV gs done ds b12 H nx X) (hg : X.grownBy Y row) (hr : ∀ r, row = some r → H ≤ r ∧ ∃ o, X.heap[r]? = some o ∧ o.isCells = false) : NxS w wd ls bt gl cl VV gs done ds b12 H nx Y := by
 obtain ⟨A, c, h1, h2⟩ := h.b
 have hlt := h.lt
 have hH := h.hH
 have hk : ∀ k, k < b12 + 1 → Y.heap[k]? = X.heap[k]? := fun k hk => hg.block k (by omega) (fun e => by have := (hr k e.symm).1; omega)
 refine ⟨h.hH, h.t.upto h.bd (fun k hk2 => hk k (by omega)) (below_grown h.t.bx.hB hg (fun r e => by have := (hr r e).1; have := h.bd.b; omega)), h.bd, A, c, (hk b12 (by omega)).trans h1, ownAny_keep h2 (fun g hg2 => hg.block g (h2.lt g hg2).2 (fun e => ?_))⟩
 obtain ⟨o, ho, hc⟩ := (hr g e.symm).2
 obtain ⟨cs, h3⟩ := own_cells h2 hg2
 rw [h3] at ho
 cases ho
 cases hc
theorem NxS.more {b12 H : Nat} {nx : List SNode} {V W' : World} {x : SNode} {A : Option Addr} {c : Nat} {A' : Option Addr} {c' : Nat} (h : NxS w wd ls bt gl cl VV gs done ds b12 H nx V) (h1 : V.heap[b12]? = some (.cells #[.slice A nx.length c] 43 (0, 0))) (h2 : V.ownsRow H 46 3 (.slice A nx.length c) nx.length (cellsN nx))
  (hgr : V.grownBy W' (Value.slice A nx.length c).ownBlock) (hown : W'.ownsRow H 46 3 (.slice A' (nx.length + 1) c') (nx.length + 1) (cellsN nx ++ [.string x.f0, .int .u64 x.f1.f0, .int .u64 x.f1.f1])) :
  NxS w wd ls bt gl cl VV gs done ds b12 H (nx ++ [x]) (W'.setCell ⟨b12, 0, none⟩ (.slice A' (nx.length + 1) c')) := by
 have hlt := h.lt
 have hH := h.hH
 have hk : ∀ k, k < b12 + 1 → W'.heap[k]? = V.heap[k]? := fun k hk => hgr.block k (by omega) (fun e => by have := (h2.lt k e.symm).1; omega)
 have hl : (nx ++ [x]).length = nx.length + 1 := by simp
 refine ⟨h.hH, h.t.upto h.bd (fun k hk2 => (Below.heap_setCell _ _ _ _ (by show k ≠ b12; omega)).trans (hk k (by omega))) ((below_grown h.t.bx.hB hgr (fun r e => by have := (h2.lt r e).1; have := h.bd.b; omega)).setCell (by have := h.bd.b; show w.heap.size ≤ b12; omega) _), h.bd, A', c', ?_, ?_⟩
 ·
  rw [hl]
  exact blk_put ((hk b12 (by omega)).trans h1) 0 _ rfl
 ·
  rw [hl, cellsN_append]
  exact ownAny_keep hown (fun g hg => Below.heap_setCell _ _ _ _ (by have := (hown.lt g hg).1; show g ≠ b12; omega))
end
theorem OwnRows.last {W : World} {base : Nat} {p : RowG} {r : List SNode} : ∀ {gs : List RowG} {rs : List (List SNode)}, gs.length = rs.length → OwnRows W base (gs ++ [p]) (rs ++ [r]) → W.ownsRow base 46 3 (rowV p r) r.length (cellsN r)
 | [], [], _, h => h.1
 | _ :: _, _ :: _, hl, h => OwnRows.last (by simpa using hl) h.2
structure NxE (w : World) (ds : List Nat) (V : World) : Prop where
 hB : Below w.heap.size w V
 h4 : V.heap[w.heap.size + 1]? = some (.cells #[.pointer none] 25 (0, 0))
 h5 : V.heap[w.heap.size + 1 + 1]? = some (.cells #[.int .i64 10] 26 (0, 0))
 hd : ∀ D ∈ ds, V.heap[D]? = some (.deferred (some []))
theorem NxE.grown {w : World} {ds : List Nat} {X Y : World} {H : Nat} {row : Option Nat} (h : NxE w ds X) (hg : X.grownBy Y row) (hr : ∀ r, row = some r → H ≤ r) (hH : w.heap.size + 3 ≤ H) (hd : ∀ D ∈ ds, D < H) : NxE w ds Y := by
 have h5 := blk_lt h.h5
 exact ⟨below_grown h.hB hg (fun r e => by have := hr r e; omega), (hg.block _ (by omega) (fun e => by have := hr _ e.symm; omega)).trans h.h4, (hg.block _ h5 (fun e => by have := hr _ e.symm; omega)).trans h.h5, fun D hD => (hg.block D (blk_lt (h.hd D hD)) (fun e => by have := hr _ e.symm; have := hd D hD; omega)).trans (h.hd D hD)⟩
theorem NxE.made {w : World} {wd : Int} {ls : List SLeaf} {bt gl cl : Nat} {VV : Value} {gs : List RowG} {done : List (List SNode)} {ds : List Nat} {W : World} (h : NwT w wd ls bt gl cl VV gs done ds W) : NxE w ds ((W.setCell ⟨w.heap.size + 1, 0, none⟩ (.pointer none)).setCell ⟨w.heap.size + 1 + 1, 0, none⟩ (.int .i64 10)) := by
 obtain ⟨p4, p5, pb⟩ := h.bx.put (.pointer none) (.int .i64 10)
 refine ⟨pb, p4, p5, fun D hD => ?_⟩
 have h1 := h.hd D hD
 have n1 : D ≠ w.heap.size + 1 := fun e => by rw [e, h.bx.h4] at h1; cases h1
 have n2 : D ≠ w.heap.size + 1 + 1 := fun e => by rw [e, h.bx.h5] at h1; cases h1
 exact (Below.heap_setCell _ _ _ _ n2).trans ((Below.heap_setCell _ _ _ _ n1).trans h1)
theorem NwH.next {w : World} {wd : Int} {ls : List SLeaf} {bt gl cl : Nat} {gs : List RowG} {done : List (List SNode)} {ds : List Nat} {cur : List SNode} {gc cc : Nat} {A9 : Option Addr} {c9 : Nat} {V V' : World} {γ2 κ2 m g c D b12 H : Nat}
  (h : NwH w wd ls bt gl cl gs done ds cur gc cc A9 c9 V) (hm : cur.length = 2 * m) (hm1 : 1 ≤ m) (hok : pairsOk cur = true) (hx : NxS w wd ls bt gl cl (.slice (some ⟨γ2, 0, none⟩) (done.length + 1) κ2) (gs ++ [(gc, cc)]) (done ++ [cur]) ds b12 H (pairsV wd cur) V')
  (hc : V'.ownsRow H 46 3 (.slice (some ⟨g, 0, none⟩) m c) m (cellsN (pairsV wd cur))) (hD : b12 ≤ D) (hdf : V'.heap[D]? = some (.deferred (some []))) :
  NwH w wd ls bt gl cl (gs ++ [(gc, cc)]) (done ++ [cur]) (D :: ds) (pairsV wd cur) g c (some ⟨γ2, 0, none⟩) κ2 V' := by
 have hl : (done ++ [cur]).length = done.length + 1 := by simp
 have hpl : (pairsV wd cur).length = m := pairsV_len wd m cur hm
 have hgl := hc.lt g rfl
 have hH := hx.hH
 obtain ⟨cs, hcs⟩ := own_cells hc rfl
 obtain ⟨k, K, e1, e2, e3, e4⟩ := h.k
 obtain ⟨k, rfl⟩ : ∃ j, k = j + 1 := by
  cases k with
  | zero => rw [e1] at hm; omega
  | succ k => exact ⟨k, rfl⟩
 have hK : K ≤ 10 := by
  rcases Nat.lt_or_ge 10 K with h1 | h1
  ·
   have h2 := Nat.pow_le_pow_right (n := 2) (by decide) (show 11 ≤ K by omega)
   have h3 : ls.length ≤ 1024 := h.m.2.2
   omega
  ·
   exact h1
 have hH2 := hx.hH
 rw [← hl] at hx
 refine ⟨⟨hx.t.bx, hx.t.ht, hx.t.hl, hx.t.hv, hx.t.hg, hx.t.ap, hx.t.av, hx.t.lo, List.nodup_cons.2 ⟨fun hm2 => by have := hx.bd.d D hm2; omega, hx.t.dn⟩, fun D' hD' => ?_⟩, ?_, ⟨by have := hx.bd.b; omega, fun hm2 => by have := hx.bd.l g hm2; omega, fun e => by have := hx.bd.v g e; omega, cs, _, _, hcs⟩, ⟨k, K, ?_, e2, by rw [hl]; omega, ?_⟩, pairsV_k m cur hm h.n hok, (pairsV_tot wd m cur hm).trans h.s, ⟨?_, by rw [hpl]; have := h.m.2.1; omega, h.m.2.2⟩, fun D' hD' => ?_⟩
 ·
  rcases List.mem_cons.1 hD' with rfl | hD'
  ·
   exact hdf
  ·
   exact hx.t.hd D' hD'
 ·
  have h0 := own_base hc (show w.heap.size + 3 ≤ H by have := hx.bd.b; omega)
  rw [rowV, hpl]
  exact h0
 ·
  rw [hpl]
  rw [e1, Nat.pow_succ] at hm
  omega
 ·
  rw [← e4, List.append_assoc]; rfl
 ·
  rw [hl]; omega
 ·
  rcases List.mem_cons.1 hD' with rfl | hD'
  ·
   have := hx.bd.b; omega
  ·
   exact h.d D' hD'
end Go.Proofs.YtfcodmdckcihmaaDoor.P
namespace Go.Proofs.YtfcodmdckcihmaaDoor.P
open Go.RowKit Go.Proofs.YtfcodmdckcihmaaDoorW.PrintWords Go.Proofs.YtfcodmdckcihmaaDoorW.PrintLast Go.Proofs.YtfcodmdckcihmaaDoorW.PrintMore
set_option linter.unusedVariables false
set_option linter.unusedSimpArgs false
set_option linter.unnecessarySimpa false
theorem rightS_mod (p : Int) (hp : 0 ≤ p) (h64 : p < 18446744073709551616) (k : Nat) : rightS p k = decide (p / 2 ^ k % 2 = 0) := by
 have h1 : 0 ≤ p / 2 ^ k := Int.ediv_nonneg hp (Int.le_of_lt (Int.pow_pos (by decide)))
 have h2 : p / 2 ^ k < 18446744073709551616 := Int.lt_of_le_of_lt (Int.ediv_le_self _ hp) h64
 unfold rightS
 rw [Lib.u64_and1 _ h1 h2, Bool.eq_iff_iff, beq_iff_eq, decide_eq_true_eq]
end Go.Proofs.YtfcodmdckcihmaaDoor.P
namespace Go.Proofs.YtfcodmdckcihmaaDoor.P
open Go.RowKit Go.Proofs.YtfcodmdckcihmaaDoorW.PrintWords Go.Proofs.YtfcodmdckcihmaaDoorW.PrintLast Go.Proofs.YtfcodmdckcihmaaDoorW.PrintMore
set_option linter.unusedVariables false
set_option linter.unusedSimpArgs false
set_option linter.unnecessarySimpa false
def stepV (w : Int) (n : SNode) (x : SNode × Bool) : SNode := if x.2 then joinV w n x.1 else joinV w x.1 n
def climbV (w : Int) : SNode → List (SNode × Bool) → SNode
 | n, [] => n
 | n, x :: xs => climbV w (stepV w n x) xs
theorem stepV_val (w : Int) (n : SNode) (x : SNode × Bool) : valU (stepV w n x).f1 = valU n.f1 + valU x.1.f1 := by
 unfold stepV; split <;> rw [joinV_val]; omega
theorem stepV_k {w : Int} {n : SNode} {x : SNode × Bool} (hn : NodeK w n) (hx : NodeK w x.1) (h : valU n.f1 + valU x.1.f1 < 340282366920938463463374607431768211456) : NodeK w (stepV w n x) := by
 unfold stepV; split
 ·
  exact joinV_k hn hx h
 ·
  exact joinV_k hx hn (by omega)
theorem stepI_room {w : Int} {n : SNode} {x : SNode × Bool} (hn : NodeK w n) (hx : NodeK w x.1) (h : valU n.f1 + valU x.1.f1 < 340282366920938463463374607431768211456) : stepI w n x = ((stepV w n x).f0, (stepV w n x).f1.f0, (stepV w n x).f1.f1, 0) := by
 unfold stepI stepV; split
 ·
  exact joinI_room hn hx h
 ·
  exact joinI_room hx hn (by omega)
def totX (xs : List (SNode × Bool)) : Int := totL (xs.map (·.1))
theorem totX_cons (x : SNode × Bool) (xs) : totX (x :: xs) = valU x.1.f1 + totX xs := rfl
theorem totX_nn {w : Int} {xs : List (SNode × Bool)} (h : ∀ x ∈ xs, NodeK w x.1) : 0 ≤ totX xs := totL_nn fun y hy => by
 obtain ⟨x, hx, rfl⟩ := List.mem_map.1 hy; exact h x hx
theorem climbL_room {w : Int} : ∀ (xs : List (SNode × Bool)) (n : SNode), NodeK w n → (∀ x ∈ xs, NodeK w x.1) → valU n.f1 + totX xs < 340282366920938463463374607431768211456 →
  climbL w n xs = ((climbV w n xs).f0, (climbV w n xs).f1.f0, (climbV w n xs).f1.f1, 0) ∧ NodeK w (climbV w n xs) ∧ valU (climbV w n xs).f1 = valU n.f1 + totX xs
 | [], n, hn, _, _ => ⟨rfl, hn, by simp [climbV, totX, totL]⟩
 | x :: xs, n, hn, hx, h => by
  rw [totX_cons] at h
  have hx1 := hx x (by simp)
  have hxs : ∀ y ∈ xs, NodeK w y.1 := fun y hy => hx y (by simp [hy])
  have h0 := totX_nn hxs
  have hr : valU n.f1 + valU x.1.f1 < 340282366920938463463374607431768211456 := by omega
  have := climbL_room xs (stepV w n x) (stepV_k hn hx1 hr) hxs (by rw [stepV_val]; omega)
  rw [stepV_val] at this
  refine ⟨?_, this.2.1, by rw [climbV, totX_cons]; omega⟩
  rw [climbL, stepI_room hn hx1 hr, if_pos rfl, climbV]
  exact this.1
theorem turnsTo_fst (p : Int) (l : List SNode) : (turnsTo p l l.length).map (·.1) = l := by
 unfold turnsTo
 rw [List.map_map]
 apply List.ext_getElem
 ·
  simp
 ·
  intro i h1 h2
  simp at h1
  simp [List.getD_eq_getElem?_getD, h1]
theorem turnsTo_k {w p : Int} {l : List SNode} (h : ∀ x ∈ l, NodeK w x) : ∀ x ∈ turnsTo p l l.length, NodeK w x.1 := fun x hx => by
 refine h _ ?_
 rw [← turnsTo_fst p l]
 exact List.mem_map.2 ⟨x, hx, rfl⟩
theorem totX_turns (p : Int) (l : List SNode) : totX (turnsTo p l l.length) = totL l := by unfold totX; rw [turnsTo_fst]
theorem climbI_room {w p : Int} {n : SNode} {l : List SNode} (hn : NodeK w n) (hl : ∀ x ∈ l, NodeK w x) (h63 : l.length ≤ 63) (h : valU n.f1 + totL l < 340282366920938463463374607431768211456) :
  climbI w n p l = ((climbV w n (turnsTo p l l.length)).f0, (climbV w n (turnsTo p l l.length)).f1.f0, (climbV w n (turnsTo p l l.length)).f1.f1, 0) ∧ NodeK w (climbV w n (turnsTo p l l.length)) ∧ valU (climbV w n (turnsTo p l l.length)).f1 = valU n.f1 + totL l := by
 have := climbL_room (turnsTo p l l.length) n hn (turnsTo_k hl) (by rw [totX_turns]; exact h)
 rw [totX_turns] at this
 unfold climbI
 rw [if_pos ⟨hn.of, List.all_eq_true.2 fun x hx => (hl x hx).of⟩, if_neg (by omega)]
 exact this
theorem climbV_append (w : Int) : ∀ (a b : List (SNode × Bool)) (n : SNode), climbV w n (a ++ b) = climbV w (climbV w n a) b
 | [], _, _ => rfl
 | x :: a, b, n => by rw [List.cons_append, climbV, climbV, climbV_append w a b]
def blkV (w : Int) (l : List SNode) (j q : Nat) : SNode := treeV w j ((l.drop (q * 2 ^ j)).take (2 ^ j))
theorem blkV_succ (w : Int) (l : List SNode) (j q : Nat) (h : (q + 1) * 2 ^ (j + 1) ≤ l.length) : blkV w l (j + 1) q = joinV w (blkV w l j (2 * q)) (blkV w l j (2 * q + 1)) := by
 have hp : 2 ^ (j + 1) = 2 ^ j + 2 ^ j := by rw [Nat.pow_succ]; omega
 unfold blkV
 rw [treeV, List.take_take, List.drop_take, List.drop_drop, Nat.min_eq_left (by rw [hp]; exact Nat.le_add_right _ _), show 2 ^ (j + 1) - 2 ^ j = 2 ^ j by rw [hp]; exact Nat.add_sub_cancel ..]
 have e1 : q * 2 ^ (j + 1) = 2 * q * 2 ^ j := by rw [Nat.pow_succ, Nat.mul_comm 2 q, Nat.mul_assoc, Nat.mul_comm 2]
 have e2 : (2 * q + 1) * 2 ^ j = q * 2 ^ (j + 1) + 2 ^ j := by rw [Nat.add_mul, Nat.one_mul, e1]
 rw [e2, e1]
def sideV (w : Int) (l : List SNode) (p j : Nat) : SNode := blkV w l j (if (p / 2 ^ j) % 2 = 1 then p / 2 ^ j - 1 else p / 2 ^ j + 1)
theorem totL_take_le {w : Int} {l : List SNode} (h : ∀ x ∈ l, NodeK w x) (a n : Nat) : totL ((l.drop a).take n) ≤ totL l := by
 have h1 := totL_append ((l.drop a).take n) ((l.drop a).drop n)
 rw [List.take_append_drop] at h1
 have h2 := totL_append (l.take a) (l.drop a)
 rw [List.take_append_drop] at h2
 have h3 := totL_nn (w := w) (l := (l.drop a).drop n) fun x hx => h x (List.mem_of_mem_drop (List.mem_of_mem_drop hx))
 have h4 := totL_nn (w := w) (l := l.take a) fun x hx => h x (List.mem_of_mem_take hx)
 omega
theorem blk_len {l : List SNode} {j q k : Nat} (hl : l.length = 2 ^ k) (hj : j ≤ k) (hq : q < 2 ^ (k - j)) : ((l.drop (q * 2 ^ j)).take (2 ^ j)).length = 2 ^ j ∧ (q + 1) * 2 ^ j ≤ l.length := by
 have h1 : (q + 1) * 2 ^ j ≤ 2 ^ (k - j) * 2 ^ j := Nat.mul_le_mul_right _ hq
 rw [← Nat.pow_add, Nat.sub_add_cancel hj] at h1
 have h2 : (q + 1) * 2 ^ j = q * 2 ^ j + 2 ^ j := by rw [Nat.add_mul, Nat.one_mul]
 rw [List.length_take, List.length_drop]
 omega
theorem rightS_nat (p j : Nat) (hp : p < 18446744073709551616) : rightS (p : Int) j = decide (p / 2 ^ j % 2 = 0) := by
 rw [rightS_mod (p : Int) (by omega) (by omega) j, decide_eq_decide]
 have e : ((p : Int) / 2 ^ j) = ((p / 2 ^ j : Nat) : Int) := by simp
 rw [e]
 omega
theorem climbV_place {w : Int} {l : List SNode} {k p : Nat} (hl : l.length = 2 ^ k) (hp : p < 2 ^ k) (h64 : p < 18446744073709551616) : ∀ j, j ≤ k → climbV w (l.getD p zeroN) ((List.range j).map fun i => (sideV w l p i, rightS (p : Int) i)) = blkV w l j (p / 2 ^ j)
 | 0, _ => by
  have h1 : p < l.length := by omega
  have h2 : l.drop p = l[p] :: l.drop (p + 1) := List.drop_eq_getElem_cons h1
  have h3 : l.getD p zeroN = l[p] := by simp [List.getD_eq_getElem?_getD, h1]
  rw [h3]
  unfold blkV treeV
  rw [show p / 2 ^ 0 * 2 ^ 0 = p by simp, h2]
  rfl
 | j + 1, h => by
  have ih := climbV_place (w := w) hl hp h64 j (by omega)
  have hq : p / 2 ^ j < 2 ^ (k - j) := by
   rw [Nat.div_lt_iff_lt_mul (Nat.two_pow_pos j), ← Nat.pow_add, Nat.sub_add_cancel (by omega)]; exact hp
  have hq1 : p / 2 ^ (j + 1) < 2 ^ (k - (j + 1)) := by
   rw [Nat.div_lt_iff_lt_mul (Nat.two_pow_pos _), ← Nat.pow_add, Nat.sub_add_cancel h]; exact hp
  have hd : p / 2 ^ (j + 1) = p / 2 ^ j / 2 := by rw [Nat.pow_succ, Nat.div_div_eq_div_mul]
  rw [List.range_succ, List.map_append, climbV_append, ih, blkV_succ w l j _ (blk_len hl h hq1).2, List.map_cons, List.map_nil, climbV, climbV, stepV, rightS_nat p j h64]
  rw [hd]
  unfold sideV
  generalize p / 2 ^ j = a at *
  by_cases ho : a % 2 = 0
  ·
   rw [decide_eq_true ho, if_pos rfl, if_neg (by omega), show 2 * (a / 2) = a by omega]
  ·
   rw [decide_eq_false ho, if_neg Bool.false_ne_true, if_pos (by omega), show 2 * (a / 2) = a - 1 by omega, show a - 1 + 1 = a by omega]
theorem climbV_val (w : Int) : ∀ (xs : List (SNode × Bool)) (n : SNode), valU (climbV w n xs).f1 = valU n.f1 + totX xs
 | [], n => by simp [climbV, totX, totL]
 | x :: xs, n => by rw [climbV, climbV_val w xs, stepV_val, totX_cons]; omega
theorem sideV_k {w : Int} {l : List SNode} {k p j : Nat} (hl : l.length = 2 ^ k) (hp : p < 2 ^ k) (hk : ∀ x ∈ l, NodeK w x) (ht : totL l < 340282366920938463463374607431768211456) (hj : j < k) : NodeK w (sideV w l p j) ∧
  (let b := if (p / 2 ^ j) % 2 = 1 then p / 2 ^ j - 1 else p / 2 ^ j + 1; (b + 1) * 2 ^ j ≤ l.length ∧ ((l.drop (b * 2 ^ j)).take (2 ^ j)).length = 2 ^ j) := by
 have hq : p / 2 ^ j < 2 ^ (k - j) := by
  rw [Nat.div_lt_iff_lt_mul (Nat.two_pow_pos j), ← Nat.pow_add, Nat.sub_add_cancel (by omega)]; exact hp
 have he : 2 ^ (k - j) = 2 * 2 ^ (k - j - 1) := by rw [← Nat.pow_succ']; congr 1; omega
 have hb : (if (p / 2 ^ j) % 2 = 1 then p / 2 ^ j - 1 else p / 2 ^ j + 1) < 2 ^ (k - j) := by
  generalize 2 ^ (k - j - 1) = z at he
  generalize p / 2 ^ j = y at hq ⊢
  split <;> omega
 obtain ⟨b1, b2⟩ := blk_len (l := l) hl (by omega) hb
 exact ⟨treeV_k j _ b1 (fun x hx => hk x (List.mem_of_mem_drop (List.mem_of_mem_take hx))) (Int.lt_of_le_of_lt (totL_take_le hk _ _) ht), b2, b1⟩
theorem climb_place {w : Int} {l S : List SNode} {k p : Nat} (hl : l.length = 2 ^ k) (hp : p < 2 ^ k) (hk : ∀ x ∈ l, NodeK w x) (ht : totL l < 340282366920938463463374607431768211456) (h63 : k ≤ 63) (hS : S = (List.range k).map (sideV w l p)) :
  climbI w (l.getD p zeroN) (p : Int) S = ((treeV w k l).f0, (treeV w k l).f1.f0, (treeV w k l).f1.f1, 0) := by
 have hn : NodeK w (l.getD p zeroN) := by
  have h1 : p < l.length := by omega
  have : l.getD p zeroN = l[p] := by simp [List.getD_eq_getElem?_getD, h1]
  rw [this]; exact hk _ (List.getElem_mem h1)
 have hlen : S.length = k := by rw [hS]; simp
 have hT : turnsTo (p : Int) S S.length = (List.range k).map fun i => (sideV w l p i, rightS (p : Int) i) := by
  rw [hlen, hS]
  unfold turnsTo
  refine List.map_congr_left fun i hi => ?_
  have := List.mem_range.1 hi
  simp [List.getD_eq_getElem?_getD, this]
 have h64 : p < 18446744073709551616 := Nat.lt_trans (lL' hp (Nat.pow_le_pow_right (by decide) h63)) (by decide)
 have hV := climbV_place (w := w) hl hp h64 k (Nat.le_refl _)
 rw [show p / 2 ^ k = 0 from Nat.div_eq_of_lt hp] at hV
 have hB : blkV w l k 0 = treeV w k l := by
  unfold blkV
  rw [Nat.zero_mul, List.drop_zero, ← hl, List.take_length]
 have hv := climbV_val w (turnsTo (p : Int) S S.length) (l.getD p zeroN)
 rw [totX_turns, hT, hV, hB, treeV_val k l hl] at hv
 have hSk : ∀ x ∈ S, NodeK w x := fun x hx => by
  rw [hS] at hx
  obtain ⟨i, hi, rfl⟩ := List.mem_map.1 hx
  exact (sideV_k hl hp hk ht (List.mem_range.1 hi)).1
 have := (climbI_room (p := (p : Int)) hn hSk (by omega) (by omega)).1
 rw [hT, hV, hB] at this
 exact this
end Go.Proofs.YtfcodmdckcihmaaDoor.P
namespace Go.Proofs.YtfcodmdckcihmaaDoor.P
open Go.RowKit Go.Proofs.YtfcodmdckcihmaaDoorW.PrintWords Go.Proofs.YtfcodmdckcihmaaDoorW.PrintLast Go.Proofs.YtfcodmdckcihmaaDoorW.PrintMore
set_option linter.unusedVariables false
set_option linter.unusedSimpArgs false
set_option linter.unnecessarySimpa false
structure FoS (w : World) (wd : Int) (W : World) : Prop where
 h2 : W.heap[w.heap.size]? = some (.cells #[.int .i64 wd] 3 (0, 0))
 h4 : W.heap[w.heap.size + 1]? = some (.cells #[.string ⟨#[]⟩, .int .u64 0, .int .u64 0] 46 (0, 0))
 hB : Below w.heap.size w W
theorem FoS.below {w W W' : World} {wd : Int} (h : FoS w wd W) (hb : Below W.heap.size W W') : FoS w wd W' := ⟨blk_below h.h2 hb, blk_below h.h4 hb, h.hB.trans (hb.mono h.hB.size)⟩
end Go.Proofs.YtfcodmdckcihmaaDoor.P
namespace Go.Proofs.YtfcodmdckcihmaaDoor.P
open Go.RowKit Go.Proofs.YtfcodmdckcihmaaDoorW.PrintWords Go.Proofs.YtfcodmdckcihmaaDoorW.PrintLast Go.Proofs.YtfcodmdckcihmaaDoorW.PrintMore
set_option linter.unusedVariables false
set_option linter.unusedSimpArgs false
set_option linter.unnecessarySimpa false
structure RFo (w W : World) : Prop where
 h4 : W.heap[w.heap.size]? = some (.cells #[.string ⟨#[]⟩, .int .u64 0, .int .u64 0] 46 (0, 0))
 hB : Below w.heap.size w W
theorem RFo.below {w W W' : World} (h : RFo w W) (hb : Below W.heap.size W W') : RFo w W' := ⟨blk_below h.h4 hb, h.hB.trans (hb.mono h.hB.size)⟩
end Go.Proofs.YtfcodmdckcihmaaDoor.P
namespace Go.Proofs.YtfcodmdckcihmaaDoor.P
open Go.RowKit Go.Proofs.YtfcodmdckcihmaaDoorW.PrintWords Go.Proofs.YtfcodmdckcihmaaDoorW.PrintLast Go.Proofs.YtfcodmdckcihmaaDoorW.PrintMore
set_option linter.unusedVariables false
set_option linter.unusedSimpArgs false
set_option linter.unnecessarySimpa false
def RefT (a : Nat) (wd : Int) (l : List SLeaf) (W : World) : Prop := ∃ LA cap, W.heap[a]? = some (.cells #[.int .i64 wd, .slice LA l.length cap] 118 (0, 0)) ∧ l.length ≤ cap ∧ Kd.C kLeaf W LA l.length l
theorem RefT.below {a : Nat} {wd : Int} {l : List SLeaf} {W W' : World} (h : RefT a wd l W) (hb : Below W.heap.size W W') : RefT a wd l W' := by
 obtain ⟨LA, cap, h1, h2, h3⟩ := h
 exact ⟨LA, cap, blk_below h1 hb, h2, Kd.C_below h3 hb⟩
def RefO (base a : Nat) (wd : Int) (l : List SLeaf) (W : World) : Prop := base ≤ a ∧ ∃ g cap, W.heap[a]? = some (.cells #[.int .i64 wd, .slice (some ⟨g, 0, none⟩) l.length cap] 118 (0, 0)) ∧ W.ownsRow base 36 5 (.slice (some ⟨g, 0, none⟩) l.length cap) l.length (cellsL l)
theorem RefO.read {base a : Nat} {wd : Int} {l : List SLeaf} {W : World} (h : RefO base a wd l W) : RefT a wd l W := by
 obtain ⟨_, g, cap, h1, h2⟩ := h
 exact ⟨some ⟨g, 0, none⟩, cap, h1, (ownLeaves_C h2).2.1, (ownLeaves_C h2).2.2⟩
theorem RefO.far {base a : Nat} {wd : Int} {l : List SLeaf} {W W' : World} (h : RefO base a wd l W) (hk : ∀ k, base ≤ k → k < W.heap.size → W'.heap[k]? = W.heap[k]?) : RefO base a wd l W' := by
 obtain ⟨h0, g, cap, h1, h2⟩ := h
 have hg := h2.lt g rfl
 exact ⟨h0, g, cap, (hk a h0 (blk_lt h1)).trans h1, own_keep h2 (hk g hg.1 hg.2)⟩
def RefPost (w : World) (wd : Int) (l : List SLeaf) (e : Ending) (w' : World) : Prop :=
 Below w.heap.size w w' ∧ ((newI wd l = 0 ∧ ∃ a, e = .returned (.tuple #[ptrT a, .int .i64 0]) ∧ RefO w.heap.size a wd l w') ∨ (newI wd l ≠ 0 ∧ e = .returned (.tuple #[.pointer none, .int .i64 (newI wd l)])))
theorem RefPost.err {w w' : World} {wd : Int} {l : List SLeaf} {e : Int} (h : newI wd l = e) (h0 : e ≠ 0) (hB : Below w.heap.size w w') : RefPost w wd l (.returned (.tuple #[.pointer none, .int .i64 e])) w' := ⟨hB, .inr ⟨by rw [h]; exact h0, by rw [h]⟩⟩
end Go.Proofs.YtfcodmdckcihmaaDoor.P
namespace Go.Proofs.YtfcodmdckcihmaaDoor.P
open Go.RowKit Go.Proofs.YtfcodmdckcihmaaDoorW.PrintWords Go.Proofs.YtfcodmdckcihmaaDoorW.PrintLast Go.Proofs.YtfcodmdckcihmaaDoorW.PrintMore
set_option linter.unusedVariables false
set_option linter.unusedSimpArgs false
set_option linter.unnecessarySimpa false
attribute [local go_sem] sel_true
structure NewOk (wd : Int) (l : List SLeaf) : Prop where
 w : 1 ≤ wd ∧ wd ≤ 32
 p : l.length = 2 ^ l.length.log2
 k : ∀ x ∈ l.map (leafNodeI wd), NodeK wd x
 t : totL (l.map (leafNodeI wd)) < 340282366920938463463374607431768211456
theorem newI_zero {wd : Int} {l : List SLeaf} (h : newI wd l = 0) (hl : ∀ x ∈ l, OkL x) : NewOk wd l := by
 unfold newI at h
 by_cases hw : wd < 1 ∨ 32 < wd
 ·
  rw [if_pos hw] at h; cases h
 rw [if_neg hw] at h
 cases hp : isPow l.length with
 | false => rw [hp, if_pos rfl] at h; cases h
 | true =>
  rw [hp, if_neg (by decide)] at h
  cases ha : l.all mayLeafI with
  | false => rw [ha, if_pos rfl] at h; cases h
  | true =>
   rw [ha, if_neg (by decide)] at h
   by_cases ht : totL (l.map (leafNodeI wd)) < 340282366920938463463374607431768211456
   ·
    refine ⟨by omega, ?_, ?_, ht⟩
    ·
     unfold isPow at hp
     exact (of_decide_eq_true hp).symm
    ·
     intro x hx
     obtain ⟨y, hy, rfl⟩ := List.mem_map.1 hx
     have h1 := List.all_eq_true.1 ha y hy
     refine ⟨?_, leafNodeI_ok wd y (hl y hy).ub⟩
     unfold leafNodeI
     rw [if_pos ⟨⟨by omega, by omega⟩, h1⟩]
     have e : ((dgI wd (leafTextI y)).size : Int) = wd := by rw [dgI_size _ _ (by omega) (by omega)]; omega
     simp only [nodeOf, e]
     simp
     omega
   ·
    rw [if_neg ht] at h; cases h
structure Rl3 (w W : World) (nodes : List SNode) (l : Nat → Bool) (A2 : Option Addr) (c2 : Nat) : Prop where
 hB : Below w.heap.size w W
 hg : l 8 = true → nodes.length ≤ c2 ∧ Kd.C kNode W A2 nodes.length nodes
 o9 : l 9 = true → l 8 = true
theorem Rl3.same {w W : World} {nodes : List SNode} {l : Nat → Bool} {A2 : Option Addr} {c2 : Nat} (h : Rl3 w W nodes l A2 c2) (i : Nat) (hi : i < 8) : Rl3 w W nodes (upd l i) A2 c2 := by
 have e8 : upd l i 8 = l 8 := upd_no (by omega)
 have e9 : upd l i 9 = l 9 := upd_no (by omega)
 exact ⟨h.hB, by rw [e8]; exact h.hg, by rw [e8, e9]; exact h.o9⟩
end Go.Proofs.YtfcodmdckcihmaaDoor.P
namespace Go.Proofs.YtfcodmdckcihmaaDoor.P
open Go.RowKit Go.Proofs.YtfcodmdckcihmaaDoorW.PrintWords Go.Proofs.YtfcodmdckcihmaaDoorW.PrintLast Go.Proofs.YtfcodmdckcihmaaDoorW.PrintMore
set_option linter.unusedVariables false
set_option linter.unusedSimpArgs false
set_option linter.unnecessarySimpa false
attribute [local go_sem] sel_true
structure RrS (w W2 W : World) (x : SNode) (m : Int) (l : Nat → Bool) : Prop where
 hC : l 10 = false → Below W2.heap.size W2 W
 hz : W.heap[w.heap.size]? = some (.cells (if l 10 = true then #[.string x.f0, .int .u64 x.f1.f0, .int .u64 x.f1.f1, .int .i64 m] else #[.string ⟨#[]⟩, .int .u64 0, .int .u64 0, .int .i64 0]) 41 (0, 0))
 hD : Below w.heap.size w W
 ho : l 10 = true → ∀ i, i < 10 → l i = true
theorem RrS.no {w W2 W : World} {x : SNode} {m : Int} {l : Nat → Bool} (h : RrS w W2 W x m l) {i : Nat} (hi : i < 10) (hl : l i = false) : l 10 = false := by
 cases h7 : l 10 with
 | false => rfl
 | true => rw [h.ho h7 i hi] at hl; cases hl
theorem RrS.other {w W2 W : World} {x : SNode} {m : Int} {l : Nat → Bool} (h : RrS w W2 W x m l) (i : Nat) (hi : i < 10) (hl : l i = false) : RrS w W2 W x m (upd l i) := by
 have h7 := h.no hi hl
 have e : upd l i 10 = l 10 := upd_no (by omega)
 refine ⟨fun _ => h.hC h7, by rw [e]; exact h.hz, h.hD, fun h' => by rw [e, h7] at h'; cases h'⟩
theorem RrS.store {w W2 W : World} {x : SNode} {m : Int} {l : Nat → Bool} (h : RrS w W2 W x m l) (h7 : l 10 = false) (ha : ∀ i, i < 10 → l i = true) :
  RrS w W2 ((((W.setCell ⟨w.heap.size, 0, none⟩ (.string x.f0)).setCell ⟨w.heap.size, 1, none⟩ (.int .u64 x.f1.f0)).setCell ⟨w.heap.size, 2, none⟩ (.int .u64 x.f1.f1)).setCell ⟨w.heap.size, 3, none⟩ (.int .i64 m)) x m (upd l 10) := by
 have hz := h.hz
 rw [h7, if_neg (by decide)] at hz
 have e : upd l 10 10 = true := rfl
 refine ⟨(fun h' => by rw [e] at h'; cases h'), ?_, below_set (below_set (below_set (below_set h.hD (Nat.le_refl _)) (Nat.le_refl _)) (Nat.le_refl _)) (Nat.le_refl _), fun _ i hi => by rw [upd_no (by omega)]; exact ha i hi⟩
 rw [e, if_pos rfl]
 exact blk_put (cs' := #[.string x.f0, .int .u64 x.f1.f0, .int .u64 x.f1.f1, .int .i64 m]) (blk_put (cs' := #[.string x.f0, .int .u64 x.f1.f0, .int .u64 x.f1.f1, .int .i64 0]) (blk_put (cs' := #[.string x.f0, .int .u64 x.f1.f0, .int .u64 0, .int .i64 0]) (blk_put (cs' := #[.string x.f0, .int .u64 0, .int .u64 0, .int .i64 0]) hz 0 (.string x.f0) rfl) 1 (.int .u64 x.f1.f0) rfl) 2 (.int .u64 x.f1.f1) rfl) 3 (.int .i64 m) rfl
theorem levels_top (wd : Int) (ls : List SLeaf) : topI (treeT wd ls) = (upV wd ls.length.log2 (ls.map (leafNodeI wd))).headD nodeZ := by
 have h : (treeT wd ls).rows = levelsV wd ls.length.log2 (ls.map (leafNodeI wd)) := rfl
 unfold topI
 rw [h, levelsV_len, Nat.add_sub_cancel, List.getD_eq_getElem?_getD, levelsV_get wd _ _ _ (Nat.le_refl _)]
 rfl
theorem nodeAt_tree (wd : Int) (ls : List SLeaf) (n : Nat) (hn : n ≤ ls.length.log2) (p : Int) : nodeAtI (treeT wd ls) (n : Int) p = ((upV wd n (ls.map (leafNodeI wd))).getD p.toNat nodeZ, decide (p.toNat < (upV wd n (ls.map (leafNodeI wd))).length)) := by
 have h : (treeT wd ls).rows = levelsV wd ls.length.log2 (ls.map (leafNodeI wd)) := rfl
 have hg : (levelsV wd ls.length.log2 (ls.map (leafNodeI wd))).getD n [] = upV wd n (ls.map (leafNodeI wd)) := by rw [List.getD_eq_getElem?_getD, levelsV_get wd _ _ _ hn]; rfl
 unfold nodeAtI
 rw [h, levelsV_len, if_pos ⟨by omega, by omega⟩, Int.toNat_natCast, hg]
end Go.Proofs.YtfcodmdckcihmaaDoor.P
namespace Go.Proofs.YtfcodmdckcihmaaDoor.P
open Go.RowKit Go.Proofs.YtfcodmdckcihmaaDoorW.PrintWords Go.Proofs.YtfcodmdckcihmaaDoorW.PrintLast Go.Proofs.YtfcodmdckcihmaaDoorW.PrintMore
set_option linter.unusedVariables false
set_option linter.unusedSimpArgs false
set_option linter.unnecessarySimpa false
theorem pairsV_set (w : Int) (x : SNode) : ∀ (m : Nat) (l : List SNode) (q : Nat), l.length = 2 * m → q < 2 * m → pairsV w (l.set q x) = (pairsV w l).set (q / 2) (if q % 2 = 1 then joinV w (l.getD (q - 1) zeroN) x else joinV w x (l.getD (q + 1) zeroN))
 | m + 1, a :: b :: l, 0, h, _ => rfl
 | m + 1, a :: b :: l, 1, h, _ => rfl
 | m + 1, a :: b :: l, q + 2, h, hq => by
  have ih := pairsV_set w x m l q (by simp at h; omega) (by omega)
  rw [List.set_cons_succ, List.set_cons_succ, pairsV, pairsV, ih, show (q + 2) / 2 = q / 2 + 1 by omega, show (q + 2) % 2 = q % 2 by omega, List.set_cons_succ]
  refine congrArg (fun z => joinV w a b :: (pairsV w l).set (q / 2) z) ?_
  by_cases h1 : q % 2 = 1
  ·
   rw [if_pos h1, if_pos h1, show q + 2 - 1 = (q - 1) + 1 + 1 by omega, List.getD_cons_succ, List.getD_cons_succ]
  ·
   rw [if_neg h1, if_neg h1, show q + 2 + 1 = (q + 1) + 1 + 1 by omega, List.getD_cons_succ, List.getD_cons_succ]
def besV (w : Int) (l : List SNode) (p i : Nat) : SNode := (upV w i l).getD (if p / 2 ^ i % 2 = 1 then p / 2 ^ i - 1 else p / 2 ^ i + 1) zeroN
def wayV (w : Int) (l : List SNode) (p : Nat) (x : SNode) : Nat → SNode
 | 0 => x
 | i + 1 => if p / 2 ^ i % 2 = 1 then joinV w (besV w l p i) (wayV w l p x i) else joinV w (wayV w l p x i) (besV w l p i)
theorem upV_len2 {w : Int} {K : Nat} {l : List SNode} (h : l.length = 2 ^ K) (i : Nat) (hi : i ≤ K) : (upV w i l).length = 2 ^ (K - i) := upV_len w i (K - i) l (by rw [h]; congr 1; omega)
theorem div_lt {p K i : Nat} (hp : p < 2 ^ K) (hi : i ≤ K) : p / 2 ^ i < 2 ^ (K - i) := by
 rw [Nat.div_lt_iff_lt_mul (Nat.two_pow_pos i), ← Nat.pow_add, show K - i + i = K by omega]; exact hp
theorem upV_set (w : Int) {K : Nat} {l : List SNode} (hl : l.length = 2 ^ K) {p : Nat} (hp : p < 2 ^ K) (x : SNode) : ∀ i, i ≤ K → upV w i (l.set p x) = (upV w i l).set (p / 2 ^ i) (wayV w l p x i)
 | 0, _ => by rw [Nat.pow_zero, Nat.div_one]; rfl
 | i + 1, hi => by
  have ih := upV_set w hl hp x i (by omega)
  have h1 := upV_len2 (w := w) hl i (by omega)
  have h2 : 2 ^ (K - i) = 2 * 2 ^ (K - (i + 1)) := by rw [show K - i = (K - (i + 1)) + 1 by omega, Nat.pow_succ, Nat.mul_comm]
  have h3 := div_lt hp (show i ≤ K by omega)
  have e : (if p / 2 ^ i % 2 = 1 then joinV w ((upV w i l).getD (p / 2 ^ i - 1) zeroN) (wayV w l p x i) else joinV w (wayV w l p x i) ((upV w i l).getD (p / 2 ^ i + 1) zeroN)) = wayV w l p x (i + 1) := by
   show _ = if p / 2 ^ i % 2 = 1 then joinV w (besV w l p i) (wayV w l p x i) else joinV w (wayV w l p x i) (besV w l p i)
   unfold besV
   by_cases h : p / 2 ^ i % 2 = 1
   ·
    rw [if_pos h, if_pos h, if_pos h]
   ·
    rw [if_neg h, if_neg h, if_neg h]
  rw [upV_succ, upV_succ, ih, pairsV_set w _ (2 ^ (K - (i + 1))) _ _ (h1.trans h2) (by omega), Nat.div_div_eq_div_mul, ← Nat.pow_succ, e]
theorem upV_tot (w : Int) {K : Nat} {l : List SNode} (hl : l.length = 2 ^ K) : ∀ i, i ≤ K → totL (upV w i l) = totL l
 | 0, _ => rfl
 | i + 1, hi => by
  have h1 := upV_len2 (w := w) hl i (by omega)
  rw [upV_succ, pairsV_tot w (2 ^ (K - (i + 1))) _ (by rw [h1, show K - i = (K - (i + 1)) + 1 by omega, Nat.pow_succ, Nat.mul_comm]), upV_tot w hl i (by omega)]
theorem besV_k {w : Int} {K : Nat} {l : List SNode} (hl : l.length = 2 ^ K) (hk : ∀ x ∈ l, NodeK w x) (ht : totL l < 340282366920938463463374607431768211456) {p : Nat} (hp : p < 2 ^ K) (i : Nat) (hi : i < K) : NodeK w (besV w l p i) ∧ (if p / 2 ^ i % 2 = 1 then p / 2 ^ i - 1 else p / 2 ^ i + 1) < (upV w i l).length := by
 have h1 := upV_len2 (w := w) hl i (by omega)
 have h2 := div_lt hp (show i ≤ K by omega)
 have h3 : 2 ^ (K - i) = 2 * 2 ^ (K - (i + 1)) := by rw [show K - i = (K - (i + 1)) + 1 by omega, Nat.pow_succ, Nat.mul_comm]
 have h5 := (up_ok hl hk ht i (by omega)).2.1
 have h6 : (if p / 2 ^ i % 2 = 1 then p / 2 ^ i - 1 else p / 2 ^ i + 1) < (upV w i l).length := by
  rw [h1, h3]
  rw [h3] at h2
  generalize p / 2 ^ i = a at h2 ⊢
  generalize 2 ^ (K - (i + 1)) = b at h2 ⊢
  split <;> omega
 refine ⟨?_, h6⟩
 unfold besV
 rw [List.getD_eq_getElem?_getD, List.getElem?_eq_getElem h6]
 exact h5 _ (List.getElem_mem h6)
def setI (wd : Int) (l : List SLeaf) (p : Nat) (x : SLeaf) : Int :=
 if l.length ≤ p then 2 else if mayLeafI x = false then 130 else if totL ((l.set p x).map (leafNodeI wd)) < 340282366920938463463374607431768211456 then 0 else 10
def setL (wd : Int) (l : List SLeaf) (p : Nat) (x : SLeaf) : List SLeaf := if setI wd l p x = 0 then l.set p x else l
end Go.Proofs.YtfcodmdckcihmaaDoor.P
namespace Go.Proofs.YtfcodmdckcihmaaDoor.P
open Go.RowKit Go.Proofs.YtfcodmdckcihmaaDoorW.PrintWords Go.Proofs.YtfcodmdckcihmaaDoorW.PrintLast Go.Proofs.YtfcodmdckcihmaaDoorW.PrintMore
set_option linter.unusedVariables false
set_option linter.unusedSimpArgs false
set_option linter.unnecessarySimpa false
attribute [local go_sem] Oper.semAt_some sel_true
set_option maxRecDepth 100000 in
set_option maxHeartbeats 4000000 in
theorem treeNew.calls (wd : Int) (A : Option Addr) (c : Nat) (ls : List SLeaf) (w : World) (hK : LaidT w) (hr : Kd.C kLeaf w A ls.length ls) (hc : ls.length ≤ c) (hn : ls.length ≤ 1024) (hl : ∀ x ∈ ls, OkL x) :
  Calls Tryd.prog 14 #[.int .i64 wd, .slice A ls.length c] w (NewPost w wd ls) := by
 have HK := aM' hK
 have HR := aM' hr
 have HC := aM' hc
 have HN := aM' hn
 have HL := aM' hl
 clear hK hr hc hl hn
 obtain ⟨i0, hi, hz0, hz1, hz2⟩ := info_parts nodeInfo
 have hS0 := NwB.start w wd
 have HS0 := aM' hS0
 clear hS0
 refine (callsIn_wide (n := 3)).1 ?_
 refine callsIn_of_wp_marks Tryd.func14 rfl trivial ?_ rfl
 simp only [Tryd.ntmps14, List.size_toArray, List.length_cons, List.length_nil, Nat.reduceAdd, Nat.reduceSub, Array.replicate_succ, Array.replicate_zero, List.push_toArray, List.append_toArray, List.nil_append, List.cons_append]
 refine wpIn_wide.2 ?_
 go_wp2_with fail
 go_step3
 go_wp2_with fail
 obtain ⟨W0, hW0⟩ : ∃ V, V = ((w.alloc (.cells #[.int .i64 wd] 3)).alloc (.cells #[.pointer none] 25)).alloc (.cells #[.int .i64 0] 26) := ⟨_, rfl⟩
 rw [← hW0] at HS0 ⊢
 clear hW0
 have hsz0 := HS0.out.lt
 refine (height.calls ls.length _ HN.out).mono ?_
 rintro e w1 ⟨⟨h, rfl⟩, rfl⟩
 have x2 : W0.cell? ⟨w.heap.size, 0, none⟩ = some (.int .i64 wd) := blk_cell HS0.out.h2 0
 have x4 : W0.cell? ⟨w.heap.size + 1, 0, none⟩ = some (.pointer none) := blk_cell HS0.out.h4 0
 have x5 : W0.cell? ⟨w.heap.size + 1 + 1, 0, none⟩ = some (.int .i64 0) := blk_cell HS0.out.h5 0
 have f4 : ∀ i, W0.frozen? ⟨w.heap.size + 1, i, none⟩ = false := fun i => blk_frozen HS0.out.h4 i
 have f5 : ∀ i, W0.frozen? ⟨w.heap.size + 1 + 1, i, none⟩ = false := fun i => blk_frozen HS0.out.h5 i
 by_cases hw : wd < 1 ∨ 32 < wd
 ·
  have HI := aM' (show newI wd ls = 70 by unfold newI; rw [if_pos hw])
  by_cases h1 : wd < 1
  ·
   have b1 : decide (wd < 1) = true := decide_eq_true h1
   clear hw
   go_wp2
   exact newErr HS0.out rfl rfl HI.out (by decide)
  ·
   have b1 : decide (wd < 1) = false := decide_eq_false h1
   have b2 : decide (32 < wd) = true := decide_eq_true (by omega)
   clear hw
   go_wp2
   exact newErr HS0.out rfl rfl HI.out (by decide)
 ·
  have b1 : decide (wd < 1) = false := decide_eq_false (by omega)
  have b2 : decide (32 < wd) = false := decide_eq_false (by omega)
  have HW := aM' hw
  clear hw
  cases hp : isPow ls.length with
  | false =>
   have HI := aM' (show newI wd ls = 120 by unfold newI; rw [if_neg HW.out, if_pos hp])
   clear hp
   go_wp2
   exact newErr HS0.out rfl rfl HI.out (by decide)
  | true =>
   have HP := aM' hp
   clear hp
   have HSz := aM' hsz0
   clear hsz0
   go_wp2
   go_step3
   go_wp2
   clear x2 x4 x5 f4 f5 b1 b2
   go_loopw [8, 34] (fun v8 v34 wr => ∃ i : Nat, v34 = .int .i64 (i : Int) ∧ Aside0 (i ≤ ls.length ∧ (∀ x ∈ ls.take i, mayLeafI x = true)) ∧ Aside0 (NwB w wd wr) ∧ Aside0 (wr.ownsRow (w.heap.size + 3) 46 3 v8 i (cellsN ((ls.take i).map (leafNodeI wd))))) (fun _ v34 _ => ls.length - (intOf v34).toNat)
   case atStart => exact ⟨0, rfl, ⟨Nat.zero_le _, by simp⟩, HS0, ⟨World.ownsRow_nil _ _ _ _⟩⟩
   case round =>
    obtain ⟨i, rfl, HI, HS, HO⟩ := hrel
    obtain ⟨A8, c8, rfl⟩ : ∃ A8 c8, u8 = .slice A8 i c8 := by
     rcases HO.out.2 with ⟨h, h0⟩ | ⟨g, cap, cur, h, _⟩
     ·
      exact ⟨none, 0, by rw [h, h0]⟩
     ·
      exact ⟨_, _, h⟩
    by_cases hlt : i < ls.length
    ·
     have b1 : decide ((i : Int) < (ls.length : Int)) = true := decide_eq_true (by omega)
     have b2 : decide (i < ls.length) = true := decide_eq_true hlt
     obtain ⟨ad, e1, p0, p1, p2, p3, p4⟩ := at_TLeaf (Kd.C_below HR.out HS.out.hB) (i : Int) (by omega) (by omega)
     subst e1
     have e3 : rd_TLeaf ls (i : Int) = ls[i] := by rw [rd_TLeaf, Int.toNat_natCast]; simp [List.getD_eq_getElem?_getD, hlt]
     rw [e3, Int.toNat_natCast] at p0 p1 p2 p3 p4
     have htk : ls.take (i + 1) = ls.take i ++ [ls[i]] := by rw [List.take_succ_eq_append_getElem hlt]
     have hok := HL.out ls[i] (List.getElem_mem hlt)
     have hmem : ls[i] ∈ ls := List.getElem_mem hlt
     generalize ls[i] = x at p0 p1 p2 p3 p4 htk hok hmem
     have HMEM := aM' hmem
     have HM := aM' (tagMayLeaf_eq x hok.id)
     obtain ⟨kl, hkl⟩ := (tagLeafNode_ev wd x hok.id hok.sa).rounds
     have HLN := aM' hkl
     have HTK := aM' htk
     have HLT := aM' hlt
     clear hkl htk hok e3 hmem
     have hx2 := blk_cell (blk_alloc HS.out.h2 (.cells (acL x) 36)) 0
     go_wp2_with fail
     have HS1 := aM' (HS.out.below (below_alloc (Below.refl _ _) (.cells (acL x) 36)))
     have HX := aM' (blk_new wr (.cells (acL x) 36))
     have HO1 := aM' (ownB HO.out (below_alloc (Below.refl _ _) (.cells (acL x) 36)))
     clear p0 p1 p2 p3 p4 hx2
     refine (tag_MayLeaf.calls x.f0 x.f1 x.f2 x.f3.f0 x.f3.f1 (mayLeafI x) _ (HK.out.below HS1.out.hB) HM.out).mono ?_
     rintro e w2 ⟨rfl, hb⟩
     have HS2 := aM' (HS1.out.below hb)
     have HX2 := aM' (blk_below HX.out hb)
     have HO2 := aM' (ownB HO1.out hb)
     clear hb
     cases hml : mayLeafI x with
     | true =>
      have HML := aM' hml
      clear hml
      have q0 := blk_cell HX2.out 0
      have q1 := blk_cell HX2.out 1
      have q2 := blk_cell HX2.out 2
      have q3 := blk_cell HX2.out 3
      have q4 := blk_cell HX2.out 4
      have x2 := blk_cell HS2.out.h2 0
      simp at q0 q1 q2 q3 q4 x2
      go_wp2_with fail
      refine (tag_LeafNode.calls kl wd x.f0 x.f1 x.f2 x.f3.f0 x.f3.f1 _ _ _ _ (HK.out.below HS2.out.hB) HLN.out).mono ?_
      rintro e w3 ⟨rfl, hb⟩
      have HS3 := aM' (HS2.out.below hb)
      have HO3 := aM' (ownB HO2.out hb)
      clear hb q0 q1 q2 q3 q4 x2
      generalize hnx : leafNodeI wd x = nx
      go_wp2_with (at_builtin; refine wpList_append_own _ rfl _ _ 43 rfl (w.heap.size + 3) 46 i0 (.agg #[(.string ⟨#[]⟩), (.int .u64 0), (.int .u64 0)]) 3 32 Tryd.underlying43 hi hz0 hz1 hz2 rfl (by decide) (.slice A8 i c8) i _ rfl (ownB HO3.out (below_alloc (Below.refl _ _) (.cells (nodeA nx) 46))) ⟨w3.heap.size, 0, none⟩ 1 1 [.string nx.f0, .int .u64 nx.f1.f0, .int .u64 nx.f1.f1] rfl rfl ?c2 ?c3 ?c4 ?c5 ?c6 ?_)
      case c2 => exact World.news_of_block (blk_new w3 (.cells (nodeA nx) 46))
      case c3 =>
       intro u hu
       simp only [List.mem_cons, List.not_mem_nil, or_false] at hu
       rcases hu with rfl | rfl | rfl <;> rfl
      case c4 => have := HN.out; unfold maxLen; omega
      case c5 => have := HN.out; omega
      case c6 => rw [World.size_alloc]; have := HS3.out.lt; omega
      intro v' w' hown hgr hnil
      have hS4 := (HS3.out.below (below_alloc (Below.refl _ _) (.cells (nodeA nx) 46))).grown hgr (fun r hr => (HO3.out.lt r hr).1)
      have HS4 := aM' hS4
      have hown2 : w'.ownsRow (w.heap.size + 3) 46 3 v' (i + 1) (cellsN ((ls.take (i + 1)).map (leafNodeI wd))) := by
       rw [HTK.out, List.map_append, cellsN_append]
       rw [List.map_cons, List.map_nil, hnx]
       rw [← List.map_take] at hown
       exact hown
      have HO4 := aM' hown2
      clear hown hgr hnil hS4 hown2 hnx
      have hi1 : i ≤ 1024 := by have := HN.out; omega
      go_wp2
      go_roundw
      case rel => exact ⟨i + 1, by go_num, ⟨by omega, fun y hy => by
       rw [HTK.out] at hy
       rcases List.mem_append.1 hy with hy | hy
       ·
        exact HI.out.2 y hy
       ·
        rw [List.mem_singleton.1 hy]; exact HML.out⟩, HS4, HO4⟩
      case measure => simp [intOf]; omega
     | false =>
      have HML := aM' hml
      clear hml
      have x4 : w2.cell? ⟨w.heap.size + 1, 0, none⟩ = some (.pointer none) := blk_cell HS2.out.h4 0
      have x5 : w2.cell? ⟨w.heap.size + 1 + 1, 0, none⟩ = some (.int .i64 0) := blk_cell HS2.out.h5 0
      have f4 : ∀ i, w2.frozen? ⟨w.heap.size + 1, i, none⟩ = false := fun i => blk_frozen HS2.out.h4 i
      have f5 : ∀ i, w2.frozen? ⟨w.heap.size + 1 + 1, i, none⟩ = false := fun i => blk_frozen HS2.out.h5 i
      go_wp2
      exact newErr HS2.out rfl rfl (by
       unfold newI
       rw [if_neg HW.out, if_neg (by rw [HP.out]; decide), if_pos]
       exact List.all_eq_false.2 ⟨x, HMEM.out, by rw [HML.out]; decide⟩) (by decide)
    ·
     obtain rfl : i = ls.length := by have := HI.out.1; omega
     have hpos : 0 < ls.length := by
      rcases Nat.eq_zero_or_pos ls.length with h0 | h0
      ·
       have := HP.out; rw [h0] at this; exact absurd this (by decide)
      ·
       exact h0
     have b1 : decide ((ls.length : Int) < (ls.length : Int)) = false := decide_eq_false (by omega)
     have b2 : decide (ls.length < ls.length) = false := decide_eq_false hlt
     have hall : ls.all mayLeafI = true := List.all_eq_true.2 (fun x hx => HI.out.2 x (by rw [List.take_length]; exact hx))
     have ho := HO.out
     rw [List.take_length] at ho
     obtain ⟨gc, cc, hv, -, hgc⟩ := ho.form hpos
     cases hv
     have hnl : (ls.map (leafNodeI wd)).length = ls.length := List.length_map ..
     have HALL := aM' hall
     have HO := aM' ho
     have HPOS := aM' hpos
     have HNL := aM' hnl
     clear hall ho hpos hnl hgc
     obtain ⟨ad, rfl⟩ : ∃ ad, A = some ad := by
      obtain ⟨_, _, h3⟩ := HR.out
      obtain ⟨a, ha, _⟩ := h3 HPOS.out
      exact ⟨a, ha⟩
     go_upto_region 15 with (fail)
     refine wp_forget (fun x => ({ tmps := #[.int .i64 wd, .slice (some ad) ls.length c, .pointer (some ⟨w.heap.size, 0, none⟩), x 3, .pointer (some ⟨w.heap.size + 1, 0, none⟩), .pointer (some ⟨w.heap.size + 1 + 1, 0, none⟩), x 6, x 7, .slice (some ⟨gc, 0, none⟩) ls.length c8, x 9, x 10, x 11, x 12, x 13, x 14, x 15, x 16, x 17, x 18, x 19, x 20, x 21, x 22, x 23, x 24, x 25, x 26, x 27, x 28, x 29, x 30, x 31, x 32, x 33, x 34, x 35, x 36, x 37, x 38, x 39, x 40, x 41, x 42, x 43, x 44, x 45, x 46, x 47, x 48, x 49, x 50, x 51, x 52, x 53, x 54, x 55, x 56, x 57, x 58, x 59, x 60, x 61, x 62, x 63, x 64, x 65, x 66, x 67, x 68, x 69, x 70, x 71, x 72, x 73, x 74, x 75, x 76, x 77, x 78, x 79, x 80, x 81, x 82, x 83, x 84, x 85, x 86, x 87, x 88, x 89, x 90, x 91, x 92, x 93, x 94, x 95, x 96, x 97, x 98, x 99, x 100], defers := [] } : Act)) rfl ?_
     intro x
     have HCL := aM' (fun (V : World) (hb : Below w.heap.size w V) => cloneL.calls ad c ls V (Kd.C_below HR.out hb) HPOS.out HN.out)
     clear b1 b2
     refine region_inv (fun l a W => ∃ γ : Nat, ∃ κ : Nat, ∃ δ : Nat, a = ({ tmps := #[.int .i64 wd, .slice (some ad) ls.length c, .pointer (some ⟨w.heap.size, 0, none⟩), x 3, .pointer (some ⟨w.heap.size + 1, 0, none⟩), .pointer (some ⟨w.heap.size + 1 + 1, 0, none⟩), x 6, x 7, .slice (some ⟨gc, 0, none⟩) ls.length c8, x 9, x 10, sel (l 5) (.pointer (some ⟨δ, 0, none⟩)) (x 11), x 12, x 13, x 14, x 15, x 16, x 17, x 18, x 19, x 20, x 21, x 22, x 23, x 24, x 25, x 26, x 27, x 28, x 29, x 30, x 31, x 32, x 33, x 34, x 35, x 36, x 37, x 38, x 39, x 40, x 41, x 42, x 43, x 44, x 45, x 46, x 47, x 48, x 49, x 50, x 51, x 52, sel (l 0) (.int .i64 wd) (x 53), sel (l 1) (.slice (some ad) ls.length c) (x 54), sel (l 2) (.slice (some ⟨γ, 0, none⟩) ls.length κ) (x 55), sel (l 3) (.agg #[.int .i64 wd, .slice (some ⟨γ, 0, none⟩) ls.length κ, .slice none 0 0]) (x 56), sel (l 4) (.pointer (some ⟨δ, 0, none⟩)) (x 57), x 58, x 59, x 60, x 61, x 62, x 63, x 64, x 65, x 66, x 67, x 68, x 69, x 70, x 71, x 72, x 73, x 74, x 75, x 76, x 77, x 78, x 79, x 80, x 81, x 82, x 83, x 84, x 85, x 86, x 87, x 88, x 89, x 90, x 91, x 92, x 93, x 94, x 95, x 96, x 97, x 98, x 99, x 100], defers := [] } : Act) ∧ Nw15 wr W wd ls l γ κ δ) 6 rfl rfl (by kernel_rfl) ?h0 ?hend ?hstep
     case h0 => exact ⟨0, 0, 0, rfl, below_drew (Below.refl _ _), (fun h => by cases h), (fun h => by cases h), (fun h => by cases h), (fun h => by cases h), (fun h => by cases h)⟩
     case hstep =>
      refine rg_cons (rg_cons (rg_cons (rg_cons (rg_cons (rg_cons (rg_nil) ?s0) ?s1) ?s2) ?s3) ?s4) ?s5
      case s0 =>
       refine rg_step rfl ?_
       rintro l a W ⟨γ, κ, δ, rfl, hI⟩ hl hd
       clear hd
       have x0 := blk_cell (blk_below HS.out.h2 hI.hB) 0
       simp at x0
       refine rg_val (v := .int .i64 wd) (w' := W) rfl (by go_simp) ?_
       refine ⟨γ, κ, δ, ?_, ?_⟩
       ·
        simp only [Act.put, List.setIfInBounds_toArray, List.set_cons_zero, List.set_cons_succ]; rfl
       ·
        exact hI.same 0 (by decide)
      case s1 =>
       refine rg_step rfl ?_
       rintro l a W ⟨γ, κ, δ, rfl, hI⟩ hl hd
       clear hd
       refine rg_val (v := .slice (some ad) ls.length c) (w' := W) rfl (by go_simp) ?_
       refine ⟨γ, κ, δ, ?_, ?_⟩
       ·
        simp only [Act.put, List.setIfInBounds_toArray, List.set_cons_zero, List.set_cons_succ]; rfl
       ·
        exact hI.same 1 (by decide)
      case s2 =>
       refine rg_step rfl ?_
       rintro l a W ⟨γ, κ, δ, rfl, hI⟩ hl hd
       have d1 := hd 1 (by decide)
       clear hd
       refine rg_call rfl (by go_simp; exact ⟨rfl, rfl⟩) ?_
       refine (HCL.out W (HS.out.hB.trans (hI.hB.mono HS.out.hB.size))).mono ?_
       rintro xx W' ⟨g, cap, rfl, ho, hb, hg⟩
       have h3 := hI.no3 hl
       have h3' : upd l 2 3 = false := h3
       refine ⟨_, rfl, g, cap, δ, ?_, ?_⟩
       ·
        simp only [Act.put, List.setIfInBounds_toArray, List.set_cons_zero, List.set_cons_succ, h3, h3']; rfl
       ·
        exact hI.clone hl hb ho hg HPOS.out
      case s3 =>
       refine rg_step rfl ?_
       rintro l a W ⟨γ, κ, δ, rfl, hI⟩ hl hd
       have d0 := hd 0 (by decide)
       have d2 := hd 2 (by decide)
       clear hd
       refine rg_val (v := .agg #[.int .i64 wd, .slice (some ⟨γ, 0, none⟩) ls.length κ, .slice none 0 0]) (w' := W) rfl (by go_simp) ?_
       refine ⟨γ, κ, δ, ?_, ?_⟩
       ·
        simp only [Act.put, List.setIfInBounds_toArray, List.set_cons_zero, List.set_cons_succ]; rfl
       ·
        exact hI.three d2
      case s4 =>
       refine rg_step rfl ?_
       rintro l a W ⟨γ, κ, δ, rfl, hI⟩ hl hd
       have d3 := hd 3 (by decide)
       clear hd
       refine rg_val (v := .pointer (some ⟨W.heap.size, 0, none⟩)) (w' := W.alloc (.cells #[.int .i64 wd, .slice (some ⟨γ, 0, none⟩) ls.length κ, .slice none 0 0] 105 (0, 0))) rfl (by go_simp) ?_
       have h5 := hI.no5 hl
       have h5' : upd l 4 5 = false := h5
       refine ⟨γ, κ, W.heap.size, ?_, ?_⟩
       ·
        simp only [Act.put, List.setIfInBounds_toArray, List.set_cons_zero, List.set_cons_succ, h5, h5']; rfl
       ·
        exact hI.box d3
      case s5 =>
       refine rg_step rfl ?_
       rintro l a W ⟨γ, κ, δ, rfl, hI⟩ hl hd
       have d4 := hd 4 (by decide)
       clear hd
       refine rg_val (v := .pointer (some ⟨δ, 0, none⟩)) (w' := W) rfl (by go_simp) ?_
       refine ⟨γ, κ, δ, ?_, ?_⟩
       ·
        simp only [Act.put, List.setIfInBounds_toArray, List.set_cons_zero, List.set_cons_succ]; rfl
       ·
        exact hI.five d4
     case hend =>
      rintro l a W ⟨γ, κ, δ, rfl, hI⟩ hall
      have e0 := hall 0 (by decide)
      have e1 := hall 1 (by decide)
      have e2 := hall 2 (by decide)
      have e3 := hall 3 (by decide)
      have e4 := hall 4 (by decide)
      have e5 := hall 5 (by decide)
      clear hall
      have hl := hI.hl e2
      have ht := hI.ht e4
      have hB := hI.hB
      simp only [e0, e1, e2, e3, e4, e5, sel_true]
      clear e0 e1 e2 e3 e4 e5
      clear hI
      obtain ⟨l1, l2, l3⟩ := hl
      obtain ⟨t1, t2, t3⟩ := ht
      have hsz := HS.out.lt
      have hbs := HS.out.below hB
      have hcur := ownB HO.out hB
      have hgcl := (HO.out.lt gc rfl)
      obtain ⟨nodes, hnodes⟩ : ∃ n, n = ls.map (leafNodeI wd) := ⟨_, rfl⟩
      have hnl : nodes.length = ls.length := by rw [hnodes]; exact HNL.out
      rw [← hnodes, ← hnl] at hcur
      obtain ⟨K, hK⟩ := isPow_spec HP.out
      have hK10 : K ≤ 10 := by
       rcases Nat.lt_or_ge 10 K with h | h
       ·
        have := Nat.pow_le_pow_right (n := 2) (by decide) (show 11 ≤ K by omega)
        have := HN.out
        omega
       ·
        exact h
      have hH : NwH w wd ls δ γ κ [] [] [] nodes gc c8 none 0 W := by
       obtain ⟨cs, hcs⟩ := own_cells hcur rfl
       refine ⟨⟨hbs, t3, own_base l3 (by omega), World.ownsRow_nil _ _ _ _, trivial, ?_, (fun k hk => by cases hk), by omega, List.nodup_nil, (fun D hD => by cases hD)⟩, hcur, ⟨hgcl.1, ?_, (fun h => by cases h), cs, _, _, hcs⟩, ⟨K, K, hnl.trans hK, hK, by simp, by rw [hnodes]; rfl⟩, ?_, by rw [hnodes], ⟨Nat.zero_le _, by rw [hnl]; exact HN.out, HN.out⟩, fun D hD => by cases hD⟩
       ·
        simp only [List.map_nil, List.nodup_cons, List.mem_cons, List.not_mem_nil, or_false, not_false_eq_true, List.nodup_nil, and_true]
        exact t2
       ·
        simp only [List.map_nil, List.mem_cons, List.not_mem_nil, or_false]
        omega
       ·
        intro x hx
        rw [hnodes] at hx
        obtain ⟨y, hy, rfl⟩ := List.mem_map.1 hx
        have h1 := List.all_eq_true.1 HALL.out y hy
        have h2 := HW.out
        refine ⟨?_, leafNodeI_ok wd y (HL.out y hy).ub⟩
        unfold leafNodeI
        rw [if_pos ⟨⟨by omega, by omega⟩, h1⟩]
        have e : ((dgI wd (leafTextI y)).size : Int) = wd := by rw [dgI_size _ _ (by omega) (by omega)]; omega
        simp only [nodeOf, e]
        simp
        omega
      have HH := aM' hH
      clear l1 l2 l3 t1 t2 t3 hsz hbs hcur hgcl hH hK hK10 hB
      have HNODES := aM' hnodes
      have HNL2 := aM' hnl
      clear hnl hnodes
      go_wp2_with fail
      refine wp_forget (fun x => ({ tmps := #[.int .i64 wd, .slice (some ad) ls.length c, .pointer (some ⟨w.heap.size, 0, none⟩), x 3, .pointer (some ⟨w.heap.size + 1, 0, none⟩), .pointer (some ⟨w.heap.size + 1 + 1, 0, none⟩), x 6, x 7, .slice (some ⟨gc, 0, none⟩) ls.length c8, x 9, x 10, .pointer (some ⟨δ, 0, none⟩), x 12, x 13, x 14, x 15, x 16, x 17, x 18, x 19, x 20, x 21, x 22, x 23, x 24, x 25, x 26, x 27, x 28, x 29, x 30, x 31, x 32, x 33, x 34, x 35, x 36, x 37, x 38, x 39, x 40, x 41, x 42, x 43, x 44, x 45, x 46, x 47, x 48, x 49, x 50, x 51, x 52, x 53, x 54, x 55, x 56, x 57, x 58, x 59, x 60, x 61, x 62, x 63, x 64, x 65, x 66, x 67, x 68, x 69, x 70, x 71, x 72, x 73, x 74, x 75, x 76, x 77, x 78, x 79, x 80, x 81, x 82, x 83, x 84, x 85, x 86, x 87, x 88, x 89, x 90, x 91, x 92, x 93, x 94, x 95, x 96, x 97, x 98, x 99, x 100], defers := [] } : Act)) rfl ?_
      intro x
      obtain ⟨I, hI⟩ : ∃ I : Act → World → Prop, I = fun a V => ∃ (x : Nat → Value) (gs : List RowG) (done : List (List SNode)) (ds : List Nat) (cur : List SNode) (gc cc : Nat) (A9 : Option Addr) (c9 : Nat), a = ({ tmps := #[.int .i64 wd, .slice (some ad) ls.length c, .pointer (some ⟨w.heap.size, 0, none⟩), x 3, .pointer (some ⟨w.heap.size + 1, 0, none⟩), .pointer (some ⟨w.heap.size + 1 + 1, 0, none⟩), x 6, x 7, .slice (some ⟨gc, 0, none⟩) cur.length cc, x 9, x 10, .pointer (some ⟨δ, 0, none⟩), x 12, x 13, x 14, x 15, x 16, x 17, x 18, x 19, x 20, x 21, x 22, x 23, x 24, x 25, x 26, x 27, x 28, x 29, x 30, x 31, x 32, x 33, x 34, x 35, x 36, x 37, x 38, x 39, x 40, x 41, x 42, x 43, x 44, x 45, x 46, x 47, x 48, x 49, x 50, x 51, x 52, x 53, x 54, x 55, x 56, x 57, x 58, x 59, x 60, x 61, x 62, x 63, x 64, x 65, x 66, x 67, x 68, x 69, x 70, x 71, x 72, x 73, x 74, x 75, x 76, x 77, x 78, x 79, x 80, x 81, x 82, x 83, x 84, x 85, x 86, x 87, x 88, x 89, x 90, x 91, x 92, x 93, x 94, x 95, x 96, x 97, x 98, x 99, x 100], defers := ds.map markD } : Act) ∧ NwH w wd ls δ γ κ gs done ds cur gc cc A9 c9 V := ⟨_, rfl⟩
      refine wp_loop I (fun a _ => lenT a) ?lstart ?lround
      case lstart =>
       rw [hI]
       refine ⟨x, [], [], [], nodes, gc, c8, none, 0, ?_, HH.out⟩
       rw [HNL2.out]
       rfl
      case lround =>
       clear HH HO
       intro a V ha
       rw [hI] at ha
       obtain ⟨x, gs, done, ds, cur, gc, cc, A9, c9, rfl, hH⟩ := ha
       have HI := aM' hI
       have HH := aM' hH
       clear hI hH
       have hT := HH.out.t
       have hO := HH.out.o
       have hm := HH.out.m
       have hlen := hT.hg.len
       obtain ⟨j0, hj, hj0, hj1, hj2⟩ := info_parts levelInfo
       have HTT := aM' hT
       have HOO := aM' hO
       have HMM := aM' hm
       clear hT hO hlen
       go_wp2_with fail
       refine region_inv (fun l a W => ∃ γ1 : Nat, ∃ γ2 : Nat, ∃ κ2 : Nat, a = ({ tmps := #[.int .i64 wd, .slice (some ad) ls.length c, .pointer (some ⟨w.heap.size, 0, none⟩), x 3, .pointer (some ⟨w.heap.size + 1, 0, none⟩), .pointer (some ⟨w.heap.size + 1 + 1, 0, none⟩), x 6, x 7, .slice (some ⟨gc, 0, none⟩) cur.length cc, x 9, x 10, .pointer (some ⟨δ, 0, none⟩), x 12, x 13, x 14, x 15, x 16, x 17, x 18, x 19, x 20, x 21, x 22, x 23, x 24, x 25, x 26, x 27, x 28, x 29, x 30, x 31, x 32, x 33, x 34, x 35, x 36, x 37, x 38, x 39, x 40, x 41, x 42, x 43, x 44, x 45, x 46, x 47, x 48, x 49, x 50, x 51, x 52, x 53, x 54, x 55, x 56, x 57, sel (l 0) (.pointer (some ⟨δ, 0, none⟩)) (x 58), sel (l 1) (.pointer (some ⟨δ, 0, none⟩)) (x 59), sel (l 2) (.pointer (some ⟨δ, 0, none⟩)) (x 60), sel (l 3) (.pointer (some ⟨δ, 2, none⟩)) (x 61), sel (l 4) (.slice A9 done.length c9) (x 62), sel (l 5) (.slice (some ⟨gc, 0, none⟩) cur.length cc) (x 63), sel (l 6) (.agg #[.slice (some ⟨gc, 0, none⟩) cur.length cc]) (x 64), sel (l 7) (.pointer (some ⟨δ, 0, none⟩)) (x 65), sel (l 8) (.pointer (some ⟨δ, 0, none⟩)) (x 66), sel (l 9) (.pointer (some ⟨δ, 2, none⟩)) (x 67), sel (l 10) (.slice A9 done.length c9) (x 68), sel (l 11) (.int .i64 (done.length : Int)) (x 69), sel (l 12) (.agg #[.slice (some ⟨gc, 0, none⟩) cur.length cc, .int .i64 (done.length : Int)]) (x 70), sel (l 13) (.slice (some ⟨γ1, 0, none⟩) 1 1) (x 71), sel (l 14) (.slice (some ⟨γ2, 0, none⟩) (done.length + 1) κ2) (x 72), sel (l 15) (.pointer (some ⟨δ, 0, none⟩)) (x 73), sel (l 16) (.pointer (some ⟨δ, 2, none⟩)) (x 74), x 75, x 76, x 77, x 78, x 79, x 80, x 81, x 82, x 83, x 84, x 85, x 86, x 87, x 88, x 89, x 90, x 91, x 92, x 93, x 94, x 95, x 96, x 97, x 98, x 99, x 100], defers := ds.map markD } : Act) ∧ Nw16 w V W wd ls δ γ κ (.slice A9 done.length c9) gs done ds (gc, cc) cur l γ1 γ2 κ2) 18 rfl rfl (by kernel_rfl) ?h0 ?hend ?hstep
       case h0 => exact ⟨0, 0, 0, rfl, ⟨fun _ => below_drew (Below.refl _ _), (fun h => by cases h), (fun h => by cases h), (fun h => by cases h), (fun h => by cases h), (fun h => by cases h), (fun h => by cases h), (fun h => by cases h), (fun h => by cases h)⟩⟩
       case hstep =>
        refine rg_cons (rg_cons (rg_cons (rg_cons (rg_cons (rg_cons (rg_cons (rg_cons (rg_cons (rg_cons (rg_cons (rg_cons (rg_cons (rg_cons (rg_cons (rg_cons (rg_cons (rg_cons (rg_nil) ?s0) ?s1) ?s2) ?s3) ?s4) ?s5) ?s6) ?s7) ?s8) ?s9) ?s10) ?s11) ?s12) ?s13) ?s14) ?s15) ?s16) ?s17
        case s0 =>
         refine rg_step rfl ?_
         rintro l a W ⟨γ1, γ2, κ2, rfl, hI⟩ hl hd
         clear hd
         refine rg_val (v := .pointer (some ⟨δ, 0, none⟩)) (w' := W) rfl (by go_simp) ?_
         refine ⟨γ1, γ2, κ2, ?_, ?_⟩
         ·
          simp only [Act.put, List.setIfInBounds_toArray, List.set_cons_zero, List.set_cons_succ]; rfl
         ·
          exact hI.pure 0 (by decide) (fun h => absurd h (by decide)) (fun h => absurd h (by decide))
        case s1 =>
         refine rg_step rfl ?_
         rintro l a W ⟨γ1, γ2, κ2, rfl, hI⟩ hl hd
         clear hd
         refine rg_val (v := .pointer (some ⟨δ, 0, none⟩)) (w' := W) rfl (by go_simp) ?_
         refine ⟨γ1, γ2, κ2, ?_, ?_⟩
         ·
          simp only [Act.put, List.setIfInBounds_toArray, List.set_cons_zero, List.set_cons_succ]; rfl
         ·
          exact hI.pure 1 (by decide) (fun h => absurd h (by decide)) (fun h => absurd h (by decide))
        case s2 =>
         refine rg_step rfl ?_
         rintro l a W ⟨γ1, γ2, κ2, rfl, hI⟩ hl hd
         have d1 := hd 1 (by decide)
         clear hd
         refine rg_val (v := .pointer (some ⟨δ, 0, none⟩)) (w' := W) rfl (by go_simp) ?_
         refine ⟨γ1, γ2, κ2, ?_, ?_⟩
         ·
          simp only [Act.put, List.setIfInBounds_toArray, List.set_cons_zero, List.set_cons_succ]; rfl
         ·
          exact hI.pure 2 (by decide) (fun h => absurd h (by decide)) (fun h => absurd h (by decide))
        case s3 =>
         refine rg_step rfl ?_
         rintro l a W ⟨γ1, γ2, κ2, rfl, hI⟩ hl hd
         have d2 := hd 2 (by decide)
         clear hd
         refine rg_val (v := .pointer (some ⟨δ, 2, none⟩)) (w' := W) rfl (by go_simp) ?_
         refine ⟨γ1, γ2, κ2, ?_, ?_⟩
         ·
          simp only [Act.put, List.setIfInBounds_toArray, List.set_cons_zero, List.set_cons_succ]; rfl
         ·
          exact hI.pure 3 (by decide) (fun h => absurd h (by decide)) (fun h => absurd h (by decide))
        case s4 =>
         refine rg_step rfl ?_
         rintro l a W ⟨γ1, γ2, κ2, rfl, hI⟩ hl hd
         have d3 := hd 3 (by decide)
         clear hd
         have hb := hI.hA (hI.no4 hl)
         have x0 := blk_cell (blk_below HTT.out.ht hb) 2
         simp at x0
         refine rg_val (v := .slice A9 done.length c9) (w' := W) rfl (by go_simp) ?_
         refine ⟨γ1, γ2, κ2, ?_, ?_⟩
         ·
          simp only [Act.put, List.setIfInBounds_toArray, List.set_cons_zero, List.set_cons_succ]; rfl
         ·
          exact hI.pure 4 (by decide) (fun h => absurd h (by decide)) (fun h => absurd h (by decide))
        case s5 =>
         refine rg_step rfl ?_
         rintro l a W ⟨γ1, γ2, κ2, rfl, hI⟩ hl hd
         clear hd
         refine rg_val (v := .slice (some ⟨gc, 0, none⟩) cur.length cc) (w' := W) rfl (by go_simp) ?_
         refine ⟨γ1, γ2, κ2, ?_, ?_⟩
         ·
          simp only [Act.put, List.setIfInBounds_toArray, List.set_cons_zero, List.set_cons_succ]; rfl
         ·
          exact hI.pure 5 (by decide) (fun h => absurd h (by decide)) (fun h => absurd h (by decide))
        case s6 =>
         refine rg_step rfl ?_
         rintro l a W ⟨γ1, γ2, κ2, rfl, hI⟩ hl hd
         have d5 := hd 5 (by decide)
         clear hd
         refine rg_val (v := .agg #[.slice (some ⟨gc, 0, none⟩) cur.length cc]) (w' := W) rfl (by go_simp) ?_
         refine ⟨γ1, γ2, κ2, ?_, ?_⟩
         ·
          simp only [Act.put, List.setIfInBounds_toArray, List.set_cons_zero, List.set_cons_succ]; rfl
         ·
          exact hI.pure 6 (by decide) (fun h => absurd h (by decide)) (fun h => absurd h (by decide))
        case s7 =>
         refine rg_step rfl ?_
         rintro l a W ⟨γ1, γ2, κ2, rfl, hI⟩ hl hd
         clear hd
         refine rg_val (v := .pointer (some ⟨δ, 0, none⟩)) (w' := W) rfl (by go_simp) ?_
         refine ⟨γ1, γ2, κ2, ?_, ?_⟩
         ·
          simp only [Act.put, List.setIfInBounds_toArray, List.set_cons_zero, List.set_cons_succ]; rfl
         ·
          exact hI.pure 7 (by decide) (fun h => absurd h (by decide)) (fun h => absurd h (by decide))
        case s8 =>
         refine rg_step rfl ?_
         rintro l a W ⟨γ1, γ2, κ2, rfl, hI⟩ hl hd
         have d7 := hd 7 (by decide)
         clear hd
         refine rg_val (v := .pointer (some ⟨δ, 0, none⟩)) (w' := W) rfl (by go_simp) ?_
         refine ⟨γ1, γ2, κ2, ?_, ?_⟩
         ·
          simp only [Act.put, List.setIfInBounds_toArray, List.set_cons_zero, List.set_cons_succ]; rfl
         ·
          exact hI.pure 8 (by decide) (fun h => absurd h (by decide)) (fun h => absurd h (by decide))
        case s9 =>
         refine rg_step rfl ?_
         rintro l a W ⟨γ1, γ2, κ2, rfl, hI⟩ hl hd
         have d8 := hd 8 (by decide)
         clear hd
         refine rg_val (v := .pointer (some ⟨δ, 2, none⟩)) (w' := W) rfl (by go_simp) ?_
         refine ⟨γ1, γ2, κ2, ?_, ?_⟩
         ·
          simp only [Act.put, List.setIfInBounds_toArray, List.set_cons_zero, List.set_cons_succ]; rfl
         ·
          exact hI.pure 9 (by decide) (fun h => absurd h (by decide)) (fun h => absurd h (by decide))
        case s10 =>
         refine rg_step rfl ?_
         rintro l a W ⟨γ1, γ2, κ2, rfl, hI⟩ hl hd
         have d9 := hd 9 (by decide)
         clear hd
         have hb := hI.hA (hI.no10 hl)
         have x0 := blk_cell (blk_below HTT.out.ht hb) 2
         simp at x0
         refine rg_val (v := .slice A9 done.length c9) (w' := W) rfl (by go_simp) ?_
         refine ⟨γ1, γ2, κ2, ?_, ?_⟩
         ·
          simp only [Act.put, List.setIfInBounds_toArray, List.set_cons_zero, List.set_cons_succ]; rfl
         ·
          exact hI.pure 10 (by decide) (fun h => absurd h (by decide)) (fun h => absurd h (by decide))
        case s11 =>
         refine rg_step rfl ?_
         rintro l a W ⟨γ1, γ2, κ2, rfl, hI⟩ hl hd
         have d10 := hd 10 (by decide)
         clear hd
         refine rg_val (v := .int .i64 (done.length : Int)) (w' := W) rfl (by go_simp) ?_
         refine ⟨γ1, γ2, κ2, ?_, ?_⟩
         ·
          simp only [Act.put, List.setIfInBounds_toArray, List.set_cons_zero, List.set_cons_succ]; rfl
         ·
          exact hI.pure 11 (by decide) (fun _ => d10) (fun h => absurd h (by decide))
        case s12 =>
         refine rg_step rfl ?_
         rintro l a W ⟨γ1, γ2, κ2, rfl, hI⟩ hl hd
         have d6 := hd 6 (by decide)
         have d11 := hd 11 (by decide)
         clear hd
         refine rg_val (v := .agg #[.slice (some ⟨gc, 0, none⟩) cur.length cc, .int .i64 (done.length : Int)]) (w' := W) rfl (by go_simp) ?_
         refine ⟨γ1, γ2, κ2, ?_, ?_⟩
         ·
          simp only [Act.put, List.setIfInBounds_toArray, List.set_cons_zero, List.set_cons_succ]; rfl
         ·
          exact hI.pure 12 (by decide) (fun h => absurd h (by decide)) (fun _ => d11)
        case s13 =>
         refine rg_step rfl ?_
         rintro l a W ⟨γ1, γ2, κ2, rfl, hI⟩ hl hd
         have d12 := hd 12 (by decide)
         clear hd
         refine rg_val (v := .slice (some ⟨W.heap.size, 0, none⟩) 1 1) (w' := W.alloc (.cells #[.slice (some ⟨gc, 0, none⟩) cur.length cc, .int .i64 (done.length : Int)] 109 (0, 0))) rfl (by go_simp) ?_
         have h14 := hI.no13 hl
         refine ⟨W.heap.size, γ2, κ2, ?_, ?_⟩
         ·
          simp only [Act.put, List.setIfInBounds_toArray, List.set_cons_zero, List.set_cons_succ]; rfl
         ·
          exact hI.made hl d12
        case s14 =>
         refine rg_step rfl ?_
         rintro l a W ⟨γ1, γ2, κ2, rfl, hI⟩ hl hd
         have d4 := hd 4 (by decide)
         have d13 := hd 13 (by decide)
         clear hd
         have h14 : l 14 = false := hl
         have h17 := hI.no17 h14
         have hb := hI.hA h14
         have hgt := hI.hT d13 h14
         obtain ⟨g, κ', W', hrun, hown, hgr, hgg, -⟩ := run_append_lies (P := Tryd.prog) W 103 103 (w.heap.size + 3) 109 j0 (.agg #[.slice none 0 0, .int .i64 0]) 2 32 Tryd.underlying103 hj hj0 hj1 hj2 rfl (by decide) (.slice A9 done.length c9) done.length _ (ownB HTT.out.hv hb) ⟨γ1, 0, none⟩ 1 1 [.slice (some ⟨gc, 0, none⟩) cur.length cc, .int .i64 (done.length : Int)] rfl (World.news_of_block hgt) (by
          intro u hu
          simp only [List.mem_cons, List.not_mem_nil, or_false] at hu
          rcases hu with rfl | rfl <;> rfl) (by decide) (by have := HMM.out.1; unfold maxLen; omega) (by have := HMM.out.1; omega) (by have := HTT.out.bx.lt; have := hb.size; omega) W.heap.size rfl
         refine rg_val (v := .slice (some ⟨g, 0, none⟩) (done.length + 1) κ') (w' := W') rfl (exec_append (.tmp 62) (.tmp 71) 103 rfl (.slice A9 done.length c9) (.slice (some ⟨γ1, 0, none⟩) 1 1) (by show sel (l 4) _ _ = _; rw [d4]; rfl) (by show sel (l 13) _ _ = _; rw [d13]; rfl) hrun) ?_
         refine ⟨γ1, g, κ', ?_, ?_⟩
         ·
          simp only [Act.put, List.setIfInBounds_toArray, List.set_cons_zero, List.set_cons_succ]; rfl
         ·
          exact hI.appended HTT.out hl d13 d4 hgr hown hgg
        case s15 =>
         refine rg_step rfl ?_
         rintro l a W ⟨γ1, γ2, κ2, rfl, hI⟩ hl hd
         have d0 := hd 0 (by decide)
         clear hd
         refine rg_val (v := .pointer (some ⟨δ, 0, none⟩)) (w' := W) rfl (by go_simp) ?_
         refine ⟨γ1, γ2, κ2, ?_, ?_⟩
         ·
          simp only [Act.put, List.setIfInBounds_toArray, List.set_cons_zero, List.set_cons_succ]; rfl
         ·
          exact hI.pure 15 (by decide) (fun h => absurd h (by decide)) (fun h => absurd h (by decide))
        case s16 =>
         refine rg_step rfl ?_
         rintro l a W ⟨γ1, γ2, κ2, rfl, hI⟩ hl hd
         have d15 := hd 15 (by decide)
         clear hd
         refine rg_val (v := .pointer (some ⟨δ, 2, none⟩)) (w' := W) rfl (by go_simp) ?_
         refine ⟨γ1, γ2, κ2, ?_, ?_⟩
         ·
          simp only [Act.put, List.setIfInBounds_toArray, List.set_cons_zero, List.set_cons_succ]; rfl
         ·
          exact hI.pure 16 (by decide) (fun h => absurd h (by decide)) (fun h => absurd h (by decide))
        case s17 =>
         refine rg_step rfl ?_
         rintro l a W ⟨γ1, γ2, κ2, rfl, hI⟩ hl hd
         have d14 := hd 14 (by decide)
         have d16 := hd 16 (by decide)
         clear hd
         obtain ⟨q1, q2, q3, q4⟩ := hI.hP d14 hl
         have hx := (q1 δ (blk_lt HTT.out.ht) (fun e => HTT.out.av δ e (List.mem_cons_self ..))).trans HTT.out.ht
         have y2 := blk_cell hx 2
         have yf := fun i => blk_frozen hx i
         simp at y2
         refine rg_skip rfl (by go_simp; rfl) ?_
         refine ⟨γ1, γ2, κ2, ?_, ?_⟩
         ·
          simp only [Act.put, List.setIfInBounds_toArray, List.set_cons_zero, List.set_cons_succ]; rfl
         ·
          exact hI.stored HTT.out HH.out.c HOO.out hl d14
       case hend =>
        rintro l a W ⟨γ1, γ2, κ2, rfl, hI⟩ hall
        have e0 := hall 0 (by decide)
        have e1 := hall 1 (by decide)
        have e2 := hall 2 (by decide)
        have e3 := hall 3 (by decide)
        have e4 := hall 4 (by decide)
        have e5 := hall 5 (by decide)
        have e6 := hall 6 (by decide)
        have e7 := hall 7 (by decide)
        have e8 := hall 8 (by decide)
        have e9 := hall 9 (by decide)
        have e10 := hall 10 (by decide)
        have e11 := hall 11 (by decide)
        have e12 := hall 12 (by decide)
        have e13 := hall 13 (by decide)
        have e14 := hall 14 (by decide)
        have e15 := hall 15 (by decide)
        have e16 := hall 16 (by decide)
        have e17 := hall 17 (by decide)
        clear hall
        have hQ := hI.hQ e17
        simp only [e0, e1, e2, e3, e4, e5, e6, e7, e8, e9, e10, e11, e12, e13, e14, e15, e16, e17, sel_true]
        clear e0 e1 e2 e3 e4 e5 e6 e7 e8 e9 e10 e11 e12 e13 e14 e15 e16 e17
        clear hI
        have HQ := aM' hQ
        clear hQ
        go_upto_region 17 with (fail)
        refine wp_forget (fun x => ({ tmps := #[.int .i64 wd, .slice (some ad) ls.length c, .pointer (some ⟨w.heap.size, 0, none⟩), x 3, .pointer (some ⟨w.heap.size + 1, 0, none⟩), .pointer (some ⟨w.heap.size + 1 + 1, 0, none⟩), x 6, x 7, .slice (some ⟨gc, 0, none⟩) cur.length cc, x 9, x 10, .pointer (some ⟨δ, 0, none⟩), x 12, x 13, x 14, x 15, x 16, x 17, x 18, x 19, x 20, x 21, x 22, x 23, x 24, x 25, x 26, x 27, x 28, x 29, x 30, x 31, x 32, x 33, x 34, x 35, x 36, x 37, x 38, x 39, x 40, x 41, x 42, x 43, x 44, x 45, x 46, x 47, x 48, x 49, x 50, x 51, x 52, x 53, x 54, x 55, x 56, x 57, x 58, x 59, x 60, x 61, x 62, x 63, x 64, x 65, x 66, x 67, x 68, x 69, x 70, x 71, x 72, x 73, x 74, x 75, x 76, x 77, x 78, x 79, x 80, x 81, x 82, x 83, x 84, x 85, x 86, x 87, x 88, x 89, x 90, x 91, x 92, x 93, x 94, x 95, x 96, x 97, x 98, x 99, x 100], defers := ds.map markD } : Act)) rfl ?_
        intro x
        by_cases h1 : cur.length = 1
        ·
         have b1 : ((cur.length : Int) == 1) = true := by simp; omega
         obtain ⟨ht, hr⟩ := HH.out.one h1
         have x4 := blk_cell HQ.out.bx.h4 0
         have x5 := blk_cell HQ.out.bx.h5 0
         have f4 := fun i => blk_frozen HQ.out.bx.h4 i
         have f5 := fun i => blk_frozen HQ.out.bx.h5 i
         simp at x4 x5
         have HR2 := aM' hr
         have HT2 := aM' ht
         clear h1 hr ht
         go_wp2
         exact newDone HQ.out HH.out.d rfl rfl (newI_ok HW.out HP.out HALL.out HT2.out) HR2.out
        ·
         have b1 : ((cur.length : Int) == 1) = false := by simp; omega
         have H1 := aM' h1
         clear h1
         go_wp2_with fail
         obtain ⟨b12, hb12⟩ : ∃ b, b = W.heap.size := ⟨_, rfl⟩
         obtain ⟨W2, hW2⟩ : ∃ V, V = W.alloc (.cells #[.slice none 0 0] 43) := ⟨_, rfl⟩
         have hx2 : NxS w wd ls δ γ κ (.slice (some ⟨γ2, 0, none⟩) (done.length + 1) κ2) (gs ++ [(gc, cc)]) (done ++ [cur]) ds b12 (b12 + 3) [] W2 := by
          rw [hW2, hb12]
          exact ⟨by omega, HQ.out.below (below_alloc (Below.refl _ _) _), HQ.out.bd, none, 0, blk_new W _, World.ownsRow_nil _ _ _ _⟩
         have hs2 : W2.heap.size = b12 + 1 := by rw [hW2, hb12]; simp
         obtain ⟨k, K, e1, -⟩ := HH.out.k
         obtain ⟨m, hm, hm1⟩ : ∃ m, cur.length = 2 * m ∧ 1 ≤ m := by
          cases k with
          | zero => exact absurd e1 H1.out
          | succ k => exact ⟨2 ^ k, by rw [e1, Nat.pow_succ, Nat.mul_comm], Nat.two_pow_pos k⟩
         rw [← hW2, ← hb12]
         clear hW2 hb12 b1 e1
         refine (chunk.calls (some ⟨gc, 0, none⟩) cur.length cc W2).mono ?_
         rintro e w3 ⟨rfl, hw3⟩
         have hS : w3.heap[W2.heap.size]? = some (.cells #[.slice (some ⟨gc, 0, none⟩) cur.length cc] 43 (0, 0)) := by rw [hw3]; exact blk_alloc (blk_new W2 _) _
         have hN : w3.heap[W2.heap.size + 1]? = some (.cells #[.int .i64 2] 3 (0, 0)) := by
          rw [hw3]
          have := blk_new (W2.alloc (.cells #[.slice (some ⟨gc, 0, none⟩) cur.length cc] 43)) (.cells #[.int .i64 2] 3)
          rwa [World.size_alloc] at this
         have hb3 : Below W2.heap.size W2 w3 := by rw [hw3]; exact below_alloc (below_alloc (Below.refl _ _) _) _
         have hx3 := hx2.below hb3
         have hz3 : w3.heap.size = W2.heap.size + 2 := by rw [hw3]; simp
         have HS2 := aM' hS
         have HN2 := aM' hN
         have HX3 := aM' hx3
         have HZ := aM' (And.intro hz3 hs2)
         have HM := aM' (And.intro hm hm1)
         clear hw3 hS hN hx3 hz3 hs2 hx2 hm hm1 hb3
         have HL9 := aM' HH.out.t.hg.len
         have HM5 := aM' (show m ≤ 1000000 by have := HM.out.1; have := HH.out.m.2.1; omega)
         have hW3 : w3.heap.size = b12 + 3 := by have := HZ.out.1; have := HZ.out.2; omega
         have HW3 := aM' hW3
         clear hW3
         go_wp2_with fail
         refine wp_forget (fun x => ({ tmps := #[.int .i64 wd, .slice (some ad) ls.length c, .pointer (some ⟨w.heap.size, 0, none⟩), x 3, .pointer (some ⟨w.heap.size + 1, 0, none⟩), .pointer (some ⟨w.heap.size + 1 + 1, 0, none⟩), x 6, x 7, .slice (some ⟨gc, 0, none⟩) cur.length cc, x 9, x 10, .pointer (some ⟨δ, 0, none⟩), .pointer (some ⟨b12, 0, none⟩), x 13, x 14, x 15, x 16, x 17, x 18, x 19, x 20, x 21, x 22, x 23, x 24, x 25, x 26, x 27, x 28, x 29, x 30, x 31, x 32, x 33, x 34, x 35, x 36, x 37, x 38, x 39, x 40, x 41, x 42, x 43, x 44, x 45, x 46, x 47, x 48, x 49, x 50, x 51, x 52, x 53, x 54, x 55, x 56, x 57, x 58, x 59, x 60, x 61, x 62, x 63, x 64, x 65, x 66, x 67, x 68, x 69, x 70, x 71, x 72, x 73, x 74, x 75, x 76, x 77, x 78, x 79, .func (.func 95) #[] #[.pointer (some ⟨W2.heap.size, 0, none⟩), .pointer (some ⟨W2.heap.size + 1, 0, none⟩)], x 81, x 82, x 83, x 84, x 85, x 86, x 87, x 88, x 89, x 90, x 91, x 92, x 93, x 94, x 95, x 96, x 97, x 98, x 99, x 100], defers := ds.map markD } : Act)) rfl ?_
         intro x
         refine (wpIn_wide (n := 3)).1 ?_
         refine wpIn_rangeFunc_ownH (α := { j : Nat // j < m }) (n := 3) rfl (by omega) (gf := 95) (lb := #[.pointer (some ⟨W2.heap.size, 0, none⟩), .pointer (some ⟨W2.heap.size + 1, 0, none⟩)]) rfl trivial (enters_of Tryd.func95 (by kernel_rfl) rfl) (encs := fun y => #[chunkV ⟨gc, 0, none⟩ y.1]) (Kp := KeepS (fun k => k = W2.heap.size ∨ k = W2.heap.size + 1))
          (S := fun ys => ys.map Subtype.val = List.range m) (Sp := fun pre => True) (N := m) (w0 := w3) ?hseq (fun h k => KeepS.trans h k) ?hKb (Below.refl _ _) (fun _ => rfl)
          (fun pre V => (∀ y ∈ pre, twoOk cur y.1) ∧ NxS w wd ls δ γ κ (.slice (some ⟨γ2, 0, none⟩) (done.length + 1) κ2) (gs ++ [(gc, cc)]) (done ++ [cur]) ds b12 (b12 + 3) (pre.map fun y => twoV wd cur y.1) V ∧ w3.heap.size ≤ V.heap.size)
          (fun c2 pre V => c2 = .ret ∧ (∃ y ∈ pre, ¬ twoOk cur y.1) ∧ NxE w ds V)
          ?hI ?hIx ⟨fun y hy => absurd hy (List.not_mem_nil), HX3.out, Nat.le_refl _⟩
          (fun y a' V => a' = ({ tmps := #[.int .i64 wd, .slice (some ad) ls.length c, .pointer (some ⟨w.heap.size, 0, none⟩), x 3, .pointer (some ⟨w.heap.size + 1, 0, none⟩), .pointer (some ⟨w.heap.size + 1 + 1, 0, none⟩), x 6, x 7, .slice (some ⟨gc, 0, none⟩) cur.length cc, x 9, x 10, .pointer (some ⟨δ, 0, none⟩), .pointer (some ⟨b12, 0, none⟩), chunkV ⟨gc, 0, none⟩ y.1, x 14, x 15, x 16, x 17, x 18, x 19, x 20, x 21, x 22, x 23, x 24, x 25, x 26, x 27, x 28, x 29, x 30, x 31, x 32, x 33, x 34, x 35, x 36, x 37, x 38, x 39, x 40, x 41, x 42, x 43, x 44, x 45, x 46, x 47, x 48, x 49, x 50, x 51, x 52, x 53, x 54, x 55, x 56, x 57, x 58, x 59, x 60, x 61, x 62, x 63, x 64, x 65, x 66, x 67, x 68, x 69, x 70, x 71, x 72, x 73, x 74, x 75, x 76, x 77, x 78, x 79, .func (.func 95) #[] #[.pointer (some ⟨W2.heap.size, 0, none⟩), .pointer (some ⟨W2.heap.size + 1, 0, none⟩)], chunkV ⟨gc, 0, none⟩ y.1, x 82, x 83, x 84, x 85, x 86, x 87, x 88, x 89, x 90, x 91, x 92, x 93, x 94, x 95, x 96, x 97, x 98, x 99, x 100], defers := [] } : Act)) ?hAx ?assign ?body ?done ?stop
         case hKb =>
          intro W' l2 o o' hl2 ho hc hw k hk
          have := HZ.out
          exact World.putObj_heap_other (by rcases hk with rfl | rfl <;> omega)
         case hI =>
          rintro s X Y row ⟨h1, h2, h3⟩ hg hr
          exact ⟨h1, h2.grown hg (fun r e => by have h4 := hr r e; exact ⟨by have := h4.1; have := HW3.out; omega, h4.2⟩), Nat.le_trans h3 hg.size⟩
         case hIx =>
          rintro c2 s X Y row ⟨rfl, h1, h2⟩ hg hr
          exact ⟨rfl, h1, h2.grown (H := b12 + 3) hg (fun r e => by have := (hr r e).1; have := HW3.out; omega) (by have := HX3.out.bd.b; omega) (fun D hD => by have := HX3.out.bd.d D hD; omega)⟩
         case hAx =>
          rintro y a' s X Y row h hg hr
          exact h
         case hseq =>
          intro l2 J Jx W hW hJ hJx hY h0
          refine (chunk1_in 2 (by omega) l2 W2.heap.size (W2.heap.size + 1) W.heap.size ⟨gc, 0, none⟩ m cur.length cc HM.out.1 HM5.out (ownNodes_C (HX3.out.t.hg.last HL9.out)).2.1 (fun k => k = W2.heap.size ∨ k = W2.heap.size + 1) (.inl rfl) (.inr rfl)
           (fun pre W => ∃ pre' : List { j : Nat // j < m }, pre'.map Subtype.val = pre ∧ J pre' W) (fun pre W => ∃ pre' : List { j : Nat // j < m }, pre'.map Subtype.val = pre ∧ Jx pre' W)
           (fun s X Y row ⟨pre', e, h⟩ hg hr => ⟨pre', e, hJ _ _ _ row h hg hr⟩) ?_ W (blk_below HS2.out hW) (blk_below HN2.out hW) ⟨[], rfl, h0⟩).mono ?_
          ·
           rintro j W1 ⟨pre', e1, hj⟩ hlt
           have hpl : pre'.length = j := by have := congrArg List.length e1; simpa using this
           obtain ⟨fn, tmps, asg, bd, hy, hR⟩ := hY pre' ⟨j, hlt⟩ W1 hj (by omega)
           refine ⟨fn, tmps, asg, bd, hy, hR.mono ?_⟩
           rintro e W2 (⟨rfl, h1, h2⟩ | ⟨rfl, h1⟩)
           ·
            exact .inl ⟨rfl, ⟨_, by rw [List.map_append, e1, List.range_succ]; rfl, h1⟩, h2⟩
           ·
            exact .inr ⟨rfl, ⟨_, by rw [List.map_append, e1, List.range_succ]; rfl, h1⟩⟩
          ·
           rintro e W2 ⟨hv, ⟨ys', e1, h1⟩ | ⟨j, hj, pre', e1, h1⟩⟩
           ·
            exact ⟨hv, .inl ⟨ys', e1, h1⟩⟩
           ·
            exact ⟨hv, .inr ⟨pre', trivial, h1⟩⟩
         case assign =>
          rintro l2 pre y W K hI hK
          gi_wp2
          exact hK _ _ (KeepsFrom.refl _ _) (fun k hk => rfl) hI rfl
         case body =>
          rintro l2 pre ⟨j, hj⟩ a' Wb hl2 - ⟨hok, hP, hz⟩ rfl hlen
          have hjl : 2 * j + 1 < cur.length := by have := HM.out.1; omega
          obtain ⟨na, ha⟩ : ∃ na, na = cur.getD (2 * j) zeroN := ⟨_, rfl⟩
          obtain ⟨nb, hb⟩ : ∃ nb, nb = cur.getD (2 * j + 1) zeroN := ⟨_, rfl⟩
          obtain ⟨ap, hap⟩ : ∃ ap, ap = (⟨gc, 0, none⟩ : Addr).add (2 * j * 3) := ⟨_, rfl⟩
          have hka : NodeK wd na := HH.out.n _ (by rw [ha]; have h1 : cur.getD (2 * j) zeroN = cur[2 * j]'(by omega) := (by simp [List.getD_eq_getElem?_getD, show 2 * j < cur.length by omega]); rw [h1]; exact List.getElem_mem _)
          have hkb : NodeK wd nb := HH.out.n _ (by rw [hb]; have h1 : cur.getD (2 * j + 1) zeroN = cur[2 * j + 1] := (by simp [List.getD_eq_getElem?_getD, hjl]); rw [h1]; exact List.getElem_mem _)
          have htw : twoV wd cur j = joinV wd na nb := by rw [ha, hb]; rfl
          have hto : twoOk cur j ↔ valU na.f1 + valU nb.f1 < 340282366920938463463374607431768211456 := by rw [ha, hb]; rfl
          have HT := fun (V : World) (hV : Below Wb.heap.size Wb V) => two_at' ((ownNodes_C ((hP.below hV).t.hg.last HL9.out)).2.2) j hjl na nb ha hb ap hap
          have hch : chunkV ⟨gc, 0, none⟩ j = .slice (some ap) 2 2 := by rw [hap]; rfl
          obtain ⟨kj, hkj⟩ := (join_ev wd na nb hka.u hkb.u).rounds
          have HT := aM' HT
          have HKA := aM' hka
          have HKB := aM' hkb
          have HTW := aM' htw
          have HTO := aM' hto
          have HOK := aM' hok
          have HP := aM' hP
          have HZZ := aM' hz
          have HLEN := aM' hlen
          have HKJ := aM' hkj
          dsimp only
          rw [hch]
          clear ha hb hap hka hkb htw hto hok hP hz hlen hch hjl hkj
          rcases hjn : joinI wd na nb with ⟨r1, r2, r3, r4⟩
          rw [hjn] at HKJ
          have HJN := aM' hjn
          clear hjn
          gi_wp2
          refine region_invIn (fun l a W => ∃ γx : Nat, a = ({ tmps := #[.int .i64 wd, .slice (some ad) ls.length c, .pointer (some ⟨w.heap.size, 0, none⟩), x 3, .pointer (some ⟨w.heap.size + 1, 0, none⟩), .pointer (some ⟨w.heap.size + 1 + 1, 0, none⟩), x 6, x 7, .slice (some ⟨gc, 0, none⟩) cur.length cc, x 9, x 10, .pointer (some ⟨δ, 0, none⟩), .pointer (some ⟨b12, 0, none⟩), .slice (some ap) 2 2, sel (l 11) (.pointer (some ⟨γx, 0, none⟩)) (x 14), sel (l 13) (.int .i64 r4) (x 15), x 16, x 17, x 18, x 19, x 20, x 21, x 22, x 23, x 24, x 25, x 26, x 27, x 28, x 29, x 30, x 31, x 32, x 33, x 34, x 35, x 36, x 37, x 38, x 39, x 40, x 41, x 42, x 43, x 44, x 45, x 46, x 47, x 48, x 49, x 50, x 51, x 52, x 53, x 54, x 55, x 56, x 57, x 58, x 59, x 60, x 61, x 62, x 63, x 64, x 65, x 66, x 67, x 68, x 69, x 70, x 71, x 72, x 73, x 74, x 75, x 76, x 77, x 78, x 79, .func (.func 95) #[] #[.pointer (some ⟨W2.heap.size, 0, none⟩), .pointer (some ⟨W2.heap.size + 1, 0, none⟩)], .slice (some ap) 2 2, sel (l 8) (.tuple #[.agg #[.string r1, .int .u64 r2, .int .u64 r3], .int .i64 r4]) (x 82), sel (l 0) (.int .i64 wd) (x 83), sel (l 1) (.slice (some ap) 2 2) (x 84), sel (l 2) (.pointer (some ap)) (x 85), sel (l 3) (.agg #[.string na.f0, .int .u64 na.f1.f0, .int .u64 na.f1.f1]) (x 86), sel (l 4) (.slice (some ap) 2 2) (x 87), sel (l 5) (.pointer (some (ap.add 3))) (x 88), sel (l 6) (.agg #[.string nb.f0, .int .u64 nb.f1.f0, .int .u64 nb.f1.f1]) (x 89), sel (l 7) (.tuple #[.agg #[.string r1, .int .u64 r2, .int .u64 r3], .int .i64 r4]) (x 90), sel (l 9) (.agg #[.string r1, .int .u64 r2, .int .u64 r3]) (x 91), sel (l 10) (.int .i64 r4) (x 92), x 93, x 94, x 95, x 96, x 97, x 98, x 99, x 100], defers := [] } : Act) ∧ Pr4 Wb W ⟨r1, ⟨r2, r3⟩⟩ l γx) 14 rfl rfl (by kernel_rfl) ?h0 ?hend ?hstep
          case h0 => exact ⟨0, rfl, below_drew (Below.refl _ _), (fun h => by cases h), (fun h => by cases h)⟩
          case hstep =>
           refine rg_cons (rg_cons (rg_cons (rg_cons (rg_cons (rg_cons (rg_cons (rg_cons (rg_cons (rg_cons (rg_cons (rg_cons (rg_cons (rg_cons (rg_nil) ?s0) ?s1) ?s2) ?s3) ?s4) ?s5) ?s6) ?s7) ?s8) ?s9) ?s10) ?s11) ?s12) ?s13
           case s0 =>
            refine rgi_step rfl ?_
            rintro l a W ⟨γx, rfl, hI⟩ hl hd
            clear hd
            have x0 := blk_cell (HP.out.below hI.hB).t.bx.h2 0
            simp at x0
            refine rgi_val (v := .int .i64 wd) (w' := W) (fun _ => trivial) rfl (fun _ h => by cases h) (by go_simp) ?_
            refine ⟨γx, ?_, ?_⟩
            ·
             simp only [Act.put, List.setIfInBounds_toArray, List.set_cons_zero, List.set_cons_succ]; rfl
            ·
             exact hI.other _ (by decide) (by decide) (Below.refl _ _)
           case s1 =>
            refine rgi_step rfl ?_
            rintro l a W ⟨γx, rfl, hI⟩ hl hd
            clear hd
            refine rgi_val (v := .slice (some ap) 2 2) (w' := W) (fun _ => trivial) rfl (fun _ h => by cases h) (by go_simp) ?_
            refine ⟨γx, ?_, ?_⟩
            ·
             simp only [Act.put, List.setIfInBounds_toArray, List.set_cons_zero, List.set_cons_succ]; rfl
            ·
             exact hI.other _ (by decide) (by decide) (Below.refl _ _)
           case s2 =>
            refine rgi_step rfl ?_
            rintro l a W ⟨γx, rfl, hI⟩ hl hd
            have d1 := hd 1 (by decide)
            clear hd
            refine rgi_val (v := .pointer (some ap)) (w' := W) (fun _ => trivial) rfl (fun _ h => by cases h) (by go_simp) ?_
            refine ⟨γx, ?_, ?_⟩
            ·
             simp only [Act.put, List.setIfInBounds_toArray, List.set_cons_zero, List.set_cons_succ]; rfl
            ·
             exact hI.other _ (by decide) (by decide) (Below.refl _ _)
           case s3 =>
            refine rgi_step rfl ?_
            rintro l a W ⟨γx, rfl, hI⟩ hl hd
            have d2 := hd 2 (by decide)
            clear hd
            obtain ⟨⟨x0, x1, x2⟩, y0, y1, y2⟩ := HT.out W hI.hB
            refine rgi_val (v := .agg #[.string na.f0, .int .u64 na.f1.f0, .int .u64 na.f1.f1]) (w' := W) (fun _ => trivial) rfl (fun _ h => by cases h) (by go_simp) ?_
            refine ⟨γx, ?_, ?_⟩
            ·
             simp only [Act.put, List.setIfInBounds_toArray, List.set_cons_zero, List.set_cons_succ]; rfl
            ·
             exact hI.other _ (by decide) (by decide) (Below.refl _ _)
           case s4 =>
            refine rgi_step rfl ?_
            rintro l a W ⟨γx, rfl, hI⟩ hl hd
            clear hd
            refine rgi_val (v := .slice (some ap) 2 2) (w' := W) (fun _ => trivial) rfl (fun _ h => by cases h) (by go_simp) ?_
            refine ⟨γx, ?_, ?_⟩
            ·
             simp only [Act.put, List.setIfInBounds_toArray, List.set_cons_zero, List.set_cons_succ]; rfl
            ·
             exact hI.other _ (by decide) (by decide) (Below.refl _ _)
           case s5 =>
            refine rgi_step rfl ?_
            rintro l a W ⟨γx, rfl, hI⟩ hl hd
            have d4 := hd 4 (by decide)
            clear hd
            refine rgi_val (v := .pointer (some (ap.add 3))) (w' := W) (fun _ => trivial) rfl (fun _ h => by cases h) (by go_simp) ?_
            refine ⟨γx, ?_, ?_⟩
            ·
             simp only [Act.put, List.setIfInBounds_toArray, List.set_cons_zero, List.set_cons_succ]; rfl
            ·
             exact hI.other _ (by decide) (by decide) (Below.refl _ _)
           case s6 =>
            refine rgi_step rfl ?_
            rintro l a W ⟨γx, rfl, hI⟩ hl hd
            have d5 := hd 5 (by decide)
            clear hd
            obtain ⟨⟨x0, x1, x2⟩, y0, y1, y2⟩ := HT.out W hI.hB
            refine rgi_val (v := .agg #[.string nb.f0, .int .u64 nb.f1.f0, .int .u64 nb.f1.f1]) (w' := W) (fun _ => trivial) rfl (fun _ h => by cases h) (by go_simp) ?_
            refine ⟨γx, ?_, ?_⟩
            ·
             simp only [Act.put, List.setIfInBounds_toArray, List.set_cons_zero, List.set_cons_succ]; rfl
            ·
             exact hI.other _ (by decide) (by decide) (Below.refl _ _)
           case s7 =>
            refine rgi_step rfl ?_
            rintro l a W ⟨γx, rfl, hI⟩ hl hd
            have d0 := hd 0 (by decide)
            have d3 := hd 3 (by decide)
            have d6 := hd 6 (by decide)
            clear hd
            refine rgi_call (fun _ => trivial) rfl rfl (fun _ h => by cases h) (by go_simp; exact ⟨rfl, rfl⟩) ?_
            refine (CallsIn.inRound l2 (callsIn_wide.2 (node_Join.calls kj wd na.f0 na.f1.f0 na.f1.f1 nb.f0 nb.f1.f0 nb.f1.f1 r1 r2 r3 r4 W (HK.out.below (HP.out.t.bx.hB.trans (hI.hB.mono HP.out.t.bx.hB.size))).1 HKJ.out))).mono ?_
            rintro xx W' ⟨rfl, hb⟩
            refine ⟨_, rfl, γx, ?_, ?_⟩
            ·
             simp only [Act.put, List.setIfInBounds_toArray, List.set_cons_zero, List.set_cons_succ]; rfl
            ·
             exact hI.other 7 (by decide) (by decide) hb
           case s8 =>
            refine rgi_step rfl ?_
            rintro l a W ⟨γx, rfl, hI⟩ hl hd
            have d7 := hd 7 (by decide)
            clear hd
            refine rgi_val (v := .tuple #[.agg #[.string r1, .int .u64 r2, .int .u64 r3], .int .i64 r4]) (w' := W) (fun _ => trivial) rfl (fun _ h => by cases h) (by go_simp) ?_
            refine ⟨γx, ?_, ?_⟩
            ·
             simp only [Act.put, List.setIfInBounds_toArray, List.set_cons_zero, List.set_cons_succ]; rfl
            ·
             exact hI.other _ (by decide) (by decide) (Below.refl _ _)
           case s9 =>
            refine rgi_step rfl ?_
            rintro l a W ⟨γx, rfl, hI⟩ hl hd
            have d8 := hd 8 (by decide)
            clear hd
            refine rgi_val (v := .agg #[.string r1, .int .u64 r2, .int .u64 r3]) (w' := W) (fun _ => trivial) rfl (fun _ h => by cases h) (by go_simp) ?_
            refine ⟨γx, ?_, ?_⟩
            ·
             simp only [Act.put, List.setIfInBounds_toArray, List.set_cons_zero, List.set_cons_succ]; rfl
            ·
             exact hI.other _ (by decide) (by decide) (Below.refl _ _)
           case s10 =>
            refine rgi_step rfl ?_
            rintro l a W ⟨γx, rfl, hI⟩ hl hd
            have d8 := hd 8 (by decide)
            clear hd
            refine rgi_val (v := .int .i64 r4) (w' := W) (fun _ => trivial) rfl (fun _ h => by cases h) (by go_simp) ?_
            refine ⟨γx, ?_, ?_⟩
            ·
             simp only [Act.put, List.setIfInBounds_toArray, List.set_cons_zero, List.set_cons_succ]; rfl
            ·
             exact hI.other _ (by decide) (by decide) (Below.refl _ _)
           case s11 =>
            refine rgi_step rfl ?_
            rintro l a W ⟨γx, rfl, hI⟩ hl hd
            clear hd
            refine rgi_val (v := .pointer (some ⟨W.heap.size, 0, none⟩)) (w' := W.alloc (.cells #[.string ⟨#[]⟩, .int .u64 0, .int .u64 0] 46 (0, 0))) (fun _ => trivial) rfl (fun _ h => by cases h) (by go_simp) ?_
            refine ⟨W.heap.size, ?_, ?_⟩
            ·
             simp only [Act.put, List.setIfInBounds_toArray, List.set_cons_zero, List.set_cons_succ]; rfl
            ·
             exact hI.alloc hl
           case s12 =>
            refine rgi_step rfl ?_
            rintro l a W ⟨γx, rfl, hI⟩ hl hd
            have d11 := hd 11 (by decide)
            have d9 := hd 9 (by decide)
            clear hd
            have hg := (hI.hg d11).2
            rw [show l 12 = false from hl, if_neg (by decide)] at hg
            have y0 := blk_cell hg 0
            have y1 := blk_cell hg 1
            have y2 := blk_cell hg 2
            have yf := fun i => blk_frozen hg i
            simp at y0 y1 y2
            refine rgi_skip (fun _ => trivial) rfl (fun _ h => by cases h) (by go_simp; rfl) ?_
            refine ⟨γx, ?_, ?_⟩
            ·
             simp only [Act.put, List.setIfInBounds_toArray, List.set_cons_zero, List.set_cons_succ]; rfl
            ·
             exact hI.store d11 hl
           case s13 =>
            refine rgi_step rfl ?_
            rintro l a W ⟨γx, rfl, hI⟩ hl hd
            have d10 := hd 10 (by decide)
            clear hd
            refine rgi_val (v := .int .i64 r4) (w' := W) (fun _ => trivial) rfl (fun _ h => by cases h) (by go_simp) ?_
            refine ⟨γx, ?_, ?_⟩
            ·
             simp only [Act.put, List.setIfInBounds_toArray, List.set_cons_zero, List.set_cons_succ]; rfl
            ·
             exact hI.other _ (by decide) (by decide) (Below.refl _ _)
          case hend =>
           rintro l a W ⟨γx, rfl, hI⟩ hall
           have e0 := hall 0 (by decide)
           have e1 := hall 1 (by decide)
           have e2 := hall 2 (by decide)
           have e3 := hall 3 (by decide)
           have e4 := hall 4 (by decide)
           have e5 := hall 5 (by decide)
           have e6 := hall 6 (by decide)
           have e7 := hall 7 (by decide)
           have e8 := hall 8 (by decide)
           have e9 := hall 9 (by decide)
           have e10 := hall 10 (by decide)
           have e11 := hall 11 (by decide)
           have e12 := hall 12 (by decide)
           have e13 := hall 13 (by decide)
           clear hall
           have hD := hI.hg e11
           rw [if_pos e12] at hD
           obtain ⟨hγ, hγc⟩ := hD
           have hBb := hI.hB
           have hP5 := HP.out.below hBb
           have HBb := aM' hBb
           have HP5 := aM' hP5
           have HG := aM' hγ
           have HGC := aM' hγc
           clear hI hγ hγc hBb hP5 HP
           simp only [e0, e1, e2, e3, e4, e5, e6, e7, e8, e9, e10, e11, e12, e13, sel_true]
           clear e0 e1 e2 e3 e4 e5 e6 e7 e8 e9 e10 e11 e12 e13
           obtain ⟨dn, hdn⟩ : ∃ dn, (pre.map fun y => twoV wd cur y.1) = dn := ⟨_, rfl⟩
           rw [hdn] at HP5
           have hdl : dn.length = pre.length := by rw [← hdn]; simp
           have HDN := aM' hdn
           have HDL := aM' hdl
           obtain ⟨A12, c12, hbx, hown0⟩ := HP5.out.b
           have HBX := aM' hbx
           have HOWN0 := aM' hown0
           have hbd := HP5.out.bd
           have HBD := aM' hbd
           have hw3 := HW3.out
           have hz := HZ.out
           have hzz := HZZ.out
           have hbz := HBb.out.size
           have hlt := HP5.out.lt
           have HSZ := aM' (show b12 < W.heap.size ∧ b12 + 3 ≤ Wb.heap.size ∧ Wb.heap.size ≤ W.heap.size ∧ W2.heap.size = b12 + 1 ∧ w3.heap.size = b12 + 3 from ⟨hlt, by omega, hbz, hz.2, hw3⟩)
           have y12 : W.cell? ⟨b12, 0, none⟩ = some (.slice A12 dn.length c12) := blk_cell hbx 0
           have y0 : W.cell? ⟨γx, 0, none⟩ = some (.string r1) := blk_cell HGC.out 0
           have y1 : W.cell? ⟨γx, 1, none⟩ = some (.int .u64 r2) := blk_cell HGC.out 1
           have y2 : W.cell? ⟨γx, 2, none⟩ = some (.int .u64 r3) := blk_cell HGC.out 2
           clear hdn hdl hbx hown0 hbd hw3 hz hzz hbz hlt
           by_cases h0 : r4 = 0
           ·
            subst h0
            have hroom : valU na.f1 + valU nb.f1 < 340282366920938463463374607431768211456 := by
             rcases Int.lt_or_le (valU na.f1 + valU nb.f1) 340282366920938463463374607431768211456 with h | h
             ·
              exact h
             ·
              have := joinI_full HKA.out HKB.out (by omega)
              rw [HJN.out] at this
              simp at this
            have hjv : (⟨r1, ⟨r2, r3⟩⟩ : SNode) = joinV wd na nb := by
             have := joinI_room HKA.out HKB.out hroom
             rw [HJN.out] at this
             simp only [Prod.mk.injEq] at this
             obtain ⟨e1, e2, e3, -⟩ := this
             rw [e1, e2, e3]
            have HRM := aM' hroom
            have HJV := aM' hjv
            clear hroom hjv
            gi_upto_region 25 with (fail)
            refine wpIn_region_list ?_
            refine li_val (v := .slice A12 dn.length c12) (w' := W) rfl (fun _ => trivial) (fun _ h => by cases h) (by go_simp; done) ?_
            refine li_val (v := .agg #[.string r1, .int .u64 r2, .int .u64 r3]) (w' := W) rfl (fun _ => trivial) (fun _ h => by cases h) (by go_simp; done) ?_
            refine li_val (v := .slice (some ⟨W.heap.size, 0, none⟩) 1 1) (w' := W.alloc (.cells #[.string r1, .int .u64 r2, .int .u64 r3] 46 (0, 0))) rfl (fun _ => trivial) (fun _ h => by cases h) (by go_simp; done) ?_
            refine wpListIn_append_own _ rfl _ _ 43 rfl (b12 + 3) 46 i0 (.agg #[(.string ⟨#[]⟩), (.int .u64 0), (.int .u64 0)]) 3 32 Tryd.underlying43 hi hz0 hz1 hz2 rfl (by decide) (.slice A12 dn.length c12) dn.length (cellsN dn) rfl ?own ⟨W.heap.size, 0, none⟩ 1 1 [.string r1, .int .u64 r2, .int .u64 r3] rfl rfl ?cells ?one ?b1 ?b2 ?b3 ?_
            (case own => exact ownB HOWN0.out (below_alloc (Below.refl _ _) _))
            (case cells => exact World.news_of_block (blk_new W _))
            (case one => intro u hu; simp at hu; rcases hu with rfl | rfl | rfl <;> rfl)
            (case b1 => have h1 := HLEN.out; have h2 := HDL.out; have := HM5.out; unfold maxLen; omega)
            (case b2 => have h1 := HLEN.out; have h2 := HDL.out; have := HM5.out; omega)
            (case b3 => rw [World.size_alloc]; have := HSZ.out; omega)
            intro v' w7 hown hgr hnil
            obtain ⟨g, cap, rfl, -, hg7⟩ := hown.form (by omega)
            have HOWN := aM' hown
            have HGR := aM' hgr
            have hne : ∀ e, (Value.slice A12 dn.length c12).ownBlock = some e → b12 + 3 ≤ e := fun e he => (HOWN0.out.lt e he).1
            have HNE := aM' hne
            have hz6 := (hgr.block b12 (by rw [World.size_alloc]; have := HSZ.out; omega) (fun e => by have := hne _ e.symm; omega)).trans (blk_alloc HBX.out _)
            have z6 : w7.cell? ⟨b12, 0, none⟩ = some (.slice A12 dn.length c12) := blk_cell hz6 0
            have zf : ∀ i, w7.frozen? ⟨b12, i, none⟩ = false := fun i => blk_frozen hz6 i
            clear hown hgr hz6 hnil hne hg7
            refine li_skip (w' := w7.setCell ⟨b12, 0, none⟩ (.slice (some ⟨g, 0, none⟩) (dn.length + 1) cap)) rfl (fun _ => trivial) (fun _ h => by cases h) (by go_simp; first | done | rfl) ?_
            gi_wp2
            have hW1 : ∀ k, k < Wb.heap.size → (W.alloc (.cells #[.string r1, .int .u64 r2, .int .u64 r3] 46 (0, 0))).heap[k]? = Wb.heap[k]? := fun k hk => by
             rw [(below_alloc (Below.refl W.heap.size W) _).block k (lL' hk HSZ.out.2.2.1)]
             exact HBb.out.block k hk
            have hend : ∀ k, k < Wb.heap.size → (Value.slice A12 dn.length c12).ownBlock ≠ some k → k ≠ b12 → (w7.setCell ⟨b12, 0, none⟩ (.slice (some ⟨g, 0, none⟩) (dn.length + 1) cap)).heap[k]? = Wb.heap[k]? := fun k hk h1 h2 =>
             (Below.heap_setCell _ _ _ _ h2).trans ((HGR.out.block k (by rw [World.size_alloc]; have := HSZ.out; omega) (fun e => h1 e.symm)).trans (hW1 k hk))
            have hsz : Wb.heap.size ≤ w7.heap.size := by have h1 := HGR.out.size; rw [World.size_alloc] at h1; have := HSZ.out; omega
            refine ⟨⟨by simpa using hsz, fun k o hk h0 ho => ?_⟩, ?_, ?_, ?_, ?_⟩
            ·
             rw [hend k (Array.getElem?_eq_some_iff.1 h0).1 (fun e => ?_) (by have := HSZ.out; omega)]
             ·
              exact h0
             ·
              obtain ⟨cs, h3⟩ := own_cells HOWN0.out e
              rw [HBb.out.block k (Array.getElem?_eq_some_iff.1 h0).1] at h3
              rw [h0] at h3
              cases h3
              cases ho
            ·
             intro k hk
             refine hend k (by have := HSZ.out; rcases hk with rfl | rfl <;> omega) (fun e => by have := HNE.out _ e; have := HSZ.out; rcases hk with rfl | rfl <;> omega) (by have := HSZ.out; rcases hk with rfl | rfl <;> omega)
            ·
             intro y hy
             rcases List.mem_append.1 hy with hy | hy
             ·
              exact HOK.out y hy
             ·
              obtain rfl := List.mem_singleton.1 hy
              exact HTO.out.2 HRM.out
            ·
             have hm := (HP5.out.below (below_alloc (Below.refl _ _) (.cells #[.string r1, .int .u64 r2, .int .u64 r3] 46))).more (x := ⟨r1, ⟨r2, r3⟩⟩) (blk_alloc HBX.out _) (ownB HOWN0.out (below_alloc (Below.refl _ _) _)) HGR.out HOWN.out
             rw [List.map_append, HDN.out]
             have hx : (List.map (fun y : { j : Nat // j < m } => twoV wd cur y.1) [⟨j, hj⟩]) = [⟨r1, ⟨r2, r3⟩⟩] := by rw [HJV.out, ← HTW.out]; rfl
             rw [hx]
             exact hm
            ·
             exact Nat.le_trans HZZ.out (by simpa using hsz)
           ·
            have b1 : (r4 != 0) = true := by simp [h0]
            have hroom : ¬ valU na.f1 + valU nb.f1 < 340282366920938463463374607431768211456 := fun h => by
             have := joinI_room HKA.out HKB.out h
             rw [HJN.out] at this
             simp only [Prod.mk.injEq] at this
             exact h0 this.2.2.2
            have h10 : r4 = 10 := by
             have := joinI_full HKA.out HKB.out hroom
             rw [HJN.out] at this
             simp only [Prod.mk.injEq] at this
             exact this.2.2.2
            have HRM := aM' hroom
            clear hroom
            have y4 : W.cell? ⟨w.heap.size + 1, 0, none⟩ = some (.pointer none) := blk_cell HP5.out.t.bx.h4 0
            have f4 : ∀ i, W.frozen? ⟨w.heap.size + 1, i, none⟩ = false := fun i => blk_frozen HP5.out.t.bx.h4 i
            have y5 : W.cell? ⟨w.heap.size + 1 + 1, 0, none⟩ = some (.int .i64 0) := blk_cell HP5.out.t.bx.h5 0
            have f5 : ∀ i, W.frozen? ⟨w.heap.size + 1 + 1, i, none⟩ = false := fun i => blk_frozen HP5.out.t.bx.h5 i
            gi_wp2
            have hNE : NxE w ds ((W.setCell ⟨w.heap.size + 1, 0, none⟩ (.pointer none)).setCell ⟨w.heap.size + 1 + 1, 0, none⟩ (.int .i64 10)) := NxE.made HP5.out.t
            refine ⟨⟨by have := HSZ.out; simpa using this.2.2.1, fun k o hk h0 ho => ?_⟩, rfl, ⟨j, ⟨hj, by simp⟩, fun h => absurd (HTO.out.1 h) (by have := HRM.out; omega)⟩, by first | exact hNE | (rw [h10]; exact hNE)⟩
            have := HBD.out.b
            have := HSZ.out
            exact (Below.heap_setCell _ _ _ _ (by show k ≠ w.heap.size + 1 + 1; omega)).trans ((Below.heap_setCell _ _ _ _ (by show k ≠ w.heap.size + 1; omega)).trans ((HBb.out.block k (Array.getElem?_eq_some_iff.1 h0).1).trans h0))
         case done =>
          rintro D ys W hD hys ⟨hok, hP, hz⟩ hdf
          have hdn : (ys.map fun y => twoV wd cur y.1) = pairsV wd cur := by
           rw [pairsV_range wd m cur HM.out.1, ← hys, List.map_map]; rfl
          have hpo : pairsOk cur = true := (pairsOk_range m cur HM.out.1).2 (fun j hj => by
           have h1 : j ∈ ys.map Subtype.val := by rw [hys]; exact List.mem_range.2 hj
           obtain ⟨y, hy, rfl⟩ := List.mem_map.1 h1
           exact hok y hy)
          rw [hdn] at hP
          have hpl : (pairsV wd cur).length = m := pairsV_len wd m cur HM.out.1
          obtain ⟨A12, c12, hbx, hown⟩ := hP.b
          rw [hpl] at hbx hown
          obtain ⟨g, cap, hv, -, -⟩ := hown.form HM.out.2
          cases hv
          have HNX := aM' (HH.out.next HM.out.1 HM.out.2 hpo hP hown (by have := HW3.out; omega) hdf)
          have y12 : W.cell? ⟨b12, 0, none⟩ = some (.slice (some ⟨g, 0, none⟩) m c12) := blk_cell hbx 0
          have HPL := aM' hpl
          clear hok hP hz hdn hpo hpl hbx hown hdf hys hD
          dsimp only
          go_wp2
          refine ⟨?_, ?_⟩
          ·
           rw [HI.out]
           refine ⟨fun i => if i = 12 then .pointer (some ⟨b12, 0, none⟩) else if i = 80 then .func (.func 95) #[] #[.pointer (some ⟨W2.heap.size, 0, none⟩), .pointer (some ⟨W2.heap.size + 1, 0, none⟩)] else if i = 100 then .slice (some ⟨g, 0, none⟩) m c12 else x i, gs ++ [(gc, cc)], done ++ [cur], D :: ds, pairsV wd cur, g, c12, some ⟨γ2, 0, none⟩, κ2, ?_, HNX.out⟩
           rw [HPL.out]
           rfl
          ·
           show m < cur.length
           have := HM.out
           omega
         case stop =>
          rintro D c2 pre W hD - ⟨rfl, ⟨y, hy, hno⟩, hE⟩ hdf
          have hpo : pairsOk cur = false := by
           cases h : pairsOk cur with
           | false => rfl
           | true => exact absurd ((pairsOk_range m cur HM.out.1).1 h y.1 y.2) hno
          have htot : ¬ totL (ls.map (leafNodeI wd)) < 340282366920938463463374607431768211456 := by
           rw [← HH.out.s]
           exact pairsOk_tot m cur HM.out.1 HH.out.n hpo
          have HE := aM' hE
          have HDF := aM' hdf
          have HTOT := aM' htot
          have HDB := aM' hD
          clear hE hdf htot hD hno hpo
          gi_wp2
          refine newErrD (ds := D :: ds) HE.out.hB (List.nodup_cons.2 ⟨fun h => by have := HX3.out.bd.d D h; have := HDB.out; have := HW3.out; omega, HH.out.t.dn⟩) (fun D' hD' => ?_) (fun D' hD' => ?_) rfl rfl HE.out.h4 HE.out.h5 (newI_full HW.out HP.out HALL.out (by have := HTOT.out; omega)) (by decide)
          ·
           rcases List.mem_cons.1 hD' with rfl | hD'
           ·
            exact HDF.out
           ·
            exact HE.out.hd D' hD'
          ·
           rcases List.mem_cons.1 hD' with rfl | hD'
           ·
            have := HDB.out; have := HW3.out; have := HX3.out.bd.b; omega
           ·
            exact HH.out.d D' hD'
end Go.Proofs.YtfcodmdckcihmaaDoor.P
namespace Go.Proofs.YtfcodmdckcihmaaDoor.P
open Go.RowKit Go.Proofs.YtfcodmdckcihmaaDoorW.PrintWords Go.Proofs.YtfcodmdckcihmaaDoorW.PrintLast Go.Proofs.YtfcodmdckcihmaaDoorW.PrintMore
set_option linter.unusedVariables false
set_option linter.unusedSimpArgs false
set_option linter.unnecessarySimpa false
theorem TreeOwn.far {base a gl cl : Nat} {VV : Value} {gs : List RowG} {T : STree} {W W' : World} (h : TreeOwn base W a T gl cl VV gs) (hk : ∀ k, base ≤ k → k < W.heap.size → W'.heap[k]? = W.heap[k]?) : TreeOwn base W' a T gl cl VV gs := by
 have hg := h.hl.lt gl rfl
 exact ⟨(hk a h.lo (blk_lt h.ht)).trans h.ht, own_keep h.hl (hk gl hg.1 hg.2), ownAny_keep h.hv (fun g hgg => hk g (h.hv.lt g hgg).1 (h.hv.lt g hgg).2), h.hg.keep (fun k hm => hk k (h.hg.lt k hm).1 (h.hg.lt k hm).2), h.ap, h.av, h.lo⟩
theorem cellsV_get : ∀ (i n : Nat) (gs : List RowG) (rs : List (List SNode)) (p : RowG) (r : List SNode), gs[n]? = some p → rs[n]? = some r → (cellsV i gs rs)[n * 2]? = some (rowV p r) ∧ (cellsV i gs rs)[n * 2 + 1]? = some (.int .i64 ((i + n : Nat) : Int))
 | i, n, [], rs, p, r, h, _ => by simp at h
 | i, n, q :: gs, [], p, r, _, h => by simp at h
 | i, 0, q :: gs, s :: rs, p, r, h1, h2 => by
  obtain rfl := Option.some.inj h1
  obtain rfl := Option.some.inj h2
  exact ⟨rfl, rfl⟩
 | i, n + 1, q :: gs, s :: rs, p, r, h1, h2 => by
  have := cellsV_get (i + 1) n gs rs p r (by simpa using h1) (by simpa using h2)
  rw [cellsV, show (n + 1) * 2 = n * 2 + 2 by omega]
  simp only [List.getElem?_cons_succ]
  refine ⟨this.1, ?_⟩
  rw [this.2, show i + 1 + n = i + (n + 1) by omega]
theorem OwnRows.get {W : World} {base : Nat} : ∀ {gs : List RowG} {rs : List (List SNode)} {n : Nat} {r : List SNode}, OwnRows W base gs rs → rs[n]? = some r → ∃ p, gs[n]? = some p ∧ W.ownsRow base 46 3 (rowV p r) r.length (cellsN r)
 | [], [], n, r, _, h => by simp at h
 | p :: gs, s :: rs, 0, r, h, hr => by
  obtain rfl := Option.some.inj hr
  exact ⟨p, rfl, h.1⟩
 | p :: gs, s :: rs, n + 1, r, h, hr => by
  obtain ⟨q, h1, h2⟩ := h.2.get (n := n) (by simpa using hr)
  exact ⟨q, by simpa using h1, h2⟩
theorem TreeOwn.read {base a gl cl : Nat} {VV : Value} {gs : List RowG} {T : STree} {W : World} (h : TreeOwn base W a T gl cl VV gs) (hl : 1 ≤ T.leaves.length ∧ T.leaves.length ≤ 1024) (hv : 1 ≤ T.rows.length ∧ T.rows.length ≤ 11) (hr : ∀ r ∈ T.rows, 1 ≤ r.length ∧ r.length ≤ 1024) : TreeR a T W := by
 obtain ⟨q1, q2, q3⟩ := ownLeaves_C h.hl
 obtain ⟨gv, cv, hvv, hbb, hlt⟩ := h.hv.form hv.1
 have ht := h.ht
 rw [hvv] at ht
 have hcap : T.rows.length ≤ cv := by
  rcases h.hv.2 with ⟨_, h2⟩ | ⟨g', cap', cur, h1, _, _, h2, _⟩
  ·
   omega
  ·
   rw [hvv] at h1; cases h1; exact h2
 have hcell := h.hv.cells (g := gv) (by rw [hvv]; rfl)
 refine ⟨some ⟨gl, 0, none⟩, cl, ⟨gv, 0, none⟩, cv, ht, q2, q3, hl.1, hl.2, hcap, hv.1, hv.2, fun i hi => ?_⟩
 obtain ⟨p, hp, ho⟩ := h.hg.get (n := i) (List.getElem?_eq_getElem hi)
 obtain ⟨c1, c2⟩ := cellsV_get 0 i gs T.rows p T.rows[i] hp (List.getElem?_eq_getElem hi)
 obtain ⟨r1, r2, r3⟩ := ownNodes_C ho
 have hm := hr T.rows[i] (List.getElem_mem hi)
 refine ⟨⟨p.1, 0, none⟩, p.2, hcell _ _ c1, ?_, r2, r3, hm⟩
 have := hcell _ _ c2
 rw [Nat.zero_add] at this
 have ea : ∀ n, (⟨gv, 0, none⟩ : Addr).add n = ⟨gv, n, none⟩ := fun n => by unfold Addr.add; split <;> simp_all
 rw [ea] at this ⊢
 exact this
theorem levels_ok {wd : Int} {ls : List SLeaf} (hk : NewOk wd ls) (hn : ls.length ≤ 1024) : (1 ≤ (treeT wd ls).rows.length ∧ (treeT wd ls).rows.length ≤ 11) ∧ (∀ r ∈ (treeT wd ls).rows, 1 ≤ r.length ∧ r.length ≤ 1024) ∧ 1 ≤ ls.length := by
 have h : (treeT wd ls).rows = levelsV wd ls.length.log2 (ls.map (leafNodeI wd)) := rfl
 have hp := hk.p
 have hK : ls.length.log2 ≤ 10 := by
  rcases Nat.lt_or_ge 10 ls.length.log2 with h1 | h1
  ·
   have h2 := Nat.pow_le_pow_right (n := 2) (by decide) (show 11 ≤ ls.length.log2 by omega)
   omega
  ·
   exact h1
 rw [h, levelsV_len]
 refine ⟨⟨by omega, by omega⟩, fun r hr => ?_, by have := Nat.two_pow_pos ls.length.log2; omega⟩
 obtain ⟨i, hi, rfl⟩ := List.getElem_of_mem hr
 have hi2 : i ≤ ls.length.log2 := by rw [levelsV_len] at hi; omega
 have e := levelsV_get wd ls.length.log2 i (ls.map (leafNodeI wd)) hi2
 rw [List.getElem?_eq_getElem hi] at e
 rw [Option.some.inj e, (up_ok (K := ls.length.log2) (by rw [List.length_map]; exact hk.p) hk.k hk.t i hi2).1]
 have h1 := Nat.two_pow_pos (ls.length.log2 - i)
 have h2 : 2 ^ (ls.length.log2 - i) ≤ 2 ^ ls.length.log2 := Nat.pow_le_pow_right (by decide) (by omega)
 omega
theorem TreeOwn.readT {base a gl cl : Nat} {VV : Value} {gs : List RowG} {wd : Int} {ls : List SLeaf} {W : World} (h : TreeOwn base W a (treeT wd ls) gl cl VV gs) (hk : NewOk wd ls) (hn : ls.length ≤ 1024) : TreeR a (treeT wd ls) W := by
 obtain ⟨h1, h2, h3⟩ := levels_ok hk hn
 exact h.read ⟨h3, hn⟩ h1 h2
end Go.Proofs.YtfcodmdckcihmaaDoor.P
namespace Go.Proofs.YtfcodmdckcihmaaDoor.P
open Go.RowKit Go.Proofs.YtfcodmdckcihmaaDoorW.PrintWords Go.Proofs.YtfcodmdckcihmaaDoorW.PrintLast Go.Proofs.YtfcodmdckcihmaaDoorW.PrintMore
set_option linter.unusedVariables false
set_option linter.unusedSimpArgs false
set_option linter.unnecessarySimpa false
theorem own_put {w : World} {base g n cap size : Nat} {e : TypeId} {xs : List Value} (h : w.ownsRow base e size (.slice (some ⟨g, 0, none⟩) n cap) n xs) (i : Nat) (v : Value) : (w.setCell ⟨g, i, none⟩ v).ownsRow base e size (.slice (some ⟨g, 0, none⟩) n cap) n (xs.set i v) := by
 obtain ⟨hlen, h⟩ := h
 refine ⟨by rw [List.length_set]; exact hlen, ?_⟩
 rcases h with ⟨h, _⟩ | ⟨g', cap', cur, hv, hb, hg, hcap, hmax, hsz, htk⟩
 ·
  cases h
 ·
  cases hv
  exact .inr ⟨_, _, cur.setIfInBounds i v, rfl, hb, blk_put hg i v rfl, hcap, hmax, by simpa using hsz, by rw [Array.toList_setIfInBounds, List.take_set, htk]⟩
theorem cellsL_set (x : SLeaf) : ∀ (l : List SLeaf) (p : Nat), p < l.length → (((((cellsL l).set (p * 5) (.bool x.f0)).set (p * 5 + 1) (.string x.f1)).set (p * 5 + 2) (.string x.f2)).set (p * 5 + 3) (.int .u64 x.f3.f0)).set (p * 5 + 4) (.int .u64 x.f3.f1) = cellsL (l.set p x)
 | y :: l, 0, _ => rfl
 | y :: l, p + 1, h => by
  have ih := cellsL_set x l p (by simpa using h)
  rw [List.set_cons_succ, cellsL, cellsL, ← ih, show (p + 1) * 5 = p * 5 + 1 + 1 + 1 + 1 + 1 by omega]
  simp only [List.set_cons_succ, show p * 5 + 1 + 1 + 1 + 1 + 1 + 1 = (p * 5 + 1) + 1 + 1 + 1 + 1 + 1 by omega, show p * 5 + 1 + 1 + 1 + 1 + 1 + 2 = (p * 5 + 2) + 1 + 1 + 1 + 1 + 1 by omega, show p * 5 + 1 + 1 + 1 + 1 + 1 + 3 = (p * 5 + 3) + 1 + 1 + 1 + 1 + 1 by omega, show p * 5 + 1 + 1 + 1 + 1 + 1 + 4 = (p * 5 + 4) + 1 + 1 + 1 + 1 + 1 by omega]
theorem cellsN_set (x : SNode) : ∀ (l : List SNode) (p : Nat), p < l.length → (((cellsN l).set (p * 3) (.string x.f0)).set (p * 3 + 1) (.int .u64 x.f1.f0)).set (p * 3 + 2) (.int .u64 x.f1.f1) = cellsN (l.set p x)
 | y :: l, 0, _ => rfl
 | y :: l, p + 1, h => by
  have ih := cellsN_set x l p (by simpa using h)
  rw [List.set_cons_succ, cellsN, cellsN, ← ih]
  simp only [List.set_cons_succ, show (p + 1) * 3 = p * 3 + 1 + 1 + 1 by omega, show p * 3 + 1 + 1 + 1 + 1 = (p * 3 + 1) + 1 + 1 + 1 by omega, show p * 3 + 1 + 1 + 1 + 2 = (p * 3 + 2) + 1 + 1 + 1 by omega]
theorem cellsV_set {r r' : List SNode} (hl : r'.length = r.length) : ∀ (i j : Nat) (gs : List RowG) (rs : List (List SNode)), rs[j]? = some r → cellsV i gs (rs.set j r') = cellsV i gs rs
 | i, j, [], rs, _ => by cases rs <;> rfl
 | i, j, p :: gs, [], h => by simp at h
 | i, 0, p :: gs, s :: rs, h => by
  obtain rfl := Option.some.inj h
  rw [List.set_cons_zero, cellsV, cellsV, hl]
 | i, j + 1, p :: gs, s :: rs, h => by
  rw [List.set_cons_succ, cellsV, cellsV, cellsV_set hl (i + 1) j gs rs (by simpa using h)]
theorem OwnRows.put {W W' : World} {base : Nat} : ∀ {gs : List RowG} {rs : List (List SNode)} {i : Nat} {p : RowG} {r' : List SNode}, OwnRows W base gs rs → (gs.map Prod.fst).Nodup → gs[i]? = some p → W'.ownsRow base 46 3 (rowV p r') r'.length (cellsN r') → (∀ k ∈ gs.map Prod.fst, k ≠ p.1 → W'.heap[k]? = W.heap[k]?) → OwnRows W' base gs (rs.set i r')
 | [], [], i, p, r', _, _, hp, _, _ => by simp at hp
 | q :: gs, s :: rs, 0, p, r', h, hn, hp, ho, hk => by
  obtain rfl := Option.some.inj hp
  rw [List.map_cons] at hn
  obtain ⟨n1, n2⟩ := List.nodup_cons.1 hn
  exact ⟨ho, h.2.keep (fun k hm => hk k (by simp at hm ⊢; exact .inr hm) (fun e => n1 (e ▸ hm)))⟩
 | q :: gs, s :: rs, i + 1, p, r', h, hn, hp, ho, hk => by
  rw [List.map_cons] at hn
  obtain ⟨n1, n2⟩ := List.nodup_cons.1 hn
  have hp2 : gs[i]? = some p := by simpa using hp
  have hm : p.1 ∈ gs.map Prod.fst := List.mem_map.2 ⟨p, List.mem_of_getElem? hp2, rfl⟩
  exact ⟨own_keep h.1 (hk q.1 (by simp) (fun e => n1 (e ▸ hm))), h.2.put n2 hp2 ho (fun k hm hne => hk k (by simp at hm ⊢; exact .inr hm) hne)⟩
structure Tch (S : List Nat) (w w' : World) : Prop where
 os : w'.os = w.os
 tape : w'.tape = w.tape
 output : w'.output = w.output
 size : w.heap.size ≤ w'.heap.size
 block : ∀ k, k < w.heap.size → k ∉ S → w'.heap[k]? = w.heap[k]?
theorem Tch.of {S : List Nat} {w w' : World} (h : Below w.heap.size w w') : Tch S w w' := ⟨h.os, h.tape, h.output, h.size, fun k hk _ => h.block k hk⟩
theorem Tch.refl (S : List Nat) (w : World) : Tch S w w := .of (Below.refl _ _)
theorem Tch.trans {S : List Nat} {w w1 w2 : World} (h : Tch S w w1) (h2 : Tch S w1 w2) : Tch S w w2 :=
 ⟨h2.os.trans h.os, h2.tape.trans h.tape, h2.output.trans h.output, Nat.le_trans h.size h2.size, fun k hk hn => (h2.block k (lL' hk h.size) hn).trans (h.block k hk hn)⟩
theorem Tch.below {S : List Nat} {w w1 w2 : World} (h : Tch S w w1) (h2 : Below w1.heap.size w1 w2) : Tch S w w2 := h.trans (.of h2)
theorem Tch.set {S : List Nat} {w W : World} (h : Tch S w W) {g i : Nat} (v : Value) (hg : g ∈ S ∨ w.heap.size ≤ g) : Tch S w (W.setCell ⟨g, i, none⟩ v) :=
 ⟨h.os, h.tape, h.output, by simpa using h.size, fun k hk hn => (Below.heap_setCell _ _ _ _ (by
  show k ≠ g
  rintro rfl
  rcases hg with h | h
  ·
   exact hn h
  ·
   omega)).trans (h.block k hk hn)⟩
abbrev RowG.blocks (gs : List RowG) : List Nat := gs.map Prod.fst
abbrev parts (gl : Nat) (gs : List RowG) : List Nat := gl :: gs.map Prod.fst
theorem TreeOwn.keep {base a gl cl : Nat} {VV : Value} {gs : List RowG} {T : STree} {W W' : World} (h : TreeOwn base W a T gl cl VV gs) (hb : Below W.heap.size W W') : TreeOwn base W' a T gl cl VV gs := h.far (fun k _ hk => hb.block k hk)
theorem TreeOwn.lt {base a gl cl : Nat} {VV : Value} {gs : List RowG} {T : STree} {W : World} (h : TreeOwn base W a T gl cl VV gs) : ∀ k ∈ parts gl gs, base ≤ k ∧ k < W.heap.size := by
 intro k hk
 rcases List.mem_cons.1 hk with rfl | hk
 ·
  exact h.hl.lt _ rfl
 ·
  exact h.hg.lt k hk
theorem TreeOwn.putNode {base a gl cl : Nat} {VV : Value} {gs : List RowG} {T : STree} {W : World} (h : TreeOwn base W a T gl cl VV gs) {i q : Nat} {p : RowG} {r : List SNode} (x : SNode) (hp : gs[i]? = some p) (hr : T.rows[i]? = some r) (hq : q < r.length) :
  TreeOwn base (((W.setCell ⟨p.1, q * 3, none⟩ (.string x.f0)).setCell ⟨p.1, q * 3 + 1, none⟩ (.int .u64 x.f1.f0)).setCell ⟨p.1, q * 3 + 2, none⟩ (.int .u64 x.f1.f1)) a ⟨T.wd, T.leaves, T.rows.set i (r.set q x)⟩ gl cl VV gs := by
 obtain ⟨p', hp', hown⟩ := h.hg.get hr
 rw [hp] at hp'
 obtain rfl := Option.some.inj hp'
 have hm : p.1 ∈ gs.map Prod.fst := List.mem_map.2 ⟨p, List.mem_of_getElem? hp, rfl⟩
 have hap := h.ap
 have h1 : a ≠ p.1 := fun e => (List.nodup_cons.1 hap).1 (e ▸ List.mem_cons_of_mem _ hm)
 have h2 : gl ≠ p.1 := fun e => (List.nodup_cons.1 (List.nodup_cons.1 hap).2).1 (e ▸ hm)
 have hk : ∀ k, k ≠ p.1 → (((W.setCell ⟨p.1, q * 3, none⟩ (.string x.f0)).setCell ⟨p.1, q * 3 + 1, none⟩ (.int .u64 x.f1.f0)).setCell ⟨p.1, q * 3 + 2, none⟩ (.int .u64 x.f1.f1)).heap[k]? = W.heap[k]? := fun k hk =>
  (Below.heap_setCell _ _ _ _ hk).trans ((Below.heap_setCell _ _ _ _ hk).trans (Below.heap_setCell _ _ _ _ hk))
 have hlen : (r.set q x).length = r.length := List.length_set ..
 have hown2 := own_put (own_put (own_put hown (q * 3) (.string x.f0)) (q * 3 + 1) (.int .u64 x.f1.f0)) (q * 3 + 2) (.int .u64 x.f1.f1)
 rw [cellsN_set x r q hq] at hown2
 refine ⟨(hk a h1).trans h.ht, own_keep h.hl (hk gl h2), ?_, ?_, h.ap, h.av, h.lo⟩
 ·
  show World.ownsRow _ base _ 2 VV (T.rows.set i (r.set q x)).length (cellsV 0 gs (T.rows.set i (r.set q x)))
  rw [List.length_set, cellsV_set hlen 0 i gs T.rows hr]
  refine ownAny_keep h.hv (fun g hg => hk g (fun e => h.av g hg (e ▸ ?_)))
  exact List.mem_cons_of_mem _ (List.mem_cons_of_mem _ hm)
 ·
  refine h.hg.put (List.nodup_cons.1 (List.nodup_cons.1 hap).2).2 hp ?_ (fun k _ hne => hk k hne)
  rw [hlen]
  rw [rowV, hlen]
  exact hown2
theorem TreeOwn.putLeaf {base a gl cl : Nat} {VV : Value} {gs : List RowG} {T : STree} {W : World} (h : TreeOwn base W a T gl cl VV gs) {p : Nat} (x : SLeaf) (hp : p < T.leaves.length) :
  TreeOwn base (((((W.setCell ⟨gl, p * 5, none⟩ (.bool x.f0)).setCell ⟨gl, p * 5 + 1, none⟩ (.string x.f1)).setCell ⟨gl, p * 5 + 2, none⟩ (.string x.f2)).setCell ⟨gl, p * 5 + 3, none⟩ (.int .u64 x.f3.f0)).setCell ⟨gl, p * 5 + 4, none⟩ (.int .u64 x.f3.f1)) a ⟨T.wd, T.leaves.set p x, T.rows⟩ gl cl VV gs := by
 have hap := h.ap
 have h1 : a ≠ gl := fun e => (List.nodup_cons.1 hap).1 (e ▸ List.mem_cons_self ..)
 have h2 : ∀ k ∈ gs.map Prod.fst, k ≠ gl := fun k hm e => (List.nodup_cons.1 (List.nodup_cons.1 hap).2).1 (e ▸ hm)
 have hk : ∀ k, k ≠ gl → (((((W.setCell ⟨gl, p * 5, none⟩ (.bool x.f0)).setCell ⟨gl, p * 5 + 1, none⟩ (.string x.f1)).setCell ⟨gl, p * 5 + 2, none⟩ (.string x.f2)).setCell ⟨gl, p * 5 + 3, none⟩ (.int .u64 x.f3.f0)).setCell ⟨gl, p * 5 + 4, none⟩ (.int .u64 x.f3.f1)).heap[k]? = W.heap[k]? := fun k hk =>
  (Below.heap_setCell _ _ _ _ hk).trans ((Below.heap_setCell _ _ _ _ hk).trans ((Below.heap_setCell _ _ _ _ hk).trans ((Below.heap_setCell _ _ _ _ hk).trans (Below.heap_setCell _ _ _ _ hk))))
 have hown2 := own_put (own_put (own_put (own_put (own_put h.hl (p * 5) (.bool x.f0)) (p * 5 + 1) (.string x.f1)) (p * 5 + 2) (.string x.f2)) (p * 5 + 3) (.int .u64 x.f3.f0)) (p * 5 + 4) (.int .u64 x.f3.f1)
 rw [cellsL_set x _ p hp] at hown2
 have hlen : (T.leaves.set p x).length = T.leaves.length := List.length_set ..
 refine ⟨?_, ?_, ownAny_keep h.hv (fun g hg => hk g (fun e => h.av g hg (e ▸ ?_))), h.hg.keep (fun k hm => hk k (h2 k hm)), h.ap, h.av, h.lo⟩
 ·
  show _ = some (Obj.cells #[_, .slice _ (T.leaves.set p x).length _, _] _ _)
  rw [hlen]; exact (hk a h1).trans h.ht
 ·
  show World.ownsRow _ base _ 5 (.slice _ (T.leaves.set p x).length _) (T.leaves.set p x).length _
  rw [hlen]; exact hown2
 ·
  exact List.mem_cons_of_mem _ (List.mem_cons_self ..)
theorem TreeOwn.levels {base a gl cl : Nat} {VV : Value} {gs : List RowG} {T : STree} {W : World} (h : TreeOwn base W a T gl cl VV gs) (hv : 1 ≤ T.rows.length) :
  ∃ gv cv, VV = .slice (some ⟨gv, 0, none⟩) T.rows.length cv ∧ T.rows.length ≤ cv ∧ gv < W.heap.size ∧ gv ∉ a :: gl :: gs.map Prod.fst := by
 obtain ⟨gv, cv, hvv, hbb, hlt⟩ := h.hv.form hv
 refine ⟨gv, cv, hvv, ?_, (h.hv.lt gv (by rw [hvv]; rfl)).2, h.av gv (by rw [hvv]; rfl)⟩
 rcases h.hv.2 with ⟨_, h2⟩ | ⟨g', cap', cur, h1, _, _, h2, _⟩
 ·
  omega
 ·
  rw [hvv] at h1; cases h1; exact h2
theorem TreeOwn.level {base a gl cl gv cv i : Nat} {gs : List RowG} {T : STree} {W : World} {r : List SNode} (h : TreeOwn base W a T gl cl (.slice (some ⟨gv, 0, none⟩) T.rows.length cv) gs) (hr : T.rows[i]? = some r) :
  ∃ p, gs[i]? = some p ∧ W.cell? ⟨gv, i * 2, none⟩ = some (rowV p r) ∧ W.cell? ⟨gv, i * 2 + 1, none⟩ = some (.int .i64 (i : Int)) ∧ r.length ≤ p.2 ∧ Kd.C kNode W (some ⟨p.1, 0, none⟩) r.length r ∧ p.1 ∈ gs.map Prod.fst ∧ ∃ c, W.heap[p.1]? = some (.cells c 46 (0, 0)) ∧ r.length * 3 ≤ c.size := by
 obtain ⟨p, hp, ho⟩ := h.hg.get hr
 obtain ⟨c1, c2⟩ := cellsV_get 0 i gs T.rows p r hp hr
 obtain ⟨r1, r2, r3⟩ := ownNodes_C ho
 have hcell := h.hv.cells (g := gv) rfl
 have ea : ∀ n, (⟨gv, 0, none⟩ : Addr).add n = ⟨gv, n, none⟩ := fun n => by unfold Addr.add; split <;> simp_all
 have c0 := hcell _ _ c1
 have := hcell _ _ c2
 rw [Nat.zero_add] at this
 rw [ea] at this c0
 refine ⟨p, hp, c0, this, r2, r3, List.mem_map.2 ⟨p, List.mem_of_getElem? hp, rfl⟩, ?_⟩
 rcases ho.2 with ⟨h1, _⟩ | ⟨g', cap', cur, h1, _, h2, h3, _, h5, _⟩
 ·
  cases h1
 ·
  cases h1
  exact ⟨cur, h2, by rw [h5]; exact Nat.mul_le_mul_right 3 h3⟩
end Go.Proofs.YtfcodmdckcihmaaDoor.P
namespace Go.Proofs.YtfcodmdckcihmaaDoor.P
open Go.RowKit Go.Proofs.YtfcodmdckcihmaaDoorW.PrintWords Go.Proofs.YtfcodmdckcihmaaDoorW.PrintLast Go.Proofs.YtfcodmdckcihmaaDoorW.PrintMore
set_option linter.unusedVariables false
set_option linter.unusedSimpArgs false
set_option linter.unnecessarySimpa false
def besN (n : Nat) : Nat := if n % 2 = 1 then n - 1 else n + 1
theorem xor_one (n : Nat) : n ^^^ 1 = besN n := by
 have h1 : (n ^^^ 1) / 2 = n / 2 := by rw [Nat.xor_div_two]; simp
 have h2 : (n ^^^ 1) % 2 = (n + 1) % 2 := by
  have h := Nat.xor_mod_two_eq_one (a := n) (b := 1)
  have h3 := Nat.mod_two_eq_zero_or_one (n ^^^ 1)
  have h4 := Nat.mod_two_eq_zero_or_one n
  simp only [show (1 : Nat) % 2 = 1 from rfl, iff_true] at h
  generalize (n ^^^ 1) % 2 = u at h h3 ⊢
  omega
 unfold besN
 split <;> omega
theorem bits_bes (n : Nat) (h : n < 18446744073709551616) : Go.bits .xor .u64 (n : Int) 1 = (besN n : Int) := by
 have := bits_xor_u64_nat n 1 h (by decide)
 rw [xor_one] at this
 exact this
end Go.Proofs.YtfcodmdckcihmaaDoor.P
namespace Go.Proofs.YtfcodmdckcihmaaDoor.P
open Go.RowKit Go.Proofs.YtfcodmdckcihmaaDoorW.PrintWords Go.Proofs.YtfcodmdckcihmaaDoorW.PrintLast Go.Proofs.YtfcodmdckcihmaaDoorW.PrintMore
set_option linter.unusedVariables false
set_option linter.unusedSimpArgs false
set_option linter.unnecessarySimpa false
attribute [local go_sem] sel_true
def SetPost (base a gl cl : Nat) (VV : Value) (gs : List RowG) (wd : Int) (ls : List SLeaf) (p : Nat) (x : SLeaf) (w : World) (e : Ending) (w' : World) : Prop :=
 e = .returned (.int .i64 (setI wd ls p x)) ∧ TreeOwn base w' a (treeT wd (setL wd ls p x)) gl cl VV gs ∧ Tch (parts gl gs) w w'
theorem SetPost.err {base a gl cl : Nat} {VV : Value} {gs : List RowG} {wd : Int} {ls : List SLeaf} {p : Nat} {x : SLeaf} {w w' : World} {e : Int} (hI : setI wd ls p x = e) (h0 : e ≠ 0) (hT : TreeOwn base w a (treeT wd ls) gl cl VV gs) (hB : Below w.heap.size w w') : SetPost base a gl cl VV gs wd ls p x w (.returned (.int .i64 e)) w' :=
 ⟨by rw [hI], by unfold setL; rw [if_neg (by rw [hI]; exact h0)]; exact hT.keep hB, .of hB⟩
def waysL (wd : Int) (ls : List SLeaf) (p : Nat) (x : SLeaf) (n : Nat) : List SNode := (List.range n).map (wayV wd (ls.map (leafNodeI wd)) p (leafNodeI wd x))
theorem waysL_succ (wd : Int) (ls : List SLeaf) (p : Nat) (x : SLeaf) (n : Nat) : waysL wd ls p x (n + 1) = waysL wd ls p x n ++ [wayV wd (ls.map (leafNodeI wd)) p (leafNodeI wd x) n] := by
 unfold waysL; rw [List.range_succ, List.map_append]; rfl
structure StL (base a gl cl : Nat) (VV : Value) (gs : List RowG) (wd : Int) (ls : List SLeaf) (p : Nat) (x : SLeaf) (w : World) (i : Nat) (way : Value) (V : World) : Prop where
 b : Below w.heap.size w V
 t : TreeOwn base V a (treeT wd ls) gl cl VV gs
 o : V.ownsRow (w.heap.size + 1) 46 3 way (i + 1) (cellsN (waysL wd ls p x (i + 1)))
 k : ∀ j, j ≤ i → NodeK wd (wayV wd (ls.map (leafNodeI wd)) p (leafNodeI wd x) j)
 l : V.heap[w.heap.size]? = some (.cells (acL x) 36 (0, 0))
theorem StL.below {base a gl cl : Nat} {VV : Value} {gs : List RowG} {wd : Int} {ls : List SLeaf} {p : Nat} {x : SLeaf} {w : World} {i : Nat} {way : Value} {V V' : World} (h : StL base a gl cl VV gs wd ls p x w i way V) (hb : Below V.heap.size V V') : StL base a gl cl VV gs wd ls p x w i way V' :=
 ⟨h.b.trans (hb.mono h.b.size), h.t.keep hb, ownB h.o hb, h.k, blk_below h.l hb⟩
structure St12 (V W : World) (wn sn : SNode) (l : Nat → Bool) (γ δ : Nat) : Prop where
 b : Below V.heap.size V W
 h12 : l 12 = true → V.heap.size ≤ γ ∧ W.heap[γ]? = some (.cells (if l 14 = true then nodeA wn else nodeA nodeZ) 46 (0, 0))
 h13 : l 13 = true → V.heap.size ≤ δ ∧ W.heap[δ]? = some (.cells (if l 15 = true then nodeA sn else nodeA nodeZ) 46 (0, 0))
 ne : l 12 = true → l 13 = true → γ ≠ δ
 o14 : l 14 = true → l 12 = true
 o15 : l 15 = true → l 13 = true
section
variable {V W : World} {wn sn : SNode} {l : Nat → Bool} {γ δ : Nat}
theorem St12.start (V : World) (wn sn : SNode) : St12 V V.drew wn sn (fun _ => false) 0 0 := ⟨below_drew (Below.refl _ _), (fun h => by cases h), (fun h => by cases h), (fun h => by cases h), (fun h => by cases h), (fun h => by cases h)⟩
theorem St12.same (h : St12 V W wn sn l γ δ) (i : Nat) (hi : i < 12) : St12 V W wn sn (upd l i) γ δ := by
 have e12 : upd l i 12 = l 12 := upd_no (by omega)
 have e13 : upd l i 13 = l 13 := upd_no (by omega)
 have e14 : upd l i 14 = l 14 := upd_no (by omega)
 have e15 : upd l i 15 = l 15 := upd_no (by omega)
 exact ⟨h.b, by rw [e12, e14]; exact h.h12, by rw [e13, e15]; exact h.h13, by rw [e12, e13]; exact h.ne, by rw [e14, e12]; exact h.o14, by rw [e15, e13]; exact h.o15⟩
theorem St12.no13 (h : St12 V W wn sn l γ δ) (hl : l 13 = false) : l 15 = false := by
 cases hx : l 15 with
 | false => rfl
 | true => rw [h.o15 hx] at hl; cases hl
theorem St12.done (h : St12 V W wn sn l γ δ) (h12 : l 12 = true) (h13 : l 13 = true) (h14 : l 14 = true) (h15 : l 15 = true) : (V.heap.size ≤ γ ∧ W.heap[γ]? = some (.cells (nodeA wn) 46 (0, 0))) ∧ (V.heap.size ≤ δ ∧ W.heap[δ]? = some (.cells (nodeA sn) 46 (0, 0))) ∧ γ ≠ δ := by
 have a := h.h12 h12
 have b := h.h13 h13
 rw [if_pos h14] at a
 rw [if_pos h15] at b
 exact ⟨a, b, h.ne h12 h13⟩
end
theorem StL.next {base a gl cl : Nat} {VV : Value} {gs : List RowG} {wd : Int} {ls : List SLeaf} {p : Nat} {x : SLeaf} {w : World} {i : Nat} {way v' : Value} {V V' : World} {jn : SNode} (h : StL base a gl cl VV gs wd ls p x w i way V) (hT : TreeOwn base w a (treeT wd ls) gl cl VV gs) (hgr : V.grownBy V' way.ownBlock)
  (hown : V'.ownsRow (w.heap.size + 1) 46 3 v' (i + 1 + 1) (cellsN (waysL wd ls p x (i + 1)) ++ [.string jn.f0, .int .u64 jn.f1.f0, .int .u64 jn.f1.f1])) (hj : jn = wayV wd (ls.map (leafNodeI wd)) p (leafNodeI wd x) (i + 1)) (hk : NodeK wd jn) : StL base a gl cl VV gs wd ls p x w (i + 1) v' V' := by
 have hb := below_grown h.b hgr (fun r e => by have := (h.o.lt r e).1; omega)
 refine ⟨hb, hT.keep hb, ?_, fun j hj2 => ?_, (hgr.block _ (blk_lt h.l) (fun e => by have := (h.o.lt _ e.symm).1; omega)).trans h.l⟩
 ·
  rw [waysL_succ, cellsN_append, ← hj]; exact hown
 ·
  rcases Nat.lt_or_ge i j with h1 | h1
  ·
   obtain rfl : j = i + 1 := by omega
   rw [← hj]; exact hk
  ·
   exact h.k j h1
theorem StL.zero {base a gl cl K : Nat} {VV : Value} {gs : List RowG} {wd : Int} {ls : List SLeaf} {p : Nat} {x : SLeaf} {w : World} {way : Value} {V : World} (h : StL base a gl cl VV gs wd ls p x w K way V) (hT : TreeOwn base w a (treeT wd ls) gl cl VV gs) (hK : ls.length = 2 ^ K) (hk : NewOk wd ls) (hp : p < ls.length) (hx : OkL x) (hm : mayLeafI x = true) : setI wd ls p x = 0 := by
 have hl : (ls.map (leafNodeI wd)).length = 2 ^ K := by rw [List.length_map]; exact hK
 have h1 := upV_set wd hl (p := p) (by omega) (leafNodeI wd x) K (Nat.le_refl _)
 have h2 := upV_tot wd (K := K) (l := (ls.map (leafNodeI wd)).set p (leafNodeI wd x)) (by rw [List.length_set]; exact hl) K (Nat.le_refl _)
 have h3 : (upV wd K (ls.map (leafNodeI wd))).length = 1 := by rw [upV_len2 hl K (Nat.le_refl _), Nat.sub_self]
 rw [Nat.div_eq_of_lt (by omega)] at h1
 have h4 := valU_lt (h.k K (Nat.le_refl _)).u
 rw [h1] at h2
 match e : upV wd K (ls.map (leafNodeI wd)), h3 with
 | [y], _ =>
  rw [e, List.set_cons_zero] at h2
  unfold setI
  rw [if_neg (show ¬ ls.length ≤ p by omega), if_neg (by rw [hm]; decide), List.map_set, ← h2, totL, totL, if_pos (by omega)]
def rowsM (wd : Int) (ls : List SLeaf) (p : Nat) (x : SLeaf) (j : Nat) : List (List SNode) := (treeT wd (ls.set p x)).rows.take j ++ (treeT wd ls).rows.drop j
structure StP (base a gl cl : Nat) (VV : Value) (gs : List RowG) (wd : Int) (ls : List SLeaf) (p : Nat) (x : SLeaf) (w : World) (K : Nat) (way : Value) (j : Nat) (V : World) : Prop where
 c : Tch (parts gl gs) w V
 t : TreeOwn base V a ⟨wd, ls.set p x, rowsM wd ls p x j⟩ gl cl VV gs
 o : V.ownsRow (w.heap.size + 1) 46 3 way (K + 1) (cellsN (waysL wd ls p x (K + 1)))
section
variable {base a gl cl : Nat} {VV : Value} {gs : List RowG} {wd : Int} {ls : List SLeaf} {p : Nat} {x : SLeaf} {w : World} {K : Nat} {way : Value} {j : Nat} {V V' : World}
theorem StP.below (h : StP base a gl cl VV gs wd ls p x w K way j V) (hb : Below V.heap.size V V') : StP base a gl cl VV gs wd ls p x w K way j V' := ⟨h.c.below hb, h.t.keep hb, ownB h.o hb⟩
theorem StP.start (h : StL base a gl cl VV gs wd ls p x w K way V) (hT : TreeOwn base w a (treeT wd ls) gl cl VV gs) (hp : p < ls.length) :
  StP base a gl cl VV gs wd ls p x w K way 0 (((((V.setCell ⟨gl, p * 5, none⟩ (.bool x.f0)).setCell ⟨gl, p * 5 + 1, none⟩ (.string x.f1)).setCell ⟨gl, p * 5 + 2, none⟩ (.string x.f2)).setCell ⟨gl, p * 5 + 3, none⟩ (.int .u64 x.f3.f0)).setCell ⟨gl, p * 5 + 4, none⟩ (.int .u64 x.f3.f1)).drew := by
 have hm : gl ∈ parts gl gs := List.mem_cons_self ..
 have hg := (hT.lt gl hm).2
 have hk : ∀ k, way.ownBlock = some k → k ≠ gl := fun k e => by have := (h.o.lt k e).1; omega
 refine StP.below ⟨(((((Tch.of h.b).set _ (.inl hm)).set _ (.inl hm)).set _ (.inl hm)).set _ (.inl hm)).set _ (.inl hm), h.t.putLeaf x hp, ?_⟩ (below_drew (Below.refl _ _))
 exact ownAny_keep h.o (fun g e => (Below.heap_setCell _ _ _ _ (hk g e)).trans ((Below.heap_setCell _ _ _ _ (hk g e)).trans ((Below.heap_setCell _ _ _ _ (hk g e)).trans ((Below.heap_setCell _ _ _ _ (hk g e)).trans (Below.heap_setCell _ _ _ _ (hk g e))))))
theorem rowsM_set {r : List SNode} (hn : (treeT wd ls).rows.length = K + 1) (hn2 : (treeT wd (ls.set p x)).rows.length = K + 1) (hj : j < K + 1) (hr : (treeT wd (ls.set p x)).rows[j]? = some r) : (rowsM wd ls p x j).set j r = rowsM wd ls p x (j + 1) := by
 unfold rowsM
 have e : ((treeT wd (ls.set p x)).rows.take j).length = j := by rw [List.length_take]; omega
 have hd : (treeT wd ls).rows.drop j = (treeT wd ls).rows[j]'(by omega) :: (treeT wd ls).rows.drop (j + 1) := List.drop_eq_getElem_cons (by omega)
 rw [List.set_append_right _ _ (by omega), e, Nat.sub_self, hd, List.set_cons_zero]
 have ht : (treeT wd (ls.set p x)).rows.take (j + 1) = (treeT wd (ls.set p x)).rows.take j ++ [r] := by
  rw [List.take_add_one, hr]; rfl
 rw [ht, List.append_assoc]; rfl
theorem StP.put {pr : RowG} {q : Nat} {r : List SNode} {n : SNode} (h : StP base a gl cl VV gs wd ls p x w K way j V) (hT : TreeOwn base w a (treeT wd ls) gl cl VV gs) (hn : (treeT wd ls).rows.length = K + 1) (hn2 : (treeT wd (ls.set p x)).rows.length = K + 1) (hj : j < K + 1) (hp : gs[j]? = some pr) (hr : (rowsM wd ls p x j)[j]? = some r) (hq : q < r.length) (hs : (treeT wd (ls.set p x)).rows[j]? = some (r.set q n)) :
  StP base a gl cl VV gs wd ls p x w K way (j + 1) (((V.setCell ⟨pr.1, q * 3, none⟩ (.string n.f0)).setCell ⟨pr.1, q * 3 + 1, none⟩ (.int .u64 n.f1.f0)).setCell ⟨pr.1, q * 3 + 2, none⟩ (.int .u64 n.f1.f1)) := by
 have hm : pr.1 ∈ parts gl gs := List.mem_cons_of_mem _ (List.mem_map.2 ⟨pr, List.mem_of_getElem? hp, rfl⟩)
 have hg := (hT.lt pr.1 hm).2
 have hk : ∀ k, way.ownBlock = some k → k ≠ pr.1 := fun k e => by have := (h.o.lt k e).1; omega
 have ht := h.t.putNode n hp hr hq
 rw [rowsM_set hn hn2 hj hs] at ht
 refine ⟨((h.c.set _ (.inl hm)).set _ (.inl hm)).set _ (.inl hm), ht, ?_⟩
 exact ownAny_keep h.o (fun g e => (Below.heap_setCell _ _ _ _ (hk g e)).trans ((Below.heap_setCell _ _ _ _ (hk g e)).trans (Below.heap_setCell _ _ _ _ (hk g e))))
theorem StP.done (h : StP base a gl cl VV gs wd ls p x w K way (K + 1) V) (hn : (treeT wd ls).rows.length = K + 1) (hn2 : (treeT wd (ls.set p x)).rows.length = K + 1) (hz : setI wd ls p x = 0) : SetPost base a gl cl VV gs wd ls p x w (.returned (.int .i64 0)) V := by
 refine ⟨by rw [hz], ?_, h.c⟩
 have e : setL wd ls p x = ls.set p x := by unfold setL; rw [if_pos hz]
 have e2 : rowsM wd ls p x (K + 1) = (treeT wd (ls.set p x)).rows := by
  unfold rowsM; rw [List.take_of_length_le (by omega), List.drop_of_length_le (by omega), List.append_nil]
 have ht := h.t
 rw [e2] at ht
 rw [e]
 exact ht
end
end Go.Proofs.YtfcodmdckcihmaaDoor.P
namespace Go.Proofs.YtfcodmdckcihmaaDoor.P
open Go.RowKit Go.Proofs.YtfcodmdckcihmaaDoorW.PrintWords Go.Proofs.YtfcodmdckcihmaaDoorW.PrintLast Go.Proofs.YtfcodmdckcihmaaDoorW.PrintMore
set_option linter.unusedVariables false
set_option linter.unusedSimpArgs false
set_option linter.unnecessarySimpa false
theorem rows_len (wd : Int) (k : List SLeaf) : (treeT wd k).rows.length = k.length.log2 + 1 := by
 have h : (treeT wd k).rows = levelsV wd k.length.log2 (k.map (leafNodeI wd)) := rfl
 rw [h, levelsV_len]
section
variable {b a gl cl : Nat} {VV : Value} {gs : List RowG} {wd : Int} {k : List SLeaf} {V : World}
theorem TreeOwn.rootC {m : Nat} {rt : SNode} (h : TreeOwn b V a (treeT wd k) gl cl VV gs) (hn : NewOk wd k) (hl : k.length ≤ 1024) (hm : m = k.length.log2) (hr : rt = topI (treeT wd k)) :
  Calls Tryd.prog 21 #[ptrT a] V fun e w' => e = .returned (.agg #[.string rt.f0, .int .u64 rt.f1.f0, .int .u64 rt.f1.f1, .int .i64 (m : Int)]) ∧ Below V.heap.size V w' := by
 have q := tRoot.calls a _ V (h.readT hn hl)
 unfold rootV at q
 rw [rows_len, ← hm, ← hr, show ((m + 1 : Nat) : Int) - 1 = (m : Int) by omega] at q
 exact q
end
end Go.Proofs.YtfcodmdckcihmaaDoor.P
namespace Go.Proofs.YtfcodmdckcihmaaDoor.P
open Go.RowKit Go.Proofs.YtfcodmdckcihmaaDoorW.PrintWords Go.Proofs.YtfcodmdckcihmaaDoorW.PrintLast Go.Proofs.YtfcodmdckcihmaaDoorW.PrintMore
set_option linter.unusedVariables false
set_option linter.unusedSimpArgs false
set_option linter.unnecessarySimpa false
attribute [local go_sem] Oper.semAt_some sel_true
def besL (wd : Int) (ks : List SLeaf) (p k : Nat) : List SNode := (List.range k).map (besV wd (ks.map (leafNodeI wd)) p)
theorem besL_succ (wd : Int) (ks : List SLeaf) (p k : Nat) : besL wd ks p (k + 1) = besL wd ks p k ++ [besV wd (ks.map (leafNodeI wd)) p k] := by
 unfold besL; rw [List.range_succ, List.map_append]; rfl
theorem besL_len (wd : Int) (ks : List SLeaf) (p k : Nat) : (besL wd ks p k).length = k := by unfold besL; simp
theorem beside_is {wd : Int} {ks : List SLeaf} {m k p : Nat} (hn : NewOk wd ks) (hm : m = ks.length.log2) (hk : k < m) (hp : p < ks.length) : nodeAtI (treeT wd ks) (k : Int) ((besN (p / 2 ^ k) : Nat) : Int) = (besV wd (ks.map (leafNodeI wd)) p k, true) := by
 have hl : (ks.map (leafNodeI wd)).length = 2 ^ m := by rw [List.length_map, hm]; exact hn.p
 have h := (besV_k (w := wd) hl hn.k hn.t (p := p) (by rw [List.length_map] at hl; omega) k hk).2
 rw [nodeAt_tree wd _ k (by omega), Int.toNat_natCast]
 exact Prod.ext rfl (decide_eq_true h)
theorem grown_below {W W' : World} (h : Below W.heap.size W W') : W.grownBy W' none := ⟨h.os, h.tape, h.output, h.size, fun i hi _ => h.block i hi⟩
theorem KeepS.below {S : Nat → Prop} {W w w' : World} (h : KeepS S W w) (hlt : ∀ k, S k → k < W.heap.size) (hb : Below w.heap.size w w') : KeepS S W w' := fun k hk => by
 have h1 := h k hk
 have h2 : k < w.heap.size := by
  rw [Array.getElem?_eq_getElem (hlt k hk)] at h1
  exact (Array.getElem?_eq_some_iff.1 h1).1
 exact (hb.block k h2).trans h1
set_option maxRecDepth 100000 in
theorem beside.calls (a : Nat) (p : Int) (w : World) : Calls Tryd.prog 77 #[ptrT a, .int .u64 p] w fun e w' => e = .returned (.func (.func 106) #[] #[.pointer (some ⟨w.heap.size, 0, none⟩), .pointer (some ⟨w.heap.size + 1, 0, none⟩)]) ∧ w' = (w.alloc (.cells #[ptrT a] 25)).alloc (.cells #[.int .u64 p] 23) := by
 go_enter Tryd.func77, Tryd.ntmps77
 go_wp2
 go_ret
 exact ⟨rfl, rfl⟩
set_option maxRecDepth 100000 in
set_option maxHeartbeats 1000000 in
theorem beside1_in (n : Nat) (hn1 : 1 ≤ n) (l0 tb pb B ta m p : Nat) (wd : Int) (ks : List SLeaf) (hk : NewOk wd ks) (hm : m = ks.length.log2) (hm10 : m ≤ 10) (hp : p < ks.length) (hp64 : p < 18446744073709551616) (S : Nat → Prop) (hSt : S tb) (hSp : S pb)
  (J Jx : List SNode → World → Prop) (hJ : AbidesFrom B J) (W : World) (hTr : ∀ W', KeepS S W W' → TreeR ta (treeT wd ks) W')
  (hY : ∀ pre x W', J pre W' → pre.length < m → YieldAt Fence.wide (n - 1) Tryd.prog l0 #[nodeV x] W' fun e W2 => (e = .returned (.bool true) ∧ J (pre ++ [x]) W2 ∧ KeepS S W' W2) ∨ (e = .returned (.bool false) ∧ Jx (pre ++ [x]) W2))
  (ht : W.heap[tb]? = some (.cells #[ptrT ta] 25 (0, 0))) (hpb : W.heap[pb]? = some (.cells #[.int .u64 (p : Int)] 23 (0, 0))) (hlt : ∀ k, S k → k < W.heap.size) (h0 : J [] W) :
  CallsIn Fence.wide n Tryd.prog 106 #[.func (.yield l0) #[] #[], .pointer (some ⟨tb, 0, none⟩), .pointer (some ⟨pb, 0, none⟩)] W fun e W' => (∃ v, e = .returned v) ∧ ((∃ ys, ys = besL wd ks p m ∧ J ys W') ∨ (∃ pre, (∃ k, k ≤ m ∧ pre = besL wd ks p k) ∧ Jx pre W')) := by
 have ht0 : W.cell? ⟨tb, 0, none⟩ = some (ptrT ta) := blk_cell ht 0
 have HT := aM' ht
 have HP := aM' hpb
 have HL := aM' hlt
 have HJ := aM' hJ
 have HY := aM' hY
 have HTR := aM' hTr
 have HKK := aM' hk
 have HMM := aM' hm
 have HPL := aM' hp
 have CHT := aM' (show ∀ V, KeepS S W V → Calls Tryd.prog 19 #[ptrT ta] V fun e w' => e = .returned (.int .i64 (m : Int)) ∧ V = w' from fun V hV => by
  have q := tHeight.calls ta _ V (hTr V hV)
  rw [rows_len, ← hm, show ((m + 1 : Nat) : Int) - 1 = (m : Int) by omega] at q
  exact q)
 clear ht hpb hlt hJ hY hTr hk hm hp
 refine callsIn_of_wp Tryd.func106 rfl trivial ?_
 simp only [Tryd.ntmps106, List.size_toArray, List.length_cons, List.length_nil, Nat.reduceAdd, Nat.reduceSub, Array.replicate_succ, Array.replicate_zero, List.push_toArray, List.append_toArray, List.nil_append, List.cons_append]
 gi_wp2_with fail
 refine ⟨trivial, ?_⟩
 refine (callsIn_wide.2 (CHT.out W (fun _ _ => rfl))).mono ?_
 rintro e _ ⟨rfl, rfl⟩
 clear ht0
 gi_wp2
 gi_loopw [9] (fun i wr => ∃ k : Nat, i = .int .i64 (k : Int) ∧ Aside0 (k ≤ m) ∧ Aside0 (J (besL wd ks p k) wr) ∧ Aside0 (KeepS S W wr)) (fun i _ => m - (intOf i).toNat)
 case atStart => exact ⟨0, rfl, ⟨Nat.zero_le _⟩, ⟨h0⟩, ⟨fun _ _ => rfl⟩⟩
 case round =>
  obtain ⟨k, rfl, HK0, HJs, HK⟩ := hrel
  have hkm : k ≤ 10 := by have := HK0.out; omega
  by_cases hlt : k < m
  ·
   have b1 : decide ((k : Int) < (m : Int)) = true := decide_eq_true (by omega)
   have b2 : decide (k < m) = true := decide_eq_true hlt
   obtain ⟨q, hq⟩ : ∃ q, q = p / 2 ^ k := ⟨_, rfl⟩
   obtain ⟨s, hs⟩ : ∃ s, s = besN q := ⟨_, rfl⟩
   obtain ⟨x, hx⟩ : ∃ x, x = besV wd (ks.map (leafNodeI wd)) p k := ⟨_, rfl⟩
   have HSH := aM' (show (p : Int) / 2 ^ k = (q : Int) by rw [hq]; simp)
   have HXO := aM' (show Go.bits .xor .u64 (q : Int) 1 = (s : Int) by rw [hs]; exact bits_bes q (by rw [hq]; exact Nat.lt_of_le_of_lt (Nat.div_le_self _ _) hp64))
   have HX := aM' hx
   have CND := aM' (show ∀ V, Below wr.heap.size wr V → Calls Tryd.prog 24 #[ptrT ta, .int .i64 (k : Int), .int .u64 (s : Int)] V fun e w' => e = .returned (.tuple #[nodeV x, .bool true]) ∧ Below V.heap.size V w' from fun V hV => by
    have z := tNode.calls ta _ (k : Int) (s : Int) V (HTR.out V (HK.out.below HL.out hV)) (by omega)
    rw [hs, hq, beside_is HKK.out HMM.out hlt HPL.out, ← hx] at z
    rw [hs, hq]
    exact z)
   have HT1 := aM' ((HK.out tb hSt).trans HT.out)
   have HP1 := aM' ((HK.out pb hSp).trans HP.out)
   clear hq hs hx
   gi_upto_region 3 with (fail)
   refine region_invIn (fun l a W => ∃ γ : Nat, a = ({ tmps := #[.func (.yield l0) #[] #[], .pointer (some ⟨tb, 0, none⟩), .pointer (some ⟨pb, 0, none⟩), undef, .int .i64 (k : Int), sel (l 10) (.pointer (some ⟨γ, 0, none⟩)) (u5), sel (l 12) (.bool true) (u6), ptrT ta, .int .i64 (m : Int), .int .i64 (k : Int), .bool true, .int .i64 (k : Int), sel (l 7) (.tuple #[.agg #[.string x.f0, .int .u64 x.f1.f0, .int .u64 x.f1.f1], .bool true]) (u12), sel (l 0) (ptrT ta) (u13), sel (l 1) (.int .i64 (k : Int)) (u14), sel (l 2) (.int .u64 (p : Int)) (u15), sel (l 3) (.int .i64 (k : Int)) (u16), sel (l 4) (.int .u64 (q : Int)) (u17), sel (l 5) (.int .u64 (s : Int)) (u18), sel (l 6) (.tuple #[.agg #[.string x.f0, .int .u64 x.f1.f0, .int .u64 x.f1.f1], .bool true]) (u19), sel (l 8) (.agg #[.string x.f0, .int .u64 x.f1.f0, .int .u64 x.f1.f1]) (u20), sel (l 9) (.bool true) (u21), u22, u23, u24, u25, u26, u27, u28, u29, u30], defers := [] } : Act) ∧ (Below wr.heap.size wr W ∧ (l 10 = true → wr.heap.size ≤ γ ∧ W.heap[γ]? = some (.cells (if l 11 = true then nodeA x else nodeA nodeZ) 46 (0, 0))) ∧ (l 11 = true → l 10 = true))) 13 rfl rfl (by kernel_rfl) ?h0 ?hend ?hstep
   case h0 => exact ⟨0, rfl, below_drew (Below.refl _ _), (fun h => by cases h), (fun h => by cases h)⟩
   case hstep =>
    refine rg_cons (rg_cons (rg_cons (rg_cons (rg_cons (rg_cons (rg_cons (rg_cons (rg_cons (rg_cons (rg_cons (rg_cons (rg_cons (rg_nil) ?s0) ?s1) ?s2) ?s3) ?s4) ?s5) ?s6) ?s7) ?s8) ?s9) ?s10) ?s11) ?s12
    case s0 =>
     refine rgi_step rfl ?_
     rintro l a W ⟨γ, rfl, hI⟩ hl hd
     clear hd
     have x0 := blk_cell (blk_below HT1.out hI.1) 0
     simp at x0
     refine rgi_val (v := ptrT ta) (w' := W) (fun _ => trivial) rfl (fun _ h => by cases h) (by go_simp) ?_
     refine ⟨γ, ?_, ?_⟩
     ·
      simp only [Act.put, List.setIfInBounds_toArray, List.set_cons_zero, List.set_cons_succ]; rfl
     ·
      exact hI
    case s1 =>
     refine rgi_step rfl ?_
     rintro l a W ⟨γ, rfl, hI⟩ hl hd
     clear hd
     refine rgi_val (v := .int .i64 (k : Int)) (w' := W) (fun _ => trivial) rfl (fun _ h => by cases h) (by go_simp) ?_
     refine ⟨γ, ?_, ?_⟩
     ·
      simp only [Act.put, List.setIfInBounds_toArray, List.set_cons_zero, List.set_cons_succ]; rfl
     ·
      exact hI
    case s2 =>
     refine rgi_step rfl ?_
     rintro l a W ⟨γ, rfl, hI⟩ hl hd
     clear hd
     have x0 := blk_cell (blk_below HP1.out hI.1) 0
     simp at x0
     refine rgi_val (v := .int .u64 (p : Int)) (w' := W) (fun _ => trivial) rfl (fun _ h => by cases h) (by go_simp) ?_
     refine ⟨γ, ?_, ?_⟩
     ·
      simp only [Act.put, List.setIfInBounds_toArray, List.set_cons_zero, List.set_cons_succ]; rfl
     ·
      exact hI
    case s3 =>
     refine rgi_step rfl ?_
     rintro l a W ⟨γ, rfl, hI⟩ hl hd
     clear hd
     refine rgi_val (v := .int .i64 (k : Int)) (w' := W) (fun _ => trivial) rfl (fun _ h => by cases h) (by go_simp) ?_
     refine ⟨γ, ?_, ?_⟩
     ·
      simp only [Act.put, List.setIfInBounds_toArray, List.set_cons_zero, List.set_cons_succ]; rfl
     ·
      exact hI
    case s4 =>
     refine rgi_step rfl ?_
     rintro l a W ⟨γ, rfl, hI⟩ hl hd
     have d2 := hd 2 (by decide)
     have d3 := hd 3 (by decide)
     clear hd
     have hsh := HSH.out
     refine rgi_val (v := .int .u64 (q : Int)) (w' := W) (fun _ => trivial) rfl (fun _ h => by cases h) (by go_simp) ?_
     refine ⟨γ, ?_, ?_⟩
     ·
      simp only [Act.put, List.setIfInBounds_toArray, List.set_cons_zero, List.set_cons_succ]; rfl
     ·
      exact hI
    case s5 =>
     refine rgi_step rfl ?_
     rintro l a W ⟨γ, rfl, hI⟩ hl hd
     have d4 := hd 4 (by decide)
     clear hd
     have hxo := HXO.out
     refine rgi_val (v := .int .u64 (s : Int)) (w' := W) (fun _ => trivial) rfl (fun _ h => by cases h) (by go_simp) ?_
     refine ⟨γ, ?_, ?_⟩
     ·
      simp only [Act.put, List.setIfInBounds_toArray, List.set_cons_zero, List.set_cons_succ]; rfl
     ·
      exact hI
    case s6 =>
     refine rgi_step rfl ?_
     rintro l a W ⟨γ, rfl, hI⟩ hl hd
     have d0 := hd 0 (by decide)
     have d1 := hd 1 (by decide)
     have d5 := hd 5 (by decide)
     clear hd
     refine rgi_call (fun _ => trivial) rfl rfl (fun _ h => by cases h) (by go_simp; exact ⟨rfl, rfl⟩) ?_
     refine (callsIn_wide.2 (CND.out W hI.1)).mono ?_
     rintro ee W' ⟨rfl, hb⟩
     refine ⟨_, rfl, γ, ?_, ?_⟩
     ·
      simp only [Act.put, List.setIfInBounds_toArray, List.set_cons_zero, List.set_cons_succ]; rfl
     ·
      exact ⟨hI.1.trans (hb.mono hI.1.size), fun h => ⟨(hI.2.1 h).1, blk_below (hI.2.1 h).2 hb⟩, hI.2.2⟩
    case s7 =>
     refine rgi_step rfl ?_
     rintro l a W ⟨γ, rfl, hI⟩ hl hd
     have d6 := hd 6 (by decide)
     clear hd
     refine rgi_val (v := .tuple #[.agg #[.string x.f0, .int .u64 x.f1.f0, .int .u64 x.f1.f1], .bool true]) (w' := W) (fun _ => trivial) rfl (fun _ h => by cases h) (by go_simp) ?_
     refine ⟨γ, ?_, ?_⟩
     ·
      simp only [Act.put, List.setIfInBounds_toArray, List.set_cons_zero, List.set_cons_succ]; rfl
     ·
      exact hI
    case s8 =>
     refine rgi_step rfl ?_
     rintro l a W ⟨γ, rfl, hI⟩ hl hd
     have d7 := hd 7 (by decide)
     clear hd
     refine rgi_val (v := .agg #[.string x.f0, .int .u64 x.f1.f0, .int .u64 x.f1.f1]) (w' := W) (fun _ => trivial) rfl (fun _ h => by cases h) (by go_simp) ?_
     refine ⟨γ, ?_, ?_⟩
     ·
      simp only [Act.put, List.setIfInBounds_toArray, List.set_cons_zero, List.set_cons_succ]; rfl
     ·
      exact hI
    case s9 =>
     refine rgi_step rfl ?_
     rintro l a W ⟨γ, rfl, hI⟩ hl hd
     have d7 := hd 7 (by decide)
     clear hd
     refine rgi_val (v := .bool true) (w' := W) (fun _ => trivial) rfl (fun _ h => by cases h) (by go_simp) ?_
     refine ⟨γ, ?_, ?_⟩
     ·
      simp only [Act.put, List.setIfInBounds_toArray, List.set_cons_zero, List.set_cons_succ]; rfl
     ·
      exact hI
    case s10 =>
     refine rgi_step rfl ?_
     rintro l a W ⟨γ, rfl, hI⟩ hl hd
     clear hd
     have h11 : l 11 = false := by
      cases hx : l 11 with
      | false => rfl
      | true => have := hI.2.2 hx; rw [hl] at this; cases this
     refine rgi_val (v := .pointer (some ⟨W.heap.size, 0, none⟩)) (w' := W.alloc (.cells #[.string ⟨#[]⟩, .int .u64 0, .int .u64 0] 46)) (fun _ => trivial) rfl (fun _ h => by cases h) (by go_simp) ?_
     refine ⟨W.heap.size, ?_, ?_⟩
     ·
      simp only [Act.put, List.setIfInBounds_toArray, List.set_cons_zero, List.set_cons_succ]; rfl
     ·
      exact ⟨below_alloc hI.1 _, fun _ => ⟨hI.1.size, by rw [if_neg (show ¬ upd l 10 11 = true from by rw [show upd l 10 11 = l 11 from rfl, h11]; decide)]; exact blk_new W _⟩, fun _ => rfl⟩
    case s11 =>
     refine rgi_step rfl ?_
     rintro l a W ⟨γ, rfl, hI⟩ hl hd
     have d8 := hd 8 (by decide)
     have d10 := hd 10 (by decide)
     clear hd
     have hz := hI.2.1 d10
     rw [if_neg (by rw [hl]; decide)] at hz
     have z0 := blk_cell hz.2 0
     have z1 := blk_cell hz.2 1
     have z2 := blk_cell hz.2 2
     have zf := fun i => blk_frozen hz.2 i
     simp at z0 z1 z2
     refine rgi_skip (fun _ => trivial) rfl (fun _ h => by cases h) (by go_simp; rfl) ?_
     refine ⟨γ, ?_, ?_⟩
     ·
      simp only [Act.put, List.setIfInBounds_toArray, List.set_cons_zero, List.set_cons_succ]; rfl
     ·
      exact ⟨below_set (below_set (below_set hI.1 hz.1) hz.1) hz.1, fun _ => ⟨hz.1, by rw [if_pos (show upd l 11 11 = true from rfl)]; exact blk_put (blk_put (blk_put hz.2 0 _ rfl) 1 _ rfl) 2 _ rfl⟩, fun _ => d10⟩
    case s12 =>
     refine rgi_step rfl ?_
     rintro l a W ⟨γ, rfl, hI⟩ hl hd
     have d9 := hd 9 (by decide)
     clear hd
     refine rgi_val (v := .bool true) (w' := W) (fun _ => trivial) rfl (fun _ h => by cases h) (by go_simp) ?_
     refine ⟨γ, ?_, ?_⟩
     ·
      simp only [Act.put, List.setIfInBounds_toArray, List.set_cons_zero, List.set_cons_succ]; rfl
     ·
      exact hI
   case hend =>
    rintro l a W ⟨γ, rfl, hI⟩ hall
    have e0 := hall 0 (by decide)
    have e1 := hall 1 (by decide)
    have e2 := hall 2 (by decide)
    have e3 := hall 3 (by decide)
    have e4 := hall 4 (by decide)
    have e5 := hall 5 (by decide)
    have e6 := hall 6 (by decide)
    have e7 := hall 7 (by decide)
    have e8 := hall 8 (by decide)
    have e9 := hall 9 (by decide)
    have e10 := hall 10 (by decide)
    have e11 := hall 11 (by decide)
    have e12 := hall 12 (by decide)
    clear hall
    have hn := hI.2.1 e10
    rw [if_pos e11] at hn
    have hB := hI.1
    simp only [e0, e1, e2, e3, e4, e5, e6, e7, e8, e9, e10, e11, e12, sel_true]
    clear e0 e1 e2 e3 e4 e5 e6 e7 e8 e9 e10 e11 e12
    have hKW := HK.out.below HL.out hB
    have HKW := aM' hKW
    have y0 := blk_cell hn.2 0
    have y1 := blk_cell hn.2 1
    have y2 := blk_cell hn.2 2
    simp at y0 y1 y2
    obtain ⟨fn, tmps, assign, body, hy, hR⟩ := HY.out (besL wd ks p k) x W (HJ.out _ wr _ none HJs.out (grown_below hB) (fun r e => by cases e)) (by rw [besL_len]; exact hlt)
    have hy2 : (Instr.yield l0 #[.agg #[.string x.f0, .int .u64 x.f1.f0, .int .u64 x.f1.f1]]).run Tryd.prog W = .ok (.round l0 fn tmps assign body) W := hy
    have hR2 := hR.mono (fun e W' h => (show ∃ b : Bool, e = .returned (.bool b) ∧ Aside0 ((b = true ∧ J (besL wd ks p k ++ [x]) W' ∧ KeepS S W W') ∨ (b = false ∧ Jx (besL wd ks p k ++ [x]) W')) from
     h.elim (fun h => ⟨true, h.1, ⟨.inl ⟨rfl, h.2⟩⟩⟩) (fun h => ⟨false, h.1, ⟨.inr ⟨rfl, h.2⟩⟩⟩)))
    have HE2 := aM' (show besL wd ks p (k + 1) = besL wd ks p k ++ [x] by rw [besL_succ, HX.out])
    clear hy hR hI hn hB hKW
    gi_wp2_with fail
    refine hR2.mono ?_
    clear hR2 hy2 y0 y1 y2 b1 b2
    rintro e W3 ⟨b, rfl, HE⟩
    cases b with
    | true =>
     obtain ⟨-, hJ2, hK2⟩ | ⟨h, -⟩ := HE.out
     case inr => exact absurd h (by decide)
     have HJ2 := aM' hJ2
     have HK2 := aM' hK2
     clear hJ2 hK2
     gi_wp2
     exact ⟨⟨k + 1, by go_num, ⟨hlt⟩, ⟨by rw [HE2.out]; exact HJ2.out⟩, ⟨HKW.out.trans HK2.out⟩⟩, by simp [intOf]; omega⟩
    | false =>
     obtain ⟨h, -⟩ | ⟨-, hJ2⟩ := HE.out
     case inl => exact absurd h (by decide)
     have HJ2 := aM' hJ2
     clear hJ2
     gi_wp2
     refine bodyPost_ret (results_none rfl _ _ _) rfl ?_
     exact ⟨⟨_, rfl⟩, .inr ⟨_, ⟨k + 1, hlt, HE2.out.symm⟩, HJ2.out⟩⟩
  ·
   have b1 : decide ((k : Int) < (m : Int)) = false := decide_eq_false (by omega)
   have b2 : decide (k < m) = false := decide_eq_false hlt
   obtain rfl : k = m := by have := HK0.out; omega
   gi_wp2
   go_end0
   exact ⟨⟨_, rfl⟩, .inl ⟨_, rfl, HJs.out⟩⟩
end Go.Proofs.YtfcodmdckcihmaaDoor.P
namespace Go.Proofs.YtfcodmdckcihmaaDoor.P
open Go.RowKit Go.Proofs.YtfcodmdckcihmaaDoorW.PrintWords Go.Proofs.YtfcodmdckcihmaaDoorW.PrintLast Go.Proofs.YtfcodmdckcihmaaDoorW.PrintMore
set_option linter.unusedVariables false
set_option linter.unusedSimpArgs false
set_option linter.unnecessarySimpa false
attribute [local go_sem] Oper.semAt_some sel_true
abbrev entA (x : SLeaf) (p : Int) (s : Value) : Array Value := #[.bool x.f0, .string x.f1, .string x.f2, .int .u64 x.f3.f0, .int .u64 x.f3.f1, .int .u64 p, s]
abbrev entZ : Array Value := #[.bool false, .string ⟨#[]⟩, .string ⟨#[]⟩, .int .u64 0, .int .u64 0, .int .u64 0, .slice none 0 0]
structure OfS (w : World) (x : SLeaf) (p g8 H : Nat) (pre : List SNode) (W : World) : Prop where
 hB : Below w.heap.size w W
 h4 : W.heap[w.heap.size]? = some (.cells entZ 70 (0, 0))
 lo : w.heap.size < g8
 hi : g8 < H
 b : ∃ A c, W.heap[g8]? = some (.cells (entA x (p : Int) (.slice A pre.length c)) 70 (0, 0)) ∧ W.ownsRow H 46 3 (.slice A pre.length c) pre.length (cellsN pre)
section
variable {w : World} {x : SLeaf} {p g8 H : Nat} {pre : List SNode} {W W' : World}
theorem OfS.below (h : OfS w x p g8 H pre W) (hb : Below W.heap.size W W') : OfS w x p g8 H pre W' := by
 obtain ⟨A, c, h1, h2⟩ := h.b
 exact ⟨h.hB.trans (hb.mono h.hB.size), blk_below h.h4 hb, h.lo, h.hi, A, c, blk_below h1 hb, ownB h2 hb⟩
theorem OfS.grown {row : Option Nat} (h : OfS w x p g8 H pre W) (hg : W.grownBy W' row) (hr : ∀ r, row = some r → w.heap.size < r ∧ ∃ o, W.heap[r]? = some o ∧ o.isCells = false) : OfS w x p g8 H pre W' := by
 obtain ⟨A, c, h1, h2⟩ := h.b
 have hno : ∀ k cs t f, W.heap[k]? = some (Obj.cells cs t f) → some k ≠ row := fun k cs t f hk e => by
  obtain ⟨-, o, ho, hc⟩ := hr k e.symm
  rw [hk] at ho; cases ho; cases hc
 refine ⟨below_grown h.hB hg (fun r e => by have := (hr r e).1; omega), (hg.block _ (blk_lt h.h4) (hno _ _ _ _ h.h4)).trans h.h4, h.lo, h.hi, A, c, (hg.block _ (blk_lt h1) (hno _ _ _ _ h1)).trans h1, ownAny_keep h2 (fun g hg2 => ?_)⟩
 obtain ⟨cs, h3⟩ := own_cells h2 hg2
 exact hg.block g (blk_lt h3) (hno _ _ _ _ h3)
theorem OfS.more {y : SNode} {A : Option Addr} {c : Nat} {A' : Option Addr} {c' : Nat} (h : OfS w x p g8 H pre W) (hH : w.heap.size < H) (h1 : W.heap[g8]? = some (.cells (entA x (p : Int) (.slice A pre.length c)) 70 (0, 0))) (h2 : W.ownsRow H 46 3 (.slice A pre.length c) pre.length (cellsN pre))
  (hgr : W.grownBy W' (Value.slice A pre.length c).ownBlock) (hown : W'.ownsRow H 46 3 (.slice A' (pre.length + 1) c') (pre.length + 1) (cellsN pre ++ [.string y.f0, .int .u64 y.f1.f0, .int .u64 y.f1.f1])) :
  OfS w x p g8 H (pre ++ [y]) (W'.setCell ⟨g8, 6, none⟩ (.slice A' (pre.length + 1) c')) := by
 have hlo := h.lo
 have hhi := h.hi
 have hk : ∀ k, k < H → k < W.heap.size → W'.heap[k]? = W.heap[k]? := fun k hk hlt => hgr.block k hlt (fun e => by have := (h2.lt k e.symm).1; omega)
 have hl : (pre ++ [y]).length = pre.length + 1 := by simp
 refine ⟨(below_grown h.hB hgr (fun r e => by have := (h2.lt r e).1; omega)).setCell (by show w.heap.size ≤ g8; omega) _, (Below.heap_setCell _ _ _ _ (by show w.heap.size ≠ g8; omega)).trans ((hk _ (by omega) (blk_lt h.h4)).trans h.h4), hlo, hhi, A', c', ?_, ?_⟩
 ·
  rw [hl]
  exact blk_put ((hk g8 hhi (blk_lt h1)).trans h1) 6 _ rfl
 ·
  rw [hl, cellsN_append]
  exact ownAny_keep hown (fun g hg => Below.heap_setCell _ _ _ _ (by have := (hown.lt g hg).1; show g ≠ g8; omega))
end
theorem of_results (tmps : Array Value) (W : World) (g4 : Nat) (e : Value) (a0 a1 a2 a3 a4 a5 a6 : Value) (h4 : tmps.getD 4 undef = .pointer (some ⟨g4, 0, none⟩)) (h5 : tmps.getD 5 undef = e) (hg4 : W.heap[g4]? = some (.cells #[a0, a1, a2, a3, a4, a5, a6] 70 (0, 0))) :
  (results Tryd.f37 tmps).run Tryd.prog W = .ok (.tuple #[.agg #[a0, a1, a2, a3, a4, a5, a6], e]) W := by
 have h4' : tmps[4]?.getD undef = .pointer (some ⟨g4, 0, none⟩) := by simpa using h4
 have h5' : tmps[5]?.getD undef = e := by simpa using h5
 have hr : Tryd.f37.results = #[.cell 4 70, .tmp 5] := rfl
 have hu := Tryd.underlying70
 have c0 := blk_cell hg4 0
 have c1 := blk_cell hg4 1
 have c2 := blk_cell hg4 2
 have c3 := blk_cell hg4 3
 have c4 := blk_cell hg4 4
 have c5 := blk_cell hg4 5
 have c6 := blk_cell hg4 6
 simp at c0 c1 c2 c3 c4 c5 c6
 have h1 : (loadVar 70 ⟨g4, 0, none⟩).run Tryd.prog W = .ok (.agg #[a0, a1, a2, a3, a4, a5, a6]) W := by go_simp
 simp [results, hr, h4', h5', asAddr, h1]
set_option maxRecDepth 100000 in
set_option maxHeartbeats 4000000 in
theorem proofOf.calls (base ta gl cl : Nat) (VV : Value) (gs : List RowG) (wd : Int) (ls : List SLeaf) (p m : Nat) (w : World) (hT : TreeOwn base w ta (treeT wd ls) gl cl VV gs) (hk : NewOk wd ls) (hn : ls.length ≤ 1024) (hm : m = ls.length.log2) (hm10 : m ≤ 10) (hp : p < ls.length) :
  Calls Tryd.prog 37 #[ptrT ta, .int .u64 (p : Int)] w fun e w' => ∃ A c, e = .returned (.tuple #[.agg (entA ls[p] (p : Int) (.slice A m c)), .int .i64 0]) ∧ w'.ownsRow w.heap.size 46 3 (.slice A m c) m (cellsN (besL wd ls p m)) ∧ Below w.heap.size w w' := by
 have HT := aM' hT
 have HKK := aM' hk
 have HN := aM' hn
 have HMM := aM' hm
 have HPL := aM' hp
 obtain ⟨x, hx⟩ : ∃ x, x = ls[p] := ⟨_, rfl⟩
 rw [← hx]
 have hlf : leafAtI (treeT wd ls) (p : Int) = (x, true) := by
  unfold leafAtI
  rw [Int.toNat_natCast, hx]
  simp [treeT, List.getD_eq_getElem?_getD, hp]
 have HLF := aM' hlf
 obtain ⟨i0, hi, hz0, hz1, hz2⟩ := info_parts nodeInfo
 obtain ⟨W0, hW0⟩ : ∃ V, V = w.alloc (.cells entZ 70) := ⟨_, rfl⟩
 have HB0 := aM' (show Below w.heap.size w W0 by rw [hW0]; exact below_alloc (Below.refl _ _) _)
 have H4 := aM' (show W0.heap[w.heap.size]? = some (.cells entZ 70 (0, 0)) by rw [hW0]; exact blk_new _ _)
 have hw0 : (wd == 0) = false := by have := hk.w.1; simp; omega
 clear hT hk hn hm hp hx hlf
 refine (callsIn_wide (n := 3)).1 ?_
 refine callsIn_of_wp_marks Tryd.func37 rfl trivial ?_ rfl
 simp only [Tryd.ntmps37, List.size_toArray, List.length_cons, List.length_nil, Nat.reduceAdd, Nat.reduceSub, Array.replicate_succ, Array.replicate_zero, List.push_toArray, List.append_toArray, List.nil_append, List.cons_append]
 refine wpIn_wide.2 ?_
 go_wp2_with fail
 rw [← hW0]
 clear hW0
 refine (show Calls Tryd.prog 18 #[ptrT ta] W0 fun e w' => e = .returned (.int .i64 wd) ∧ W0 = w' from tWidth.calls ta _ W0 ((HT.out.keep HB0.out).readT HKK.out HN.out)).mono ?_
 rintro e _ ⟨rfl, rfl⟩
 have q := tLeaf.calls ta _ (p : Int) W0 ((HT.out.keep HB0.out).readT HKK.out HN.out) (by omega)
 rw [HLF.out] at q
 have Q := aM' q
 clear q
 go_wp2_with fail
 refine Q.out.mono ?_
 rintro e w1 ⟨rfl, hb⟩
 obtain ⟨g6, hg6⟩ : ∃ g, g = w1.heap.size := ⟨_, rfl⟩
 obtain ⟨W2, hW2⟩ : ∃ V, V = w1.alloc (.cells #[.bool x.f0, .string x.f1, .string x.f2, .int .u64 x.f3.f0, .int .u64 x.f3.f1] 36) := ⟨_, rfl⟩
 have hb2 : Below W0.heap.size W0 W2 := by rw [hW2]; exact below_alloc hb _
 have HB2 := aM' (HB0.out.trans (hb2.mono HB0.out.size))
 have H42 := aM' (blk_below H4.out hb2)
 have H6 := (show W2.heap[g6]? = some (.cells #[.bool x.f0, .string x.f1, .string x.f2, .int .u64 x.f3.f0, .int .u64 x.f3.f1] 36 (0, 0)) by rw [hW2, hg6]; exact blk_new _ _)
 have l0 := blk_cell H6 0
 have l1 := blk_cell H6 1
 have l2 := blk_cell H6 2
 have l3 := blk_cell H6 3
 have l4 := blk_cell H6 4
 simp at l0 l1 l2 l3 l4
 go_upto_region 4 with (fail)
 simp only [← hg6, ← hW2]
 clear hg6 hW2 hb hb2 H6 hw0
 go_upto_region 7 with (fail)
 obtain ⟨g8, hg8⟩ : ∃ g, g = W2.heap.size := ⟨_, rfl⟩
 obtain ⟨W3, hW3⟩ : ∃ V, V = W2.alloc (.cells (entA x (p : Int) (.slice none 0 0)) 70) := ⟨_, rfl⟩
 have hz3 : W3.heap.size = g8 + 1 := by rw [hW3, hg8]; simp
 have hO3 : OfS w x p g8 (g8 + 3) [] W3 := by
  have h1 := blk_lt H42.out
  refine ⟨by rw [hW3]; exact below_alloc HB2.out _, by rw [hW3]; exact blk_alloc H42.out _, by omega, by omega, none, 0, by rw [hW3, hg8]; exact blk_new _ _, World.ownsRow_nil _ _ _ _⟩
 rw [← hg8]
 simp only [← hW3]
 clear hW3 hg8 l0 l1 l2 l3 l4
 have HO3 := aM' hO3
 obtain ⟨tb, htb⟩ : ∃ t, t = W3.heap.size := ⟨_, rfl⟩
 have HTB := aM' (show tb = g8 + 1 by omega)
 clear hO3 hz3
 go_wp2_with fail
 refine (beside.calls ta (p : Int) W3).mono ?_
 rintro e w5 ⟨rfl, hw5⟩
 rw [← htb]
 have hT5 : w5.heap[tb]? = some (.cells #[ptrT ta] 25 (0, 0)) := by rw [hw5, htb]; exact blk_alloc (blk_new W3 _) _
 have hP5 : w5.heap[tb + 1]? = some (.cells #[.int .u64 (p : Int)] 23 (0, 0)) := by
  rw [hw5, htb]
  have := blk_new (W3.alloc (.cells #[ptrT ta] 25)) (.cells #[.int .u64 (p : Int)] 23)
  rwa [World.size_alloc] at this
 have hz5 : w5.heap.size = tb + 2 := by rw [hw5, htb]; simp
 have HO5 := aM' (show OfS w x p g8 (g8 + 3) [] w5 by rw [hw5]; exact HO3.out.below (below_alloc (below_alloc (Below.refl _ _) _) _))
 have HT5 := aM' hT5
 have HP5 := aM' hP5
 have HZ5 := aM' hz5
 clear hw5 htb hT5 hP5 hz5
 go_wp2_with fail
 refine wp_forget (fun z => ({ tmps := List.toArray (ptrT ta :: .int .u64 (p : Int) :: z 2 :: z 3 :: .pointer (some ⟨w.heap.size, 0, none⟩) :: .int .i64 0 :: z 6 :: z 7 :: .pointer (some ⟨g8, 0, none⟩) :: z 9 :: z 10 :: z 11 :: z 12 :: z 13 :: z 14 :: z 15 :: z 16 :: z 17 :: z 18 :: z 19 :: z 20 :: z 21 :: z 22 :: z 23 :: z 24 :: z 25 :: z 26 :: z 27 :: z 28 :: .func (.func 106) #[] #[.pointer (some ⟨tb, 0, none⟩), .pointer (some ⟨tb + 1, 0, none⟩)] :: z 30 :: z 31 :: z 32 :: z 33 :: z 34 :: z 35 :: z 36 :: z 37 :: z 38 :: z 39 :: []), defers := [] } : Act)) rfl ?_
 intro z
 refine (wpIn_wide (n := 3)).1 ?_
 have HSL := aM' (show ∀ k, (k < w.heap.size ∨ k = tb ∨ k = tb + 1) → k < w5.heap.size from fun k hk => by
  have h1 := HZ5.out
  have h3 := HO5.out.hB.size
  rcases hk with h | rfl | rfl <;> omega)
 refine wpIn_rangeFunc_ownH (α := SNode) (n := 3) rfl (by omega) (gf := 106) (lb := #[.pointer (some ⟨tb, 0, none⟩), .pointer (some ⟨tb + 1, 0, none⟩)]) rfl trivial (enters_of Tryd.func106 (by kernel_rfl) rfl) (encs := fun y => #[nodeV y]) (Kp := KeepS (fun k => k < w.heap.size ∨ k = tb ∨ k = tb + 1))
  (S := fun ys => ys = besL wd ls p m) (Sp := fun pre => True) (N := m) (w0 := w5) ?hseq (fun h k => KeepS.trans h k) ?hKb (Below.refl _ _) (fun _ => rfl)
  (fun pre V => OfS w x p g8 (g8 + 3) pre V ∧ w5.heap.size ≤ V.heap.size)
  (fun c2 pre V => False)
  ?hI ?hIx ⟨HO5.out, Nat.le_refl _⟩
  (fun y a' V => ∃ bx, w5.heap.size ≤ bx ∧ V.heap[bx]? = some (.cells (nodeA y) 46 (0, 0)) ∧ a' = ({ tmps := List.toArray (ptrT ta :: .int .u64 (p : Int) :: z 2 :: z 3 :: .pointer (some ⟨w.heap.size, 0, none⟩) :: .int .i64 0 :: z 6 :: z 7 :: .pointer (some ⟨g8, 0, none⟩) :: .pointer (some ⟨bx, 0, none⟩) :: z 10 :: z 11 :: z 12 :: z 13 :: z 14 :: z 15 :: z 16 :: z 17 :: z 18 :: z 19 :: z 20 :: z 21 :: z 22 :: z 23 :: z 24 :: z 25 :: z 26 :: z 27 :: z 28 :: .func (.func 106) #[] #[.pointer (some ⟨tb, 0, none⟩), .pointer (some ⟨tb + 1, 0, none⟩)] :: nodeV y :: z 31 :: z 32 :: z 33 :: z 34 :: z 35 :: z 36 :: z 37 :: z 38 :: z 39 :: []), defers := [] } : Act)) ?hAx ?assign ?body ?done ?stop
 case hKb =>
  intro W' l2 o o' hl2 ho hc hw k hk
  have h1 := HZ5.out
  have h2 := HO5.out.lo
  have h3 := HTB.out
  exact World.putObj_heap_other (by rcases hk with h | rfl | rfl <;> omega)
 case hI =>
  rintro s X Y row ⟨h1, h2⟩ hg hr
  exact ⟨h1.grown hg (fun r e => ⟨by have := (hr r e).1; have := HZ5.out; have := HO5.out.lo; have := HTB.out; omega, (hr r e).2⟩), Nat.le_trans h2 hg.size⟩
 case hIx =>
  rintro c2 s X Y row h hg hr
  exact h
 case hAx =>
  rintro y a' s X Y row ⟨bx, h1, h2, h3⟩ hg hr
  refine ⟨bx, h1, (hg.block bx (blk_lt h2) (fun e => ?_)).trans h2, h3⟩
  obtain ⟨-, o, ho, hc⟩ := hr bx e.symm
  rw [h2] at ho; cases ho; cases hc
 case hseq =>
  intro l2 J Jx W hW hJ hJx hY h0
  have hb5 := HO5.out.hB
  refine (beside1_in 2 (by omega) l2 tb (tb + 1) W.heap.size ta m p wd ls HKK.out HMM.out hm10 HPL.out (by have := HPL.out; have := HN.out; omega) (fun k => k < w.heap.size ∨ k = tb ∨ k = tb + 1) (.inr (.inl rfl)) (.inr (.inr rfl)) J Jx hJ W ?_ hY (blk_below HT5.out hW) (blk_below HP5.out hW) ?_ h0).mono ?_
  ·
   intro W' hk
   refine (HT.out.far (W' := W') (fun k _ hlt => (hk k (.inl hlt)).trans ?_)).readT HKK.out HN.out
   exact (hW.block k (lL' hlt hb5.size)).trans (hb5.block k hlt)
  ·
   intro k hk
   have h1 := HZ5.out
   have h2 := hW.size
   have h3 := hb5.size
   rcases hk with h | rfl | rfl <;> omega
  ·
   rintro e W2 ⟨hv, ⟨ys, h1, h2⟩ | ⟨pre, -, h1⟩⟩
   ·
    exact ⟨hv, .inl ⟨ys, h1, h2⟩⟩
   ·
    exact ⟨hv, .inr ⟨pre, trivial, h1⟩⟩
 case assign =>
  rintro l2 pre y W K ⟨hI, hz⟩ hK
  gi_wp2
  have hg := World.grownBy_alloc W (.cells (nodeA y) 46) none
  refine hK _ _ (KeepsFrom.of_grownBy hg (fun j e => by cases e)) (fun k hk => hg.block k (lL' (HSL.out k hk) hz) (by simp)) ⟨hI.below (below_alloc (Below.refl _ _) _), by simp; omega⟩ ⟨W.heap.size, hz, blk_new W _, rfl⟩
 case body =>
  rintro l2 pre y a' W hl2 - ⟨hI, hz⟩ ⟨bx, hbx, hb, rfl⟩ hlen
  obtain ⟨A, c, hbox, hown0⟩ := hI.b
  have HII := aM' hI
  have HBOX := aM' hbox
  have HOWN0 := aM' hown0
  have HZZ := aM' hz
  have HLEN := aM' hlen
  have y6 : W.cell? ⟨g8, 6, none⟩ = some (.slice A pre.length c) := blk_cell hbox 6
  have n0 : W.cell? ⟨bx, 0, none⟩ = some (.string y.f0) := blk_cell hb 0
  have n1 : W.cell? ⟨bx, 1, none⟩ = some (.int .u64 y.f1.f0) := blk_cell hb 1
  have n2 : W.cell? ⟨bx, 2, none⟩ = some (.int .u64 y.f1.f1) := blk_cell hb 2
  have hsz := HO5.out.lo
  have hz5 := HZ5.out
  have htb := HTB.out
  have HSZ := aM' (show w.heap.size < g8 ∧ g8 + 3 ≤ W.heap.size ∧ g8 < W.heap.size from ⟨hsz, by omega, by omega⟩)
  clear hI hbox hown0 hz hlen hb hbx hl2 hsz hz5 htb
  gi_upto_region 9 with (fail)
  refine wpIn_region_list ?_
  refine li_val (v := .pointer (some ⟨g8, 5, none⟩)) (w' := W) rfl (fun _ => trivial) (fun _ h => by cases h) (by go_simp; done) ?_
  refine li_val (v := .pointer (some ⟨g8, 6, none⟩)) (w' := W) rfl (fun _ => trivial) (fun _ h => by cases h) (by go_simp; done) ?_
  refine li_val (v := .slice A pre.length c) (w' := W) rfl (fun _ => trivial) (fun _ h => by cases h) (by go_simp; done) ?_
  refine li_val (v := .agg #[.string y.f0, .int .u64 y.f1.f0, .int .u64 y.f1.f1]) (w' := W) rfl (fun _ => trivial) (fun _ h => by cases h) (by go_simp; done) ?_
  refine li_val (v := .slice (some ⟨W.heap.size, 0, none⟩) 1 1) (w' := W.alloc (.cells #[.string y.f0, .int .u64 y.f1.f0, .int .u64 y.f1.f1] 46 (0, 0))) rfl (fun _ => trivial) (fun _ h => by cases h) (by go_simp; done) ?_
  refine wpListIn_append_own _ rfl _ _ 43 rfl (g8 + 3) 46 i0 (.agg #[(.string ⟨#[]⟩), (.int .u64 0), (.int .u64 0)]) 3 32 Tryd.underlying43 hi hz0 hz1 hz2 rfl (by decide) (.slice A pre.length c) pre.length (cellsN pre) rfl ?own ⟨W.heap.size, 0, none⟩ 1 1 [.string y.f0, .int .u64 y.f1.f0, .int .u64 y.f1.f1] rfl rfl ?cells ?one ?b1 ?b2 ?b3 ?_
  (case own => exact ownB HOWN0.out (below_alloc (Below.refl _ _) _))
  (case cells => exact World.news_of_block (blk_new W _))
  (case one => intro u hu; simp at hu; rcases hu with rfl | rfl | rfl <;> rfl)
  (case b1 => have h1 := HLEN.out; unfold maxLen; omega)
  (case b2 => have h1 := HLEN.out; omega)
  (case b3 => rw [World.size_alloc]; have := HSZ.out; omega)
  intro v' w7 hown hgr hnil
  obtain ⟨g, cap, rfl, -, hg7⟩ := hown.form (by omega)
  have hal := below_alloc (Below.refl W.heap.size W) (.cells #[.string y.f0, .int .u64 y.f1.f0, .int .u64 y.f1.f1] 46 (0, 0))
  have hmore := (HII.out.below hal).more (by have := HSZ.out; omega) (blk_below HBOX.out hal) (ownB HOWN0.out hal) hgr hown
  have HMORE := aM' hmore
  have hno : ∀ k, k < g8 + 3 → (Value.slice A pre.length c).ownBlock ≠ some k := fun k hk e => by have := (HOWN0.out.lt k e).1; omega
  have HGR := aM' hgr
  have HNO := aM' hno
  have hz6 := (hgr.block g8 (by rw [World.size_alloc]; have := HSZ.out; omega) (fun e => hno g8 (by omega) e.symm)).trans (blk_below HBOX.out hal)
  have z6 : w7.cell? ⟨g8, 6, none⟩ = some (.slice A pre.length c) := blk_cell hz6 6
  have zf : ∀ i, w7.frozen? ⟨g8, i, none⟩ = false := fun i => blk_frozen hz6 i
  have HAL := aM' hal
  clear hown hgr hz6 hnil hno hg7 hmore hal
  refine li_val (v := .pointer (some ⟨g8, 5, none⟩)) (w' := w7) rfl (fun _ => trivial) (fun _ h => by cases h) (by go_simp; done) ?_
  refine li_val (v := .pointer (some ⟨g8, 6, none⟩)) (w' := w7) rfl (fun _ => trivial) (fun _ h => by cases h) (by go_simp; done) ?_
  refine li_skip (w' := w7.setCell ⟨g8, 6, none⟩ (.slice (some ⟨g, 0, none⟩) (pre.length + 1) cap)) rfl (fun _ => trivial) (fun _ h => by cases h) (by go_simp; first | done | rfl) ?_
  gi_wp2
  have hend : ∀ k, k < W.heap.size → (Value.slice A pre.length c).ownBlock ≠ some k → k ≠ g8 → (w7.setCell ⟨g8, 6, none⟩ (.slice (some ⟨g, 0, none⟩) (pre.length + 1) cap)).heap[k]? = W.heap[k]? := fun k hk h1 h2 =>
   (Below.heap_setCell _ _ _ _ h2).trans ((HGR.out.block k (by rw [World.size_alloc]; omega) (fun e => h1 e.symm)).trans (HAL.out.block k hk))
  have hsz : W.heap.size ≤ w7.heap.size := by have h1 := HGR.out.size; rw [World.size_alloc] at h1; omega
  refine ⟨⟨by simpa using hsz, fun k o hk h0 ho => ?_⟩, ?_, ?_⟩
  ·
   rw [hend k (Array.getElem?_eq_some_iff.1 h0).1 (fun e => ?_) (fun e => ?_)]
   ·
    exact h0
   ·
    obtain ⟨cs, h3⟩ := own_cells HOWN0.out e
    rw [h0] at h3
    cases h3
    cases ho
   ·
    rw [e, HBOX.out] at h0
    cases h0
    cases ho
  ·
   intro k hk
   have h1 := HSL.out k hk
   have h2 := HO5.out.lo
   have h3 := HTB.out
   have h4 := HZZ.out
   have h5 := HZ5.out
   have hk8 : k ≠ g8 := by rcases hk with h | rfl | rfl <;> omega
   exact hend k (by omega) (HNO.out k (by rcases hk with h | rfl | rfl <;> omega)) hk8
  ·
   exact ⟨HMORE.out, by have := HZZ.out; simp; omega⟩
 case done =>
  rintro D ys W hD hys ⟨hI, hz⟩ hdf
  obtain ⟨A, c, hbox, hown⟩ := hI.b
  have hlen : ys.length = m := by rw [hys]; exact besL_len ..
  have y0 : W.cell? ⟨g8, 0, none⟩ = some (.bool x.f0) := blk_cell hbox 0
  have y1 : W.cell? ⟨g8, 1, none⟩ = some (.string x.f1) := blk_cell hbox 1
  have y2 : W.cell? ⟨g8, 2, none⟩ = some (.string x.f2) := blk_cell hbox 2
  have y3 : W.cell? ⟨g8, 3, none⟩ = some (.int .u64 x.f3.f0) := blk_cell hbox 3
  have y4 : W.cell? ⟨g8, 4, none⟩ = some (.int .u64 x.f3.f1) := blk_cell hbox 4
  have y5 : W.cell? ⟨g8, 5, none⟩ = some (.int .u64 (p : Int)) := blk_cell hbox 5
  have y6 : W.cell? ⟨g8, 6, none⟩ = some (.slice A ys.length c) := blk_cell hbox 6
  have z0 : W.cell? ⟨w.heap.size, 0, none⟩ = some (.bool false) := blk_cell hI.h4 0
  have z1 : W.cell? ⟨w.heap.size, 1, none⟩ = some (.string ⟨#[]⟩) := blk_cell hI.h4 1
  have z2 : W.cell? ⟨w.heap.size, 2, none⟩ = some (.string ⟨#[]⟩) := blk_cell hI.h4 2
  have z3 : W.cell? ⟨w.heap.size, 3, none⟩ = some (.int .u64 0) := blk_cell hI.h4 3
  have z4 : W.cell? ⟨w.heap.size, 4, none⟩ = some (.int .u64 0) := blk_cell hI.h4 4
  have z5 : W.cell? ⟨w.heap.size, 5, none⟩ = some (.int .u64 0) := blk_cell hI.h4 5
  have z6 : W.cell? ⟨w.heap.size, 6, none⟩ = some (.slice none 0 0) := blk_cell hI.h4 6
  have zf : ∀ i, W.frozen? ⟨w.heap.size, i, none⟩ = false := fun i => blk_frozen hI.h4 i
  obtain ⟨W9, hW9⟩ : ∃ V, V = (((((((W.setCell ⟨w.heap.size, 0, none⟩ (.bool x.f0)).setCell ⟨w.heap.size, 1, none⟩ (.string x.f1)).setCell ⟨w.heap.size, 2, none⟩ (.string x.f2)).setCell ⟨w.heap.size, 3, none⟩ (.int .u64 x.f3.f0)).setCell ⟨w.heap.size, 4, none⟩ (.int .u64 x.f3.f1)).setCell ⟨w.heap.size, 5, none⟩ (.int .u64 (p : Int))).setCell ⟨w.heap.size, 6, none⟩ (.slice A ys.length c)) := ⟨_, rfl⟩
  have hk9 : ∀ k, k ≠ w.heap.size → W9.heap[k]? = W.heap[k]? := fun k hk => by
   rw [hW9]; exact (Below.heap_setCell _ _ _ _ hk).trans ((Below.heap_setCell _ _ _ _ hk).trans ((Below.heap_setCell _ _ _ _ hk).trans ((Below.heap_setCell _ _ _ _ hk).trans ((Below.heap_setCell _ _ _ _ hk).trans ((Below.heap_setCell _ _ _ _ hk).trans (Below.heap_setCell _ _ _ _ hk))))))
  have H49 := aM' (show W9.heap[w.heap.size]? = some (.cells (entA x (p : Int) (.slice A ys.length c)) 70 (0, 0)) by rw [hW9]; exact blk_put (blk_put (blk_put (blk_put (blk_put (blk_put (blk_put hI.h4 0 _ rfl) 1 _ rfl) 2 _ rfl) 3 _ rfl) 4 _ rfl) 5 _ rfl) 6 _ rfl)
  have HB9 := aM' (show Below w.heap.size w W9 by rw [hW9]; exact below_set (below_set (below_set (below_set (below_set (below_set (below_set (hI.hB) (Nat.le_refl _)) (Nat.le_refl _)) (Nat.le_refl _)) (Nat.le_refl _)) (Nat.le_refl _)) (Nat.le_refl _)) (Nat.le_refl _))
  have hlo := hI.lo
  have hz5 := HZ5.out
  have htb := HTB.out
  have HD9 := aM' (show W9.heap[D]? = some (.deferred (some [])) from (hk9 D (by omega)).trans hdf)
  have HOW9 := aM' (ownAny_keep hown (fun g hg => hk9 g (by have := (hown.lt g hg).1; have := hI.hi; omega)))
  have HYS := aM' hys
  have HLE := aM' hlen
  have HDD := aM' (show w.heap.size < D ∧ w.heap.size < g8 from ⟨by omega, hlo⟩)
  clear hk9 hI hbox hown hlen hz hD hys hdf hlo hz5 htb
  dsimp only
  go_wp2
  rw [← hW9]
  refine retD (ds := [D]) (v := .tuple #[.agg (entA x (p : Int) (.slice A ys.length c)), .int .i64 0]) (List.nodup_cons.2 ⟨List.not_mem_nil, List.nodup_nil⟩) (fun D' hD' => by rw [List.mem_singleton.1 hD']; exact HD9.out) (fun W' hW' => ?_)
  have hno : ∀ (k : Nat) (cs : Array Value) (t : TypeId) (f : Nat × Nat), W9.heap[k]? = some (Obj.cells cs t f) → W'.heap[k]? = some (Obj.cells cs t f) := fun k cs t f hk => by
   rw [hW'.heap k (fun hm => ?_)]
   ·
    exact hk
   ·
    rw [List.mem_singleton.1 hm, HD9.out] at hk
    cases hk
  refine ⟨of_results _ _ _ _ _ _ _ _ _ _ _ rfl rfl (hno _ _ _ _ H49.out), A, c, by rw [HLE.out], ?_, hW'.below HB9.out (fun D' hD' => by rw [List.mem_singleton.1 hD']; have := HDD.out; omega)⟩
  have h1 := own_base (ownAny_keep (w' := W') HOW9.out (fun g hg => by
   obtain ⟨cs, h3⟩ := own_cells HOW9.out hg
   rw [hno _ _ _ _ h3, h3])) (show w.heap.size ≤ g8 + 3 by have := HDD.out; omega)
  rw [HLE.out, HYS.out] at h1
  exact h1
 case stop =>
  rintro D c2 pre W hD - h hdf
  exact h.elim
end Go.Proofs.YtfcodmdckcihmaaDoor.P
namespace Go.Proofs.YtfcodmdckcihmaaDoor.P
open Go.RowKit Go.Proofs.YtfcodmdckcihmaaDoorW.PrintWords Go.Proofs.YtfcodmdckcihmaaDoorW.PrintLast Go.Proofs.YtfcodmdckcihmaaDoorW.PrintMore
set_option linter.unusedVariables false
set_option linter.unusedSimpArgs false
set_option linter.unnecessarySimpa false
abbrev EntR := SEntry × Option Addr × Nat
def cellsE : List EntR → List Value
 | [] => []
 | x :: l => .bool x.1.f0.f0 :: .string x.1.f0.f1 :: .string x.1.f0.f2 :: .int .u64 x.1.f0.f3.f0 :: .int .u64 x.1.f0.f3.f1 :: .int .u64 x.1.f1.f0 :: .slice x.2.1 x.1.f1.f1.length x.2.2 :: cellsE l
theorem cellsE_len : ∀ l, (cellsE l).length = l.length * 7
 | [] => rfl
 | x :: l => by simp [cellsE, cellsE_len l]; omega
theorem cellsE_append : ∀ a b, cellsE (a ++ b) = cellsE a ++ cellsE b
 | [], _ => rfl
 | x :: a, b => by rw [List.cons_append, cellsE, cellsE_append a b]; rfl
theorem cellsE_get : ∀ (l : List EntR) (j i : Nat) (p : EntR), l[j]? = some p → i < 7 → (cellsE l)[j * 7 + i]? = [Value.bool p.1.f0.f0, .string p.1.f0.f1, .string p.1.f0.f2, .int .u64 p.1.f0.f3.f0, .int .u64 p.1.f0.f3.f1, .int .u64 p.1.f1.f0, .slice p.2.1 p.1.f1.f1.length p.2.2][i]?
 | [], j, i, p, h, _ => by simp at h
 | x :: l, 0, i, p, h, hi => by
  obtain rfl := Option.some.inj h
  rw [cellsE, Nat.zero_mul, Nat.zero_add]
  match i, hi with
  | 0, _ => rfl
  | 1, _ => rfl
  | 2, _ => rfl
  | 3, _ => rfl
  | 4, _ => rfl
  | 5, _ => rfl
  | 6, _ => rfl
 | x :: l, j + 1, i, p, h, hi => by
  have h' : l[j]? = some p := by simpa using h
  rw [cellsE, show (j + 1) * 7 + i = (j * 7 + i) + 7 by omega]
  simp only [List.getElem?_cons_succ]
  exact cellsE_get l j i p h' hi
def EntC (w : World) (x : EntR) : Prop := x.1.f1.f1.length ≤ x.2.2 ∧ Kd.C kNode w x.2.1 x.1.f1.f1.length x.1.f1.f1
theorem EntC.below {w w' : World} {x : EntR} (h : EntC w x) (hb : Below w.heap.size w w') : EntC w' x := ⟨h.1, Kd.C_below h.2 hb⟩
theorem ownEnts_C {w : World} {base g n cap : Nat} {xs : List EntR} (h : w.ownsRow base 70 7 (.slice (some ⟨g, 0, none⟩) n cap) n (cellsE xs)) (hs : ∀ x ∈ xs, EntC w x) : xs.length = n ∧ n ≤ cap ∧ Kd.C kEntry w (some ⟨g, 0, none⟩) n (xs.map Prod.fst) := by
 obtain ⟨hlen, h⟩ := h
 rw [cellsE_len] at hlen
 have hl : xs.length = n := by omega
 rcases h with ⟨h, _⟩ | ⟨g', cap', cur, hv, hb, hg, hcap, hmax, hsz, htk⟩
 ·
  cases h
 ·
  simp only [Value.slice.injEq, Option.some.injEq, Addr.mk.injEq] at hv
  obtain ⟨⟨rfl, -⟩, -, rfl⟩ := hv
  refine ⟨hl, hcap, by rw [List.length_map]; exact hl, by unfold maxLen at hmax; omega, fun h0 => ⟨_, rfl, fun j p hj => ?_⟩⟩
  obtain ⟨x, hx, rfl⟩ : ∃ x, xs[j]? = some x ∧ x.1 = p := by
   rw [List.getElem?_map] at hj
   cases hx : xs[j]? with
   | none => rw [hx] at hj; cases hj
   | some x => rw [hx] at hj; exact ⟨x, rfl, Option.some.inj hj⟩
  have hc := hs x (List.mem_of_getElem? hx)
  refine ⟨_, rfl, kEntry_mk w x.1 hc.1 hc.2, fun i u hu => ?_⟩
  have hi : i < 7 := by
   rcases Nat.lt_or_ge i 7 with h | h
   ·
    exact h
   ·
    simp [h] at hu
  have hjn : j < xs.length := (List.getElem?_eq_some_iff.1 hx).1
  have e : kEntry.sz = 7 := rfl
  have ea : ∀ n, (⟨g, 0, none⟩ : Addr).add n = ⟨g, n, none⟩ := fun n => by unfold Addr.add; split <;> simp_all
  rw [e, ea, blk_cell hg]
  have h1 := cellsE_get xs j i x hx hi
  rw [← htk, List.getElem?_take, if_pos (by omega)] at h1
  rw [hu] at h1
  simpa using h1
theorem own_nodes {w : World} {base n cap : Nat} {A : Option Addr} {xs : List SNode} (h : w.ownsRow base 46 3 (.slice A n cap) n (cellsN xs)) (hx : xs.length = n) : n ≤ cap ∧ Kd.C kNode w A n xs := by
 cases n with
 | zero =>
  obtain rfl := List.length_eq_zero_iff.1 hx
  exact ⟨Nat.zero_le _, rfl, by decide, fun h => absurd h (by decide)⟩
 | succ n =>
  obtain ⟨g, c, hv, -, -⟩ := h.form (by omega)
  cases hv
  have := ownNodes_C h
  exact ⟨this.2.1, this.2.2⟩
theorem own_ents {w : World} {base n cap : Nat} {A : Option Addr} {xs : List EntR} (h : w.ownsRow base 70 7 (.slice A n cap) n (cellsE xs)) (hx : xs.length = n) (hs : ∀ x ∈ xs, EntC w x) : n ≤ cap ∧ Kd.C kEntry w A n (xs.map Prod.fst) := by
 cases n with
 | zero =>
  obtain rfl := List.length_eq_zero_iff.1 hx
  exact ⟨Nat.zero_le _, rfl, by decide, fun h => absurd h (by decide)⟩
 | succ n =>
  obtain ⟨g, c, hv, -, -⟩ := h.form (by omega)
  cases hv
  have := ownEnts_C h hs
  exact ⟨this.2.1, this.2.2⟩
end Go.Proofs.YtfcodmdckcihmaaDoor.P
namespace Go.Proofs.YtfcodmdckcihmaaDoor.P
open Go.RowKit Go.Proofs.YtfcodmdckcihmaaDoorW.PrintWords Go.Proofs.YtfcodmdckcihmaaDoorW.PrintLast Go.Proofs.YtfcodmdckcihmaaDoorW.PrintMore
set_option linter.unusedVariables false
set_option linter.unusedSimpArgs false
set_option linter.unnecessarySimpa false
theorem shapeN_zero {a0 a1 p : Int} {l : List SNode} (h : shapeN a0 a1 p l = 0) : (0 ≤ a1 ∧ a1 ≤ 63) ∧ (1 ≤ a0 ∧ a0 ≤ 32) ∧ (∀ x ∈ l, nodeOf a0 x = true) ∧ (l.length : Int) = a1 := by
 unfold shapeN at h
 split at h
 ·
  exact absurd h (by decide)
 split at h
 ·
  exact absurd h (by decide)
 split at h
 ·
  exact absurd h (by decide)
 rename_i h1 h2 h3
 have g1 : ¬ a0 < 1 := fun h => h2 (.inl h)
 have g2 : ¬ a0 > 32 := fun h => h2 (.inr (.inl h))
 refine ⟨by omega, by omega, fun x hx => ?_, ?_⟩
 ·
  cases hn : nodeOf a0 x with
  | true => rfl
  | false => exact absurd (.inr (.inr (List.any_eq_true.2 ⟨x, hx, by rw [hn]; rfl⟩))) h2
 ·
  exact Classical.byContradiction fun h => h3 (.inl h)
theorem mayRI_zero {r : SRoot} : mayRI r = 0 ↔ (0 ≤ r.f2 ∧ r.f2 ≤ 63) ∧ (1 ≤ (r.f0.size : Int) ∧ (r.f0.size : Int) ≤ 32) := by
 unfold mayRI
 split
 ·
  exact ⟨fun h => absurd h (by decide), fun h => by omega⟩
 split
 ·
  exact ⟨fun h => absurd h (by decide), fun h => by omega⟩
 exact ⟨fun _ => by omega, fun _ => rfl⟩
structure UpOk (w : Int) (e : SEntry) : Prop where
 may : mayLeafI e.f0 = true
 shape : shapeN w (e.f1.f1.length : Int) e.f1.f0 e.f1.f1 = 0
 err : (climbE w e).2.2.2 = 0
theorem checkI_iff (r : SRoot) (e : SEntry) : checkI r e = 0 ↔ (UpOk (r.f0.size : Int) e ∧ (climbE (r.f0.size : Int) e).1.toList = r.f0.toList ∧ (climbE (r.f0.size : Int) e).2.1 = r.f1.f0 ∧ (climbE (r.f0.size : Int) e).2.2.1 = r.f1.f1 ∧ (e.f1.f1.length : Int) = r.f2) := by
 unfold checkI
 constructor
 ·
  intro h
  split at h
  ·
   split at h
   ·
    rename_i hm
    split at h
    ·
     rename_i hs
     split at h
     ·
      rename_i hc
      split at h
      ·
       rename_i ht
       have hl := (shapeN_zero hs).2.2.2
       rw [← hl] at hs
       exact ⟨⟨hm, hs, hc⟩, ht.1, ht.2.1, ht.2.2, hl⟩
      ·
       exact absurd h (by decide)
     ·
      rename_i hc; exact absurd h hc
    ·
     rename_i hs; exact absurd h hs
   ·
    exact absurd h (by decide)
  ·
   rename_i hm; exact absurd h hm
 ·
  rintro ⟨u, h1, h2, h3, h4⟩
  have hs := u.shape
  obtain ⟨hH, hw, _, _⟩ := shapeN_zero hs
  rw [h4] at hs hH
  rw [if_pos (mayRI_zero.2 ⟨hH, hw⟩), if_pos u.may, if_pos hs, if_pos u.err, if_pos ⟨h1, h2, h3⟩]
end Go.Proofs.YtfcodmdckcihmaaDoor.P
namespace Go.Proofs.YtfcodmdckcihmaaDoor.P
open Go.RowKit Go.Proofs.YtfcodmdckcihmaaDoorW.PrintWords Go.Proofs.YtfcodmdckcihmaaDoorW.PrintLast Go.Proofs.YtfcodmdckcihmaaDoorW.PrintMore
set_option linter.unusedVariables false
set_option linter.unusedSimpArgs false
set_option linter.unnecessarySimpa false
theorem pairsV_drop (w : Int) : ∀ (j : Nat) (l : List SNode), 2 * j ≤ l.length → pairsV w (l.drop (2 * j)) = (pairsV w l).drop j
 | 0, l, _ => rfl
 | j + 1, a :: b :: l, h => by
  rw [show 2 * (j + 1) = 2 * j + 1 + 1 by omega, List.drop_succ_cons, List.drop_succ_cons, pairsV, List.drop_succ_cons, pairsV_drop w j l (by simp at h; omega)]
theorem pairsV_take (w : Int) : ∀ (j : Nat) (l : List SNode), 2 * j ≤ l.length → pairsV w (l.take (2 * j)) = (pairsV w l).take j
 | 0, l, _ => rfl
 | j + 1, a :: b :: l, h => by
  rw [show 2 * (j + 1) = 2 * j + 1 + 1 by omega, List.take_succ_cons, List.take_succ_cons, pairsV, pairsV, List.take_succ_cons, pairsV_take w j l (by simp at h; omega)]
theorem upV_chunk (w : Int) : ∀ (n K q : Nat) (l : List SNode), l.length = 2 ^ K → n ≤ K → q < 2 ^ (K - n) → (upV w n l).getD q zeroN = treeV w n ((l.drop (q * 2 ^ n)).take (2 ^ n))
 | 0, K, q, l, hl, _, hq => by
  rw [upV, Nat.pow_zero, Nat.mul_one, treeV, List.getD_eq_getElem?_getD, List.headD_eq_head?_getD, List.head?_take, if_neg (by decide), List.head?_drop]
 | n + 1, 0, q, l, hl, h, _ => by omega
 | n + 1, K + 1, q, l, hl, h, hq => by
  have h2 : (2 : Nat) ^ (K + 1) = 2 * 2 ^ K := by rw [Nat.pow_succ, Nat.mul_comm]
  have h3 : (2 : Nat) ^ (n + 1) = 2 * 2 ^ n := by rw [Nat.pow_succ, Nat.mul_comm]
  rw [show K + 1 - (n + 1) = K - n by omega] at hq
  have h4 : (q + 1) * 2 ^ n ≤ 2 ^ K := by
   have := Nat.mul_le_mul_right (2 ^ n) (show q + 1 ≤ 2 ^ (K - n) from hq)
   rw [← Nat.pow_add, show K - n + n = K by omega] at this
   exact this
  have h5 : (q + 1) * 2 ^ n = q * 2 ^ n + 2 ^ n := by rw [Nat.add_mul, Nat.one_mul]
  have e : q * 2 ^ (n + 1) = 2 * (q * 2 ^ n) := by rw [h3, ← Nat.mul_assoc, Nat.mul_comm q 2, Nat.mul_assoc]
  rw [upV, upV_chunk w n K q _ (pairsV_len w (2 ^ K) l (hl.trans h2)) (by omega) hq, treeV_pairs w n _ ?_, e, h3, pairsV_take w _ _ ?_, pairsV_drop w _ _ ?_]
  ·
   omega
  ·
   rw [List.length_drop]; omega
  ·
   rw [List.length_take, List.length_drop]; omega
theorem upV_top (w : Int) (K : Nat) (l : List SNode) (hl : l.length = 2 ^ K) : (upV w K l).getD 0 zeroN = treeV w K l := by
 rw [upV_chunk w K K 0 l hl (Nat.le_refl _) (by rw [Nat.sub_self]; decide), Nat.zero_mul, List.drop_zero, List.take_of_length_le (by omega)]
end Go.Proofs.YtfcodmdckcihmaaDoor.P
namespace Go.Proofs.YtfcodmdckcihmaaDoor.P
open Go.RowKit Go.Proofs.YtfcodmdckcihmaaDoorW.PrintWords Go.Proofs.YtfcodmdckcihmaaDoorW.PrintLast Go.Proofs.YtfcodmdckcihmaaDoorW.PrintMore
set_option linter.unusedVariables false
set_option linter.unusedSimpArgs false
set_option linter.unnecessarySimpa false
theorem top_tree {wd : Int} {k : List SLeaf} (hn : NewOk wd k) : topI (treeT wd k) = treeV wd k.length.log2 (k.map (leafNodeI wd)) := by
 have hl : (k.map (leafNodeI wd)).length = 2 ^ k.length.log2 := by rw [List.length_map]; exact hn.p
 rw [levels_top, ← upV_top wd _ _ hl]
 have h1 := upV_len2 (w := wd) hl k.length.log2 (Nat.le_refl _)
 rw [Nat.sub_self] at h1
 match e : upV wd k.length.log2 (k.map (leafNodeI wd)), h1 with
 | [y], _ => rfl
end Go.Proofs.YtfcodmdckcihmaaDoor.P
namespace Go.Proofs.YtfcodmdckcihmaaDoor.P
open Go.RowKit Go.Proofs.YtfcodmdckcihmaaDoorW.PrintWords Go.Proofs.YtfcodmdckcihmaaDoorW.PrintLast Go.Proofs.YtfcodmdckcihmaaDoorW.PrintMore
set_option linter.unusedVariables false
set_option linter.unusedSimpArgs false
set_option linter.unnecessarySimpa false
theorem besV_side {wd : Int} {l : List SNode} {K p j : Nat} (hl : l.length = 2 ^ K) (hp : p < 2 ^ K) (hj : j < K) : besV wd l p j = sideV wd l p j := by
 have h1 := upV_len2 (w := wd) hl j (by omega)
 have h2 := div_lt hp (show j ≤ K by omega)
 have h3 : 2 ^ (K - j) = 2 * 2 ^ (K - (j + 1)) := by rw [show K - j = (K - (j + 1)) + 1 by omega, Nat.pow_succ, Nat.mul_comm]
 unfold besV sideV blkV
 refine upV_chunk wd j K _ l hl (by omega) ?_
 generalize p / 2 ^ j = q at h2
 have h4 : 0 < 2 ^ (K - (j + 1)) := Nat.two_pow_pos _
 split <;> omega
theorem besL_side {wd : Int} {ls : List SLeaf} {m p : Nat} (hn : NewOk wd ls) (hm : m = ls.length.log2) (hp : p < ls.length) : besL wd ls p m = (List.range m).map (sideV wd (ls.map (leafNodeI wd)) p) := by
 have hl : (ls.map (leafNodeI wd)).length = 2 ^ m := by rw [List.length_map, hm]; exact hn.p
 unfold besL
 refine List.map_congr_left fun j hj => ?_
 exact besV_side hl (by rw [List.length_map] at hl; omega) (List.mem_range.1 hj)
theorem besL_climb {wd : Int} {ls : List SLeaf} {m p : Nat} (hn : NewOk wd ls) (hm : m = ls.length.log2) (hp : p < ls.length) (h63 : m ≤ 63) : climbI wd (leafNodeI wd ls[p]) (p : Int) (besL wd ls p m) = ((topI (treeT wd ls)).f0, (topI (treeT wd ls)).f1.f0, (topI (treeT wd ls)).f1.f1, 0) := by
 have hl : (ls.map (leafNodeI wd)).length = 2 ^ m := by rw [List.length_map, hm]; exact hn.p
 have h := climb_place (w := wd) (p := p) hl (by rw [List.length_map] at hl; omega) hn.k hn.t h63 (besL_side hn hm hp)
 have e : (ls.map (leafNodeI wd)).getD p zeroN = leafNodeI wd ls[p] := by simp [List.getD_eq_getElem?_getD, hp]
 rw [e] at h
 rw [h, top_tree hn, ← hm]
theorem besL_k {wd : Int} {ls : List SLeaf} {m p : Nat} (hn : NewOk wd ls) (hm : m = ls.length.log2) (hp : p < ls.length) : ∀ x ∈ besL wd ls p m, NodeK wd x := by
 have hl : (ls.map (leafNodeI wd)).length = 2 ^ m := by rw [List.length_map, hm]; exact hn.p
 intro x hx
 unfold besL at hx
 obtain ⟨j, hj, rfl⟩ := List.mem_map.1 hx
 exact (besV_k (w := wd) hl hn.k hn.t (p := p) (by rw [List.length_map] at hl; omega) j (List.mem_range.1 hj)).1
theorem besL_any {wd : Int} {ls : List SLeaf} {m p : Nat} (hn : NewOk wd ls) (hm : m = ls.length.log2) (hp : p < ls.length) : (besL wd ls p m).any (fun n => !nodeOf wd n) = false := by
 rw [List.any_eq_false]
 intro x hx
 rw [(besL_k hn hm hp x hx).of]
 decide
theorem besL_shape {wd : Int} {ls : List SLeaf} {m p : Nat} (hn : NewOk wd ls) (hm : m = ls.length.log2) (hp : p < ls.length) (h63 : m ≤ 62) : shapeN wd (m : Int) (p : Int) (besL wd ls p m) = 0 ∧ shapeN wd ((m : Int) + 1) (p : Int) (besL wd ls p m) = 160 := by
 have hw := hn.w
 have ha := besL_any hn hm hp
 have hq : (p : Int) / 2 ^ m = 0 := by
  have h1 : p < 2 ^ m := by rw [hm]; have := hn.p; omega
  have h2 : p / 2 ^ m = 0 := Nat.div_eq_of_lt h1
  have h3 : ((p / 2 ^ m : Nat) : Int) = (p : Int) / 2 ^ m := by simp
  rw [← h3, h2]; rfl
 constructor
 ·
  unfold shapeN
  rw [if_neg (by omega), if_neg (by rw [ha]; simp; omega), if_neg (by rw [besL_len, Int.toNat_natCast, hq]; simp)]
 ·
  unfold shapeN
  rw [if_neg (by omega), if_neg (by rw [ha]; simp; omega), if_pos (by left; rw [besL_len]; omega)]
end Go.Proofs.YtfcodmdckcihmaaDoor.P
namespace Go.Proofs.YtfcodmdckcihmaaDoor.P
open Go.RowKit Go.Proofs.YtfcodmdckcihmaaDoorW.PrintWords Go.Proofs.YtfcodmdckcihmaaDoorW.PrintLast Go.Proofs.YtfcodmdckcihmaaDoorW.PrintMore
set_option linter.unusedVariables false
set_option linter.unusedSimpArgs false
set_option linter.unnecessarySimpa false
def entE (wd : Int) (ls : List SLeaf) (p m : Nat) : SEntry := ⟨ls.getD p leafZ, ⟨(p : Int), besL wd ls p m⟩⟩
theorem entE_leaf {wd : Int} {ls : List SLeaf} {p m : Nat} (hp : p < ls.length) : (entE wd ls p m).f0 = ls[p] := by
 show ls.getD p leafZ = _
 simp [List.getD_eq_getElem?_getD, hp]
def rootE (wd : Int) (ls : List SLeaf) (m : Nat) : SRoot := ⟨(topI (treeT wd ls)).f0, (topI (treeT wd ls)).f1, (m : Int)⟩
theorem may_of_node {w : Int} {x : SLeaf} (h : NodeK w (leafNodeI w x)) : mayLeafI x = true := by
 obtain ⟨h1, h2, h3⟩ := nodeOf_w h.of
 unfold leafNodeI at h3
 split at h3
 ·
  rename_i h4; exact h4.2
 ·
  have : ((ByteArray.size (⟨#[]⟩ : ByteArray) : Nat) : Int) = w := h3
  have e : ByteArray.size (⟨#[]⟩ : ByteArray) = 0 := rfl
  rw [e] at this
  omega
section
variable {wd : Int} {ls : List SLeaf} {m p : Nat}
theorem honest_climb (hn : NewOk wd ls) (hm : m = ls.length.log2) (hp : p < ls.length) (h63 : m ≤ 62) : climbE wd (entE wd ls p m) = ((topI (treeT wd ls)).f0, (topI (treeT wd ls)).f1.f0, (topI (treeT wd ls)).f1.f1, 0) := by
 unfold climbE
 rw [entE_leaf hp]
 exact besL_climb hn hm hp (by omega)
theorem honest_up (hn : NewOk wd ls) (hm : m = ls.length.log2) (hp : p < ls.length) (h63 : m ≤ 62) : UpOk wd (entE wd ls p m) := by
 refine ⟨?_, ?_, ?_⟩
 ·
  rw [entE_leaf hp]
  exact may_of_node (hn.k _ (List.mem_map_of_mem (List.getElem_mem hp)))
 ·
  show shapeN wd ((besL wd ls p m).length : Int) (p : Int) (besL wd ls p m) = 0
  rw [besL_len]
  exact (besL_shape hn hm hp h63).1
 ·
  rw [honest_climb hn hm hp h63]
theorem honest_okE (hn : NewOk wd ls) (hm : m = ls.length.log2) (hp : p < ls.length) (h10 : m ≤ 10) (hl : ls.length ≤ 1024) (hok : ∀ x ∈ ls, OkL x) : OkE (entE wd ls p m) := by
 have h := hok _ (List.getElem_mem hp)
 refine ⟨?_, ?_, ?_, ?_, ?_, ?_⟩
 ·
  rw [entE_leaf hp]; exact h.id
 ·
  rw [entE_leaf hp]; exact h.sa
 ·
  rw [entE_leaf hp]; exact h.ub
 ·
  show 0 ≤ (p : Int) ∧ (p : Int) < 18446744073709551616
  omega
 ·
  intro x hx
  exact (besL_k hn hm hp x hx).u
 ·
  show (besL wd ls p m).length ≤ _
  rw [besL_len]; omega
theorem top_k (hn : NewOk wd ls) : NodeK wd (topI (treeT wd ls)) := by
 have hl : (ls.map (leafNodeI wd)).length = 2 ^ ls.length.log2 := by rw [List.length_map]; exact hn.p
 rw [top_tree hn]
 exact treeV_k _ _ hl hn.k hn.t
theorem honest_check (hn : NewOk wd ls) (hm : m = ls.length.log2) (hp : p < ls.length) (h63 : m ≤ 62) : checkI (rootE wd ls m) (entE wd ls p m) = 0 := by
 have hw := (nodeOf_w (top_k hn).of).2.2
 have hc := honest_climb hn hm hp h63
 refine (checkI_iff _ _).2 ?_
 have e : ((rootE wd ls m).f0.size : Int) = wd := hw
 rw [e, hc]
 exact ⟨honest_up hn hm hp h63, rfl, rfl, rfl, by show ((besL wd ls p m).length : Int) = (m : Int); rw [besL_len]⟩
theorem honest_one (hn : NewOk wd ls) (hm : m = ls.length.log2) (hp : p < ls.length) (h63 : m ≤ 62) (r : SRoot) (hw : (r.f0.size : Int) = wd) (h : checkI r (entE wd ls p m) = 0) : r.f0.toList = (rootE wd ls m).f0.toList ∧ r.f1 = (rootE wd ls m).f1 ∧ r.f2 = (m : Int) := by
 have h := (checkI_iff _ _).1 h
 rw [hw, honest_climb hn hm hp h63] at h
 obtain ⟨-, h1, h2, h3, h4⟩ := h
 refine ⟨h1.symm, ?_, ?_⟩
 ·
  rcases hr : r.f1 with ⟨a, b⟩
  rw [hr] at h2 h3
  show _ = (topI (treeT wd ls)).f1
  rcases ht : (topI (treeT wd ls)).f1 with ⟨a', b'⟩
  rw [ht] at h2 h3
  dsimp only at h2 h3
  rw [h2, h3]
 ·
  rw [← h4]
  show ((besL wd ls p m).length : Int) = _
  rw [besL_len]
theorem honest_more (hn : NewOk wd ls) (hm : m = ls.length.log2) (hp : p < ls.length) (h63 : m ≤ 62) (u : Int) (hu : u ≠ (topI (treeT wd ls)).f1.f1) : checkI ⟨(topI (treeT wd ls)).f0, ⟨(topI (treeT wd ls)).f1.f0, u⟩, (m : Int)⟩ (entE wd ls p m) = 160 := by
 have hw := (nodeOf_w (top_k hn).of).2.2
 have up := honest_up hn hm hp h63
 have hs := (besL_shape hn hm hp h63).1
 have hc := honest_climb hn hm hp h63
 unfold checkI
 rw [if_pos (mayRI_zero.2 ⟨⟨by show (0 : Int) ≤ (m : Int); omega, by show (m : Int) ≤ 63; omega⟩, by
  show 1 ≤ ((topI (treeT wd ls)).f0.size : Int) ∧ _
  rw [hw]; exact hn.w⟩)]
 have e : ((topI (treeT wd ls)).f0.size : Int) = wd := hw
 dsimp only
 rw [e, hc, if_pos up.may, if_pos (show shapeN wd (m : Int) (entE wd ls p m).f1.f0 (entE wd ls p m).f1.f1 = 0 from hs), if_pos rfl, if_neg]
 rintro ⟨-, -, h⟩
 exact hu h.symm
end
end Go.Proofs.YtfcodmdckcihmaaDoor.P
namespace Go.Proofs.YtfcodmdckcihmaaDoor.P
open Go.RowKit Go.Proofs.YtfcodmdckcihmaaDoorW.PrintWords Go.Proofs.YtfcodmdckcihmaaDoorW.PrintLast Go.Proofs.YtfcodmdckcihmaaDoorW.PrintMore
set_option linter.unusedVariables false
set_option linter.unusedSimpArgs false
set_option linter.unnecessarySimpa false
attribute [local go_sem] sel_true
theorem entInfo : (Tryd.prog.info? 70).map (fun i => (i.zero, i.size, i.bytes)) = some (some (.agg entZ), 7, 88) := by kernel_rfl
def entsL (wd : Int) (ls : List SLeaf) (m : Nat) : List SEntry := (List.range ls.length).map fun p => entE wd ls p m
theorem entsL_len (wd : Int) (ls : List SLeaf) (m : Nat) : (entsL wd ls m).length = ls.length := by unfold entsL; simp
theorem entsL_get {wd : Int} {ls : List SLeaf} {m i : Nat} (hi : i < ls.length) : (entsL wd ls m)[i]'(by rw [entsL_len]; exact hi) = entE wd ls i m := by unfold entsL; simp
def OwnE (W : World) (x : EntR) : Prop := ∃ b, W.ownsRow b 46 3 (.slice x.2.1 x.1.f1.f1.length x.2.2) x.1.f1.f1.length (cellsN x.1.f1.f1)
theorem OwnE.ent {W : World} {x : EntR} (h : OwnE W x) : EntC W x := by
 obtain ⟨b, h⟩ := h
 exact own_nodes h rfl
theorem OwnE.below {W W' : World} {x : EntR} (h : OwnE W x) (hb : Below W.heap.size W W') : OwnE W' x := by
 obtain ⟨b, h⟩ := h
 exact ⟨b, ownB h hb⟩
theorem OwnE.grown {W W' : World} {base i : Nat} {v : Value} {cs : List Value} {x : EntR} (h : OwnE W x) (ho : W.ownsRow base 70 7 v i cs) (hg : W.grownBy W' v.ownBlock) : OwnE W' x := by
 obtain ⟨b, h⟩ := h
 refine ⟨b, ownAny_keep h (fun g hg2 => ?_)⟩
 obtain ⟨c1, h1⟩ := own_cells h hg2
 refine hg.block g (blk_lt h1) (fun e => ?_)
 obtain ⟨c2, h2⟩ := own_cells ho e.symm
 rw [h1] at h2
 simp only [Option.some.injEq, Obj.cells.injEq] at h2
 exact absurd h2.2.1 (by decide)
structure AlS (base : Nat) (wd : Int) (ls : List SLeaf) (m i : Nat) (v : Value) (W : World) : Prop where
 e : ∃ xs : List EntR, xs.map Prod.fst = (entsL wd ls m).take i ∧ W.ownsRow base 70 7 v i (cellsE xs) ∧ ∀ x ∈ xs, OwnE W x
theorem AlS.below {base : Nat} {wd : Int} {ls : List SLeaf} {m i : Nat} {v : Value} {W W' : World} (h : AlS base wd ls m i v W) (hb : Below W.heap.size W W') : AlS base wd ls m i v W' := by
 obtain ⟨xs, h1, h2, h3⟩ := h.e
 exact ⟨xs, h1, ownB h2 hb, fun x hx => (h3 x hx).below hb⟩
theorem AlS.form {base : Nat} {wd : Int} {ls : List SLeaf} {m i : Nat} {v : Value} {W : World} (h : AlS base wd ls m i v W) : ∃ A c, v = .slice A i c := by
 obtain ⟨xs, h1, h2, h3⟩ := h.e
 rcases h2.2 with ⟨h, h0⟩ | ⟨g, cap, cur, h, _⟩
 ·
  exact ⟨none, 0, by rw [h, h0]⟩
 ·
  exact ⟨_, _, h⟩
set_option maxRecDepth 100000 in
set_option maxHeartbeats 4000000 in
theorem proofAll.calls (base ta gl cl : Nat) (VV : Value) (gs : List RowG) (wd : Int) (ls : List SLeaf) (m : Nat) (w : World) (hT : TreeOwn base w ta (treeT wd ls) gl cl VV gs) (hk : NewOk wd ls) (hn : ls.length ≤ 1024) (hm : m = ls.length.log2) (hm10 : m ≤ 10) :
  Calls Tryd.prog 41 #[ptrT ta] w fun e w' => ∃ A c, e = .returned (.slice A ls.length c) ∧ ls.length ≤ c ∧ Kd.C kEntry w' A ls.length (entsL wd ls m) ∧ Below w.heap.size w w' := by
 have HT := aM' hT
 have HKK := aM' hk
 have HN := aM' hn
 have HMM := aM' hm
 have HM := aM' hm10
 obtain ⟨i0, hi, hz0, hz1, hz2⟩ := info_parts entInfo
 have q := tLeaves.calls ta _ w (hT.readT hk hn)
 have Q := aM' (show Calls Tryd.prog 17 #[ptrT ta] w fun e w' => ∃ g cap, e = .returned (.slice (some ⟨g, 0, none⟩) ls.length cap) ∧ Below w.heap.size w w' from q.mono (by rintro e w' ⟨g, cap, h1, -, h2, -⟩; exact ⟨g, cap, h1, h2⟩))
 have hwn : IntKind.u64.wrap (ls.length : Int) = (ls.length : Int) := wrapu64_id (by omega) (by omega)
 clear hT hk hn hm hm10 q
 go_enter Tryd.func41, Tryd.ntmps41
 go_wp2_with fail
 refine Q.out.mono ?_
 rintro e w1 ⟨g, cap, rfl, hb⟩
 have HB1 := aM' hb
 clear hb
 go_wp2
 go_loopw [3, 11] (fun v3 v11 wr => ∃ i : Nat, v11 = .int .u64 (i : Int) ∧ Aside0 (i ≤ ls.length) ∧ Aside0 (Below w1.heap.size w1 wr) ∧ Aside0 (AlS w1.heap.size wd ls m i v3 wr)) (fun _ v11 _ => ls.length - (intOf v11).toNat)
 case atStart => exact ⟨0, rfl, ⟨Nat.zero_le _⟩, ⟨Below.refl _ _⟩, ⟨[], rfl, World.ownsRow_nil _ _ _ _, by simp⟩⟩
 case round =>
  obtain ⟨i, rfl, HI, HB, HO⟩ := hrel
  obtain ⟨A8, c8, rfl⟩ := HO.out.form
  have hi1 : i ≤ 1024 := by have := HI.out; have := HN.out; omega
  by_cases hlt : i < ls.length
  ·
   have b1 : decide ((i : Int) < (ls.length : Int)) = true := decide_eq_true (by omega)
   have b2 : decide (i < ls.length) = true := decide_eq_true hlt
   have HLT := aM' hlt
   go_wp2_with fail
   refine (proofOf.calls _ ta gl cl VV gs wd ls i m wr ((HT.out.keep HB1.out).keep HB.out) HKK.out HN.out HMM.out HM.out HLT.out).mono ?_
   rintro e w3 ⟨A3, c3, rfl, hown, hb⟩
   obtain ⟨x, hx⟩ : ∃ x, x = ls[i]'HLT.out := ⟨_, rfl⟩
   rw [← hx]
   have HE := aM' (show entE wd ls i m = ⟨x, ⟨(i : Int), besL wd ls i m⟩⟩ by
    unfold entE
    rw [hx]
    simp [List.getD_eq_getElem?_getD, HLT.out])
   have HOWN := aM' hown
   have HB3 := aM' (HB.out.trans (hb.mono HB.out.size))
   have HO3 := aM' (HO.out.below hb)
   clear hb hown hx hlt
   obtain ⟨xs, hx1, hx2, hx3⟩ := HO3.out.e
   have HX := aM' (And.intro hx1 (And.intro hx2 hx3))
   clear hx1 hx2 hx3
   go_wp2_with (at_builtin; refine wpList_append_own _ rfl _ _ 78 rfl (w1.heap.size) 70 i0 (.agg entZ) 7 88 Tryd.underlying78 hi hz0 hz1 hz2 rfl (by decide) (.slice A8 i c8) i _ rfl (ownB HX.out.2.1 (below_alloc (below_alloc (Below.refl _ _) (.cells #[.bool x.f0, .string x.f1, .string x.f2, .int .u64 x.f3.f0, .int .u64 x.f3.f1, .int .u64 (i : Int), .slice A3 m c3] 70)) (.cells #[.bool x.f0, .string x.f1, .string x.f2, .int .u64 x.f3.f0, .int .u64 x.f3.f1, .int .u64 (i : Int), .slice A3 m c3] 70))) ⟨w3.heap.size + 1, 0, none⟩ 1 1 [.bool x.f0, .string x.f1, .string x.f2, .int .u64 x.f3.f0, .int .u64 x.f3.f1, .int .u64 (i : Int), .slice A3 m c3] rfl rfl ?c2 ?c3 ?c4 ?c5 ?c6 ?_)
   case c2 =>
    have h := blk_new (w3.alloc (.cells #[.bool x.f0, .string x.f1, .string x.f2, .int .u64 x.f3.f0, .int .u64 x.f3.f1, .int .u64 (i : Int), .slice A3 m c3] 70)) (.cells #[.bool x.f0, .string x.f1, .string x.f2, .int .u64 x.f3.f0, .int .u64 x.f3.f1, .int .u64 (i : Int), .slice A3 m c3] 70)
    rw [World.size_alloc] at h
    exact World.news_of_block h
   case c3 =>
    intro u hu
    simp only [List.mem_cons, List.not_mem_nil, or_false] at hu
    rcases hu with rfl | rfl | rfl | rfl | rfl | rfl | rfl <;> rfl
   case c4 => unfold maxLen; omega
   case c5 => omega
   case c6 => rw [World.size_alloc, World.size_alloc]; have := HB3.out.size; omega
   intro v' w' hown hgr hnil
   have hb4 : Below w3.heap.size w3 ((w3.alloc (.cells #[.bool x.f0, .string x.f1, .string x.f2, .int .u64 x.f3.f0, .int .u64 x.f3.f1, .int .u64 (i : Int), .slice A3 m c3] 70)).alloc (.cells #[.bool x.f0, .string x.f1, .string x.f2, .int .u64 x.f3.f0, .int .u64 x.f3.f1, .int .u64 (i : Int), .slice A3 m c3] 70)) := below_alloc (below_alloc (Below.refl _ _) _) _
   have HB' := aM' (below_grown (HB3.out.trans (hb4.mono HB3.out.size)) hgr (fun r e => (HX.out.2.1.lt r e).1))
   have HO' := aM' (show AlS w1.heap.size wd ls m (i + 1) v' w' from ⟨xs ++ [(⟨x, ⟨(i : Int), besL wd ls i m⟩⟩, A3, c3)], by
    rw [List.map_append, HX.out.1, List.take_succ_eq_append_getElem (by rw [entsL_len]; exact HLT.out), entsL_get HLT.out, HE.out]; rfl, by
    rw [cellsE_append]
    show World.ownsRow _ _ _ _ _ _ (cellsE xs ++ [.bool x.f0, .string x.f1, .string x.f2, .int .u64 x.f3.f0, .int .u64 x.f3.f1, .int .u64 (i : Int), .slice A3 (besL wd ls i m).length c3])
    rw [besL_len]
    exact hown, fun z hz => by
    rcases List.mem_append.1 hz with h | h
    ·
     exact ((HX.out.2.2 z h).below hb4).grown (ownB HX.out.2.1 hb4) hgr
    ·
     rw [List.mem_singleton] at h
     subst h
     refine OwnE.grown (OwnE.below ⟨wr.heap.size, ?_⟩ hb4) (ownB HX.out.2.1 hb4) hgr
     show World.ownsRow _ _ _ _ (.slice A3 (besL wd ls i m).length c3) (besL wd ls i m).length _
     rw [besL_len]
     exact HOWN.out⟩)
   clear hown hgr hnil hb4
   go_wp2
   go_roundw
   case rel => exact ⟨i + 1, by go_num, ⟨by have := HLT.out; omega⟩, HB', HO'⟩
   case measure => simp [intOf]; have := HLT.out; omega
  ·
   obtain rfl : i = ls.length := by have := HI.out; omega
   have b1 : decide ((ls.length : Int) < (ls.length : Int)) = false := decide_eq_false (by omega)
   have b2 : decide (ls.length < ls.length) = false := decide_eq_false hlt
   obtain ⟨xs, hx1, hx2, hx3⟩ := HO.out.e
   have hq := own_ents hx2 (by have := congrArg List.length hx1; rw [List.length_map, List.length_take, entsL_len] at this; omega) (fun x hx => (hx3 x hx).ent)
   rw [hx1, ← entsL_len wd ls m, List.take_length, entsL_len] at hq
   have HQ := aM' hq
   clear hx1 hx2 hx3 hq
   go_wp2
   go_ret
   exact ⟨_, _, rfl, HQ.out.1, HQ.out.2, HB1.out.trans (HB.out.mono HB1.out.size)⟩
end Go.Proofs.YtfcodmdckcihmaaDoor.P
namespace Go.Proofs.YtfcodmdckcihmaaDoor.P
open Go.RowKit Go.Proofs.YtfcodmdckcihmaaDoorW.PrintWords Go.Proofs.YtfcodmdckcihmaaDoorW.PrintLast Go.Proofs.YtfcodmdckcihmaaDoorW.PrintMore
set_option linter.unusedVariables false
set_option linter.unusedSimpArgs false
set_option linter.unnecessarySimpa false
theorem rdEntry_at (l : List SEntry) (i : Nat) (h : i < l.length) : rd_TEntry l (i : Int) = l[i] := by simp [rd_TEntry, h]
theorem allOk_loop (r : SRoot) (l : List SEntry) (hl : l.length ≤ 1024) (hok : ∀ e ∈ l, OkE e) (hc : ∀ e ∈ l, checkI r e = 0) : ∀ d i : Nat, i + d = l.length → Ev (fun k => verify_All.l0 k l l (l.length : Int) (i : Int) r.f0 r.f1.f0 r.f1.f1 r.f2) ((l.length : Int), 0) := by
 intro d
 induction d with
 | zero =>
  intro i hi
  refine Ev.step (f := fun _ => some ((l.length : Int), 0)) (fun k => ?_) (Ev.now _)
  simp only [verify_All.l0]; rw [if_neg (by omega)]
 | succ d ih =>
  intro i hi
  have hlt : i < l.length := by omega
  refine Ev.step (f := fun k => verify_All.l0 k l l (l.length : Int) ((i + 1 : Nat) : Int) r.f0 r.f1.f0 r.f1.f1 r.f2) (fun k => ?_) (ih (i + 1) (by omega))
  have h0 := hc l[i] (List.getElem_mem hlt)
  simp only [verify_All.l0]; rw [if_pos (by omega), if_pos (by omega), if_pos (by omega), rdEntry_at l i hlt, verifyCheck_eq r l[i] (hok _ (List.getElem_mem hlt)), h0, wrap64_id (by omega) (by omega)]; rfl
theorem allOk_ev (r : SRoot) (l : List SEntry) (hl : l.length ≤ 1024) (hok : ∀ e ∈ l, OkE e) (hc : ∀ e ∈ l, checkI r e = 0) : Ev (fun k => verify_All.f k r.f0 r.f1.f0 r.f1.f1 r.f2 l) ((l.length : Int), 0) := allOk_loop r l hl hok hc l.length 0 (by omega)
end Go.Proofs.YtfcodmdckcihmaaDoor.P
namespace Go.Proofs.YtfcodmdckcihmaaDoor.P
open Go.RowKit Go.Proofs.YtfcodmdckcihmaaDoorW.PrintWords Go.Proofs.YtfcodmdckcihmaaDoorW.PrintLast Go.Proofs.YtfcodmdckcihmaaDoorW.PrintMore
set_option linter.unusedVariables false
set_option linter.unusedSimpArgs false
set_option linter.unnecessarySimpa false
def aL : SLeaf := ⟨false, ⟨#[97]⟩, ⟨#[115]⟩, ⟨0, 9⟩⟩
def oL : SLeaf := ⟨false, ⟨#[97]⟩, ⟨#[115]⟩, ⟨0, 10⟩⟩
def zL : SLeaf := ⟨false, ⟨#[]⟩, ⟨#[]⟩, ⟨0, 0⟩⟩
theorem aL_may : mayLeafI aL = true := by decide +kernel
theorem oL_may : mayLeafI oL = true := by decide +kernel
theorem zL_may : mayLeafI zL = false := by decide +kernel
def hB : ByteArray := dgI 8 (leafTextI aL)
def oB : ByteArray := dgI 8 (leafTextI oL)
theorem hB_size : hB.size = 8 := dgI_size 8 _ (by decide) (by decide)
theorem oB_size : oB.size = 8 := dgI_size 8 _ (by decide) (by decide)
theorem aL_node : leafNodeI 8 aL = ⟨hB, ⟨0, 9⟩⟩ := by unfold leafNodeI; rw [if_pos ⟨by decide, aL_may⟩]; rfl
theorem oL_node : leafNodeI 8 oL = ⟨oB, ⟨0, 10⟩⟩ := by unfold leafNodeI; rw [if_pos ⟨by decide, oL_may⟩]; rfl
theorem of8 (b : ByteArray) (h : b.size = 8) (u : SU128) : nodeOf 8 ⟨b, u⟩ = true := by unfold nodeOf; rw [h]; rfl
theorem climb0 (b : ByteArray) (h : b.size = 8) (u : SU128) : climbI 8 ⟨b, u⟩ 0 [] = (b, u.f0, u.f1, 0) := by
 unfold climbI; rw [if_pos ⟨of8 b h u, rfl⟩, if_neg (by decide)]; rfl
theorem shape0 : shapeN 8 0 0 [] = 0 := by decide
abbrev aE : SEntry := ⟨aL, ⟨0, []⟩⟩
abbrev oE : SEntry := ⟨oL, ⟨0, []⟩⟩
abbrev zE : SEntry := ⟨zL, ⟨0, []⟩⟩
abbrev aR : SRoot := ⟨hB, ⟨0, 9⟩, 0⟩
abbrev hR : SRoot := ⟨hB, ⟨0, 9⟩, 64⟩
theorem hB_int : ((aR.f0.size : Nat) : Int) = 8 := by show ((hB.size : Nat) : Int) = 8; rw [hB_size]; rfl
theorem aR_may : mayRI aR = 0 := by unfold mayRI; rw [hB_int]; decide
theorem aw_ok : checkI aR aE = 0 := by
 unfold checkI
 rw [if_pos aR_may, if_pos aL_may, hB_int]
 have hc : climbE 8 aE = (hB, 0, 9, 0) := by unfold climbE; rw [aL_node]; exact climb0 hB hB_size _
 rw [if_pos shape0, hc, if_pos rfl, if_pos ⟨rfl, rfl, rfl⟩]
theorem aw_other : checkI aR oE = 160 := by
 unfold checkI
 rw [if_pos aR_may, if_pos oL_may, hB_int]
 have hc : climbE 8 oE = (oB, 0, 10, 0) := by unfold climbE; rw [oL_node]; exact climb0 oB oB_size _
 rw [if_pos shape0, hc, if_pos rfl, if_neg (fun h => absurd h.2.2 (by decide))]
theorem aw_high : checkI hR aE = 120 := by
 have hm : mayRI hR = 120 := by unfold mayRI; rw [if_pos (.inr (by decide))]
 unfold checkI; rw [hm, if_neg (by decide)]
theorem aw_none : checkI aR zE = 130 := by
 unfold checkI
 rw [if_pos aR_may, if_neg (by rw [zL_may]; decide)]
theorem aw_up : upI 8 aE = (hB, 0, 9, 0, 0) := by
 have hc : climbE 8 aE = (hB, 0, 9, 0) := by unfold climbE; rw [aL_node]; exact climb0 hB hB_size _
 have hs : shapeN 8 ((aE.f1.f1.length : Nat) : Int) aE.f1.f0 aE.f1.f1 = 0 := shape0
 unfold upI
 rw [if_pos aL_may, if_pos hs, hc, if_pos rfl]; rfl
set_option maxRecDepth 100000 in
set_option maxHeartbeats 4000000 in
theorem awake17.calls (w : World) (hK : LaidT w) : Calls Tryd.prog 42 #[] w fun e w' => e = .returned (.bool true) ∧ Below w.heap.size w w' := by
 have HK := aM' hK
 obtain ⟨k1, hk1⟩ := tagLeafNode_ev 8 aL (by decide) (by decide)
 rw [aL_node] at hk1
 have J1 := aM' (hk1 k1 (Nat.le_refl _))
 have C1 := aM' (show verify_Check.f hB 0 9 0 false ⟨#[97]⟩ ⟨#[115]⟩ 0 9 0 [] = some 0 by unfold verify_Check.f; rw [if_pos (by decide)]; exact congrArg some aw_ok)
 have C2 := aM' (show verify_Check.f hB 0 9 0 false ⟨#[97]⟩ ⟨#[115]⟩ 0 10 0 [] = some 160 by unfold verify_Check.f; rw [if_pos (by decide)]; exact congrArg some aw_other)
 have C3 := aM' (show verify_Check.f hB 0 9 64 false ⟨#[97]⟩ ⟨#[115]⟩ 0 9 0 [] = some 120 by unfold verify_Check.f; rw [if_pos (by decide)]; exact congrArg some aw_high)
 have C4 := aM' (show verify_Check.f hB 0 9 0 false ⟨#[]⟩ ⟨#[]⟩ 0 0 0 [] = some 130 by unfold verify_Check.f; rw [if_pos (by decide)]; exact congrArg some aw_none)
 have U1 := aM' (show verify_Up.f 8 false ⟨#[97]⟩ ⟨#[115]⟩ 0 9 0 [] = some (hB, 0, 9, 0, 0) by unfold verify_Up.f; rw [if_pos (by decide)]; exact congrArg some aw_up)
 clear hK hk1
 go_enter Tryd.func42, Tryd.ntmps42
 have HB0 := aM' (Below.refl w.heap.size w)
 go_upto_region 2 with (fail)
 obtain ⟨W1, hW⟩ : ∃ V, V = w.alloc (.cells #[.bool false, .string ⟨#[97]⟩, .string ⟨#[115]⟩, .int .u64 0, .int .u64 9] 36) := ⟨_, rfl⟩
 rw [← hW]
 have hg : Below w.heap.size w W1 := by rw [hW]; exact below_alloc (Below.refl _ _) _
 have hBn := HB0.out.trans (hg.mono HB0.out.size)
 have hb1 : W1.heap[w.heap.size]? = some (.cells #[.bool false, .string ⟨#[97]⟩, .string ⟨#[115]⟩, .int .u64 0, .int .u64 9] 36 (0, 0)) := by rw [hW]; exact blk_new _ _
 generalize w.heap.size = b1 at hb1 ⊢
 clear hg hW
 have Hb1 := aM' hb1
 clear hb1
 have HB1 := aM' hBn
 clear hBn HB0
 have x0 : W1.cell? ⟨b1, 0, none⟩ = some (.bool false) := blk_cell Hb1.out 0
 have x1 : W1.cell? ⟨b1, 1, none⟩ = some (.string ⟨#[97]⟩) := blk_cell Hb1.out 1
 have x2 : W1.cell? ⟨b1, 2, none⟩ = some (.string ⟨#[115]⟩) := blk_cell Hb1.out 2
 have x3 : W1.cell? ⟨b1, 3, none⟩ = some (.int .u64 0) := blk_cell Hb1.out 3
 have x4 : W1.cell? ⟨b1, 4, none⟩ = some (.int .u64 9) := blk_cell Hb1.out 4
 go_wp2_with fail
 refine (tag_LeafNode.calls k1 8 false ⟨#[97]⟩ ⟨#[115]⟩ 0 9 hB 0 9 _ (HK.out.below HB1.out) J1.out).mono ?_
 rintro e v ⟨rfl, hb⟩
 clear x0 x1 x2 x3 x4
 go_upto_region 3 with (fail)
 obtain ⟨W2, hW⟩ : ∃ V, V = v.alloc (.cells #[.string hB, .int .u64 0, .int .u64 9] 46) := ⟨_, rfl⟩
 rw [← hW]
 have hg : Below W1.heap.size W1 W2 := by rw [hW]; exact (Below.trans hb (below_alloc (Below.refl _ _) _ |>.mono hb.size))
 have hBn := HB1.out.trans (hg.mono HB1.out.size)
 have hb1 := blk_below Hb1.out hg
 have hb2 : W2.heap[v.heap.size]? = some (.cells #[.string hB, .int .u64 0, .int .u64 9] 46 (0, 0)) := by rw [hW]; exact blk_new _ _
 generalize v.heap.size = b2 at hb2 ⊢
 clear hg hW
 clear Hb1
 have Hb1 := aM' hb1
 clear hb1
 have Hb2 := aM' hb2
 clear hb2
 have HB2 := aM' hBn
 clear hBn HB1
 clear hb v
 have x0 : W2.cell? ⟨b2, 0, none⟩ = some (.string hB) := blk_cell Hb2.out 0
 have x1 : W2.cell? ⟨b2, 1, none⟩ = some (.int .u64 0) := blk_cell Hb2.out 1
 have x2 : W2.cell? ⟨b2, 2, none⟩ = some (.int .u64 9) := blk_cell Hb2.out 2
 go_upto_region 4 with (fail)
 obtain ⟨W3, hW⟩ : ∃ V, V = W2.alloc (.cells #[.string hB, .int .u64 0, .int .u64 9, .int .i64 0] 41) := ⟨_, rfl⟩
 rw [← hW]
 have hg : Below W2.heap.size W2 W3 := by rw [hW]; exact below_alloc (Below.refl _ _) _
 have hBn := HB2.out.trans (hg.mono HB2.out.size)
 have hb1 := blk_below Hb1.out hg
 have hb2 := blk_below Hb2.out hg
 have hb3 : W3.heap[W2.heap.size]? = some (.cells #[.string hB, .int .u64 0, .int .u64 9, .int .i64 0] 41 (0, 0)) := by rw [hW]; exact blk_new _ _
 generalize W2.heap.size = b3 at hb3 ⊢
 clear hg hW
 clear Hb1
 clear Hb2
 have Hb1 := aM' hb1
 clear hb1
 have Hb2 := aM' hb2
 clear hb2
 have Hb3 := aM' hb3
 clear hb3
 have HB3 := aM' hBn
 clear hBn HB2
 clear x0 x1 x2
 have x0 : W3.cell? ⟨b1, 0, none⟩ = some (.bool false) := blk_cell Hb1.out 0
 have x1 : W3.cell? ⟨b1, 1, none⟩ = some (.string ⟨#[97]⟩) := blk_cell Hb1.out 1
 have x2 : W3.cell? ⟨b1, 2, none⟩ = some (.string ⟨#[115]⟩) := blk_cell Hb1.out 2
 have x3 : W3.cell? ⟨b1, 3, none⟩ = some (.int .u64 0) := blk_cell Hb1.out 3
 have x4 : W3.cell? ⟨b1, 4, none⟩ = some (.int .u64 9) := blk_cell Hb1.out 4
 go_upto_region 5 with (fail)
 obtain ⟨W4, hW⟩ : ∃ V, V = W3.alloc (.cells #[.bool false, .string ⟨#[97]⟩, .string ⟨#[115]⟩, .int .u64 0, .int .u64 9, .int .u64 0, .slice none 0 0] 70) := ⟨_, rfl⟩
 rw [← hW]
 have hg : Below W3.heap.size W3 W4 := by rw [hW]; exact below_alloc (Below.refl _ _) _
 have hBn := HB3.out.trans (hg.mono HB3.out.size)
 have hb1 := blk_below Hb1.out hg
 have hb2 := blk_below Hb2.out hg
 have hb3 := blk_below Hb3.out hg
 have hb4 : W4.heap[W3.heap.size]? = some (.cells #[.bool false, .string ⟨#[97]⟩, .string ⟨#[115]⟩, .int .u64 0, .int .u64 9, .int .u64 0, .slice none 0 0] 70 (0, 0)) := by rw [hW]; exact blk_new _ _
 generalize W3.heap.size = b4 at hb4 ⊢
 clear hg hW
 clear Hb1
 clear Hb2
 clear Hb3
 have Hb1 := aM' hb1
 clear hb1
 have Hb2 := aM' hb2
 clear hb2
 have Hb3 := aM' hb3
 clear hb3
 have Hb4 := aM' hb4
 clear hb4
 have HB4 := aM' hBn
 clear hBn HB3
 clear x0 x1 x2 x3 x4
 have x0 : W4.cell? ⟨b4, 0, none⟩ = some (.bool false) := blk_cell Hb4.out 0
 have x1 : W4.cell? ⟨b4, 1, none⟩ = some (.string ⟨#[97]⟩) := blk_cell Hb4.out 1
 have x2 : W4.cell? ⟨b4, 2, none⟩ = some (.string ⟨#[115]⟩) := blk_cell Hb4.out 2
 have x3 : W4.cell? ⟨b4, 3, none⟩ = some (.int .u64 0) := blk_cell Hb4.out 3
 have x4 : W4.cell? ⟨b4, 4, none⟩ = some (.int .u64 9) := blk_cell Hb4.out 4
 have x5 : W4.cell? ⟨b4, 5, none⟩ = some (.int .u64 0) := blk_cell Hb4.out 5
 have x6 : W4.cell? ⟨b4, 6, none⟩ = some (.slice none 0 0) := blk_cell Hb4.out 6
 go_upto_region 6 with (fail)
 obtain ⟨W5, hW⟩ : ∃ V, V = W4.alloc (.cells #[.bool false, .string ⟨#[97]⟩, .string ⟨#[115]⟩, .int .u64 0, .int .u64 9, .int .u64 0, .slice none 0 0] 70) := ⟨_, rfl⟩
 rw [← hW]
 have hg : Below W4.heap.size W4 W5 := by rw [hW]; exact below_alloc (Below.refl _ _) _
 have hBn := HB4.out.trans (hg.mono HB4.out.size)
 have hb1 := blk_below Hb1.out hg
 have hb2 := blk_below Hb2.out hg
 have hb3 := blk_below Hb3.out hg
 have hb4 := blk_below Hb4.out hg
 have hb5 : W5.heap[W4.heap.size]? = some (.cells #[.bool false, .string ⟨#[97]⟩, .string ⟨#[115]⟩, .int .u64 0, .int .u64 9, .int .u64 0, .slice none 0 0] 70 (0, 0)) := by rw [hW]; exact blk_new _ _
 have nb5 : w.heap.size ≤ W4.heap.size := HB4.out.size
 have nb5_b1 : b1 ≠ W4.heap.size := Nat.ne_of_lt (blk_lt Hb1.out)
 have nb5_b2 : b2 ≠ W4.heap.size := Nat.ne_of_lt (blk_lt Hb2.out)
 have nb5_b3 : b3 ≠ W4.heap.size := Nat.ne_of_lt (blk_lt Hb3.out)
 have nb5_b4 : b4 ≠ W4.heap.size := Nat.ne_of_lt (blk_lt Hb4.out)
 generalize W4.heap.size = b5 at hb5 nb5 nb5_b1 nb5_b2 nb5_b3 nb5_b4 ⊢
 have Nb5 := aM' (And.intro nb5 trivial)
 clear nb5
 have Nb5_b1 := aM' nb5_b1
 clear nb5_b1
 have Nb5_b2 := aM' nb5_b2
 clear nb5_b2
 have Nb5_b3 := aM' nb5_b3
 clear nb5_b3
 have Nb5_b4 := aM' nb5_b4
 clear nb5_b4
 clear hg hW
 clear Hb1
 clear Hb2
 clear Hb3
 clear Hb4
 have Hb1 := aM' hb1
 clear hb1
 have Hb2 := aM' hb2
 clear hb2
 have Hb3 := aM' hb3
 clear hb3
 have Hb4 := aM' hb4
 clear hb4
 have Hb5 := aM' hb5
 clear hb5
 have HB5 := aM' hBn
 clear hBn HB4
 clear x0 x1 x2 x3 x4 x5 x6
 have x : W5.cell? ⟨b5, 4, none⟩ = some (.int .u64 9) := blk_cell Hb5.out 4
 have xf : ∀ i, W5.frozen? ⟨b5, i, none⟩ = false := fun i => blk_frozen Hb5.out i
 go_upto_region 7 with (fail)
 clear x xf
 obtain ⟨W6, hW⟩ : ∃ V, V = W5.setCell ⟨b5, 4, none⟩ (.int .u64 10) := ⟨_, rfl⟩
 rw [← hW]
 have hBn : Below w.heap.size w W6 := by rw [hW]; exact below_set HB5.out Nb5.out.1
 have hb1 : W6.heap[b1]? = some (.cells #[.bool false, .string ⟨#[97]⟩, .string ⟨#[115]⟩, .int .u64 0, .int .u64 9] 36 (0, 0)) := by rw [hW]; exact blk_far Hb1.out Nb5_b1.out _
 have hb2 : W6.heap[b2]? = some (.cells #[.string hB, .int .u64 0, .int .u64 9] 46 (0, 0)) := by rw [hW]; exact blk_far Hb2.out Nb5_b2.out _
 have hb3 : W6.heap[b3]? = some (.cells #[.string hB, .int .u64 0, .int .u64 9, .int .i64 0] 41 (0, 0)) := by rw [hW]; exact blk_far Hb3.out Nb5_b3.out _
 have hb4 : W6.heap[b4]? = some (.cells #[.bool false, .string ⟨#[97]⟩, .string ⟨#[115]⟩, .int .u64 0, .int .u64 9, .int .u64 0, .slice none 0 0] 70 (0, 0)) := by rw [hW]; exact blk_far Hb4.out Nb5_b4.out _
 have hb5 : W6.heap[b5]? = some (.cells #[.bool false, .string ⟨#[97]⟩, .string ⟨#[115]⟩, .int .u64 0, .int .u64 10, .int .u64 0, .slice none 0 0] 70 (0, 0)) := by rw [hW]; exact blk_put (cs' := #[.bool false, .string ⟨#[97]⟩, .string ⟨#[115]⟩, .int .u64 0, .int .u64 10, .int .u64 0, .slice none 0 0]) Hb5.out 4 _ rfl
 clear hW
 clear Hb1
 clear Hb2
 clear Hb3
 clear Hb4
 clear Hb5
 have Hb1 := aM' hb1
 clear hb1
 have Hb2 := aM' hb2
 clear hb2
 have Hb3 := aM' hb3
 clear hb3
 have Hb4 := aM' hb4
 clear hb4
 have Hb5 := aM' hb5
 clear hb5
 have HB6 := aM' hBn
 clear hBn HB5
 have x0 : W6.cell? ⟨b3, 0, none⟩ = some (.string hB) := blk_cell Hb3.out 0
 have x1 : W6.cell? ⟨b3, 1, none⟩ = some (.int .u64 0) := blk_cell Hb3.out 1
 have x2 : W6.cell? ⟨b3, 2, none⟩ = some (.int .u64 9) := blk_cell Hb3.out 2
 have x3 : W6.cell? ⟨b3, 3, none⟩ = some (.int .i64 0) := blk_cell Hb3.out 3
 go_upto_region 8 with (fail)
 obtain ⟨W7, hW⟩ : ∃ V, V = W6.alloc (.cells #[.string hB, .int .u64 0, .int .u64 9, .int .i64 0] 41) := ⟨_, rfl⟩
 rw [← hW]
 have hg : Below W6.heap.size W6 W7 := by rw [hW]; exact below_alloc (Below.refl _ _) _
 have hBn := HB6.out.trans (hg.mono HB6.out.size)
 have hb1 := blk_below Hb1.out hg
 have hb2 := blk_below Hb2.out hg
 have hb3 := blk_below Hb3.out hg
 have hb4 := blk_below Hb4.out hg
 have hb5 := blk_below Hb5.out hg
 have hb6 : W7.heap[W6.heap.size]? = some (.cells #[.string hB, .int .u64 0, .int .u64 9, .int .i64 0] 41 (0, 0)) := by rw [hW]; exact blk_new _ _
 have nb6 : w.heap.size ≤ W6.heap.size := HB6.out.size
 have nb6_b1 : b1 ≠ W6.heap.size := Nat.ne_of_lt (blk_lt Hb1.out)
 have nb6_b2 : b2 ≠ W6.heap.size := Nat.ne_of_lt (blk_lt Hb2.out)
 have nb6_b3 : b3 ≠ W6.heap.size := Nat.ne_of_lt (blk_lt Hb3.out)
 have nb6_b4 : b4 ≠ W6.heap.size := Nat.ne_of_lt (blk_lt Hb4.out)
 have nb6_b5 : b5 ≠ W6.heap.size := Nat.ne_of_lt (blk_lt Hb5.out)
 generalize W6.heap.size = b6 at hb6 nb6 nb6_b1 nb6_b2 nb6_b3 nb6_b4 nb6_b5 ⊢
 have Nb6 := aM' (And.intro nb6 trivial)
 clear nb6
 have Nb6_b1 := aM' nb6_b1
 clear nb6_b1
 have Nb6_b2 := aM' nb6_b2
 clear nb6_b2
 have Nb6_b3 := aM' nb6_b3
 clear nb6_b3
 have Nb6_b4 := aM' nb6_b4
 clear nb6_b4
 have Nb6_b5 := aM' nb6_b5
 clear nb6_b5
 clear hg hW
 clear Hb1
 clear Hb2
 clear Hb3
 clear Hb4
 clear Hb5
 have Hb1 := aM' hb1
 clear hb1
 have Hb2 := aM' hb2
 clear hb2
 have Hb3 := aM' hb3
 clear hb3
 have Hb4 := aM' hb4
 clear hb4
 have Hb5 := aM' hb5
 clear hb5
 have Hb6 := aM' hb6
 clear hb6
 have HB7 := aM' hBn
 clear hBn HB6
 clear x0 x1 x2 x3
 have x : W7.cell? ⟨b6, 3, none⟩ = some (.int .i64 0) := blk_cell Hb6.out 3
 have xf : ∀ i, W7.frozen? ⟨b6, i, none⟩ = false := fun i => blk_frozen Hb6.out i
 go_upto_region 9 with (fail)
 clear x xf
 obtain ⟨W8, hW⟩ : ∃ V, V = W7.setCell ⟨b6, 3, none⟩ (.int .i64 64) := ⟨_, rfl⟩
 rw [← hW]
 have hBn : Below w.heap.size w W8 := by rw [hW]; exact below_set HB7.out Nb6.out.1
 have hb1 : W8.heap[b1]? = some (.cells #[.bool false, .string ⟨#[97]⟩, .string ⟨#[115]⟩, .int .u64 0, .int .u64 9] 36 (0, 0)) := by rw [hW]; exact blk_far Hb1.out Nb6_b1.out _
 have hb2 : W8.heap[b2]? = some (.cells #[.string hB, .int .u64 0, .int .u64 9] 46 (0, 0)) := by rw [hW]; exact blk_far Hb2.out Nb6_b2.out _
 have hb3 : W8.heap[b3]? = some (.cells #[.string hB, .int .u64 0, .int .u64 9, .int .i64 0] 41 (0, 0)) := by rw [hW]; exact blk_far Hb3.out Nb6_b3.out _
 have hb4 : W8.heap[b4]? = some (.cells #[.bool false, .string ⟨#[97]⟩, .string ⟨#[115]⟩, .int .u64 0, .int .u64 9, .int .u64 0, .slice none 0 0] 70 (0, 0)) := by rw [hW]; exact blk_far Hb4.out Nb6_b4.out _
 have hb5 : W8.heap[b5]? = some (.cells #[.bool false, .string ⟨#[97]⟩, .string ⟨#[115]⟩, .int .u64 0, .int .u64 10, .int .u64 0, .slice none 0 0] 70 (0, 0)) := by rw [hW]; exact blk_far Hb5.out Nb6_b5.out _
 have hb6 : W8.heap[b6]? = some (.cells #[.string hB, .int .u64 0, .int .u64 9, .int .i64 64] 41 (0, 0)) := by rw [hW]; exact blk_put (cs' := #[.string hB, .int .u64 0, .int .u64 9, .int .i64 64]) Hb6.out 3 _ rfl
 clear hW
 clear Hb1
 clear Hb2
 clear Hb3
 clear Hb4
 clear Hb5
 clear Hb6
 have Hb1 := aM' hb1
 clear hb1
 have Hb2 := aM' hb2
 clear hb2
 have Hb3 := aM' hb3
 clear hb3
 have Hb4 := aM' hb4
 clear hb4
 have Hb5 := aM' hb5
 clear hb5
 have Hb6 := aM' hb6
 clear hb6
 have HB8 := aM' hBn
 clear hBn HB7
 have x0 : W8.cell? ⟨b4, 0, none⟩ = some (.bool false) := blk_cell Hb4.out 0
 have x1 : W8.cell? ⟨b4, 1, none⟩ = some (.string ⟨#[97]⟩) := blk_cell Hb4.out 1
 have x2 : W8.cell? ⟨b4, 2, none⟩ = some (.string ⟨#[115]⟩) := blk_cell Hb4.out 2
 have x3 : W8.cell? ⟨b4, 3, none⟩ = some (.int .u64 0) := blk_cell Hb4.out 3
 have x4 : W8.cell? ⟨b4, 4, none⟩ = some (.int .u64 9) := blk_cell Hb4.out 4
 have x5 : W8.cell? ⟨b4, 5, none⟩ = some (.int .u64 0) := blk_cell Hb4.out 5
 have x6 : W8.cell? ⟨b4, 6, none⟩ = some (.slice none 0 0) := blk_cell Hb4.out 6
 have Q := aM' (verify_Up.calls 8 false ⟨#[97]⟩ ⟨#[115]⟩ 0 9 0 none 0 [] hB 0 9 0 0 W8 (HK.out.below HB8.out) (Kd.C_nil _ _) (Nat.le_refl _) U1.out)
 go_wp2_with fail
 refine Q.out.mono ?_
 rintro e v ⟨rfl, hb⟩
 clear Q x0 x1 x2 x3 x4 x5 x6
 go_upto_region 10 with (fail)
 obtain ⟨W9, hW⟩ : ∃ V, V = v.alloc (.cells #[.string hB, .int .u64 0, .int .u64 9, .int .i64 0] 41) := ⟨_, rfl⟩
 rw [← hW]
 have hg : Below W8.heap.size W8 W9 := by rw [hW]; exact (Below.trans hb (below_alloc (Below.refl _ _) _ |>.mono hb.size))
 have hBn := HB8.out.trans (hg.mono HB8.out.size)
 have hb1 := blk_below Hb1.out hg
 have hb2 := blk_below Hb2.out hg
 have hb3 := blk_below Hb3.out hg
 have hb4 := blk_below Hb4.out hg
 have hb5 := blk_below Hb5.out hg
 have hb6 := blk_below Hb6.out hg
 have hb7 : W9.heap[v.heap.size]? = some (.cells #[.string hB, .int .u64 0, .int .u64 9, .int .i64 0] 41 (0, 0)) := by rw [hW]; exact blk_new _ _
 generalize v.heap.size = b7 at hb7 ⊢
 clear hg hW
 clear Hb1
 clear Hb2
 clear Hb3
 clear Hb4
 clear Hb5
 clear Hb6
 have Hb1 := aM' hb1
 clear hb1
 have Hb2 := aM' hb2
 clear hb2
 have Hb3 := aM' hb3
 clear hb3
 have Hb4 := aM' hb4
 clear hb4
 have Hb5 := aM' hb5
 clear hb5
 have Hb6 := aM' hb6
 clear hb6
 have Hb7 := aM' hb7
 clear hb7
 have HB9 := aM' hBn
 clear hBn HB8
 clear hb v
 have x0 : W9.cell? ⟨b3, 0, none⟩ = some (.string hB) := blk_cell Hb3.out 0
 have x1 : W9.cell? ⟨b3, 1, none⟩ = some (.int .u64 0) := blk_cell Hb3.out 1
 have x2 : W9.cell? ⟨b3, 2, none⟩ = some (.int .u64 9) := blk_cell Hb3.out 2
 have x3 : W9.cell? ⟨b3, 3, none⟩ = some (.int .i64 0) := blk_cell Hb3.out 3
 have y0 : W9.cell? ⟨b4, 0, none⟩ = some (.bool false) := blk_cell Hb4.out 0
 have y1 : W9.cell? ⟨b4, 1, none⟩ = some (.string ⟨#[97]⟩) := blk_cell Hb4.out 1
 have y2 : W9.cell? ⟨b4, 2, none⟩ = some (.string ⟨#[115]⟩) := blk_cell Hb4.out 2
 have y3 : W9.cell? ⟨b4, 3, none⟩ = some (.int .u64 0) := blk_cell Hb4.out 3
 have y4 : W9.cell? ⟨b4, 4, none⟩ = some (.int .u64 9) := blk_cell Hb4.out 4
 have y5 : W9.cell? ⟨b4, 5, none⟩ = some (.int .u64 0) := blk_cell Hb4.out 5
 have y6 : W9.cell? ⟨b4, 6, none⟩ = some (.slice none 0 0) := blk_cell Hb4.out 6
 have Q := aM' (verify_Check.calls hB 0 9 0 false ⟨#[97]⟩ ⟨#[115]⟩ 0 9 0 none 0 [] 0 W9 (HK.out.below HB9.out) (Kd.C_nil _ _) (Nat.le_refl _) C1.out)
 go_wp2_with fail
 refine Q.out.mono ?_
 rintro e V10 ⟨rfl, hb⟩
 have hBn := HB9.out.trans (hb.mono HB9.out.size)
 have hb1 := blk_below Hb1.out hb
 have hb2 := blk_below Hb2.out hb
 have hb3 := blk_below Hb3.out hb
 have hb4 := blk_below Hb4.out hb
 have hb5 := blk_below Hb5.out hb
 have hb6 := blk_below Hb6.out hb
 have hb7 := blk_below Hb7.out hb
 clear Q hb x0 x1 x2 x3 y0 y1 y2 y3 y4 y5 y6
 clear Hb1
 clear Hb2
 clear Hb3
 clear Hb4
 clear Hb5
 clear Hb6
 clear Hb7
 have Hb1 := aM' hb1
 clear hb1
 have Hb2 := aM' hb2
 clear hb2
 have Hb3 := aM' hb3
 clear hb3
 have Hb4 := aM' hb4
 clear hb4
 have Hb5 := aM' hb5
 clear hb5
 have Hb6 := aM' hb6
 clear hb6
 have Hb7 := aM' hb7
 clear hb7
 have HB10 := aM' hBn
 clear hBn HB9
 have x0 : V10.cell? ⟨b3, 0, none⟩ = some (.string hB) := blk_cell Hb3.out 0
 have x1 : V10.cell? ⟨b3, 1, none⟩ = some (.int .u64 0) := blk_cell Hb3.out 1
 have x2 : V10.cell? ⟨b3, 2, none⟩ = some (.int .u64 9) := blk_cell Hb3.out 2
 have x3 : V10.cell? ⟨b3, 3, none⟩ = some (.int .i64 0) := blk_cell Hb3.out 3
 have y0 : V10.cell? ⟨b5, 0, none⟩ = some (.bool false) := blk_cell Hb5.out 0
 have y1 : V10.cell? ⟨b5, 1, none⟩ = some (.string ⟨#[97]⟩) := blk_cell Hb5.out 1
 have y2 : V10.cell? ⟨b5, 2, none⟩ = some (.string ⟨#[115]⟩) := blk_cell Hb5.out 2
 have y3 : V10.cell? ⟨b5, 3, none⟩ = some (.int .u64 0) := blk_cell Hb5.out 3
 have y4 : V10.cell? ⟨b5, 4, none⟩ = some (.int .u64 10) := blk_cell Hb5.out 4
 have y5 : V10.cell? ⟨b5, 5, none⟩ = some (.int .u64 0) := blk_cell Hb5.out 5
 have y6 : V10.cell? ⟨b5, 6, none⟩ = some (.slice none 0 0) := blk_cell Hb5.out 6
 have Q := aM' (verify_Check.calls hB 0 9 0 false ⟨#[97]⟩ ⟨#[115]⟩ 0 10 0 none 0 [] 160 V10 (HK.out.below HB10.out) (Kd.C_nil _ _) (Nat.le_refl _) C2.out)
 go_wp2_with fail
 refine Q.out.mono ?_
 rintro e V11 ⟨rfl, hb⟩
 have hBn := HB10.out.trans (hb.mono HB10.out.size)
 have hb1 := blk_below Hb1.out hb
 have hb2 := blk_below Hb2.out hb
 have hb3 := blk_below Hb3.out hb
 have hb4 := blk_below Hb4.out hb
 have hb5 := blk_below Hb5.out hb
 have hb6 := blk_below Hb6.out hb
 have hb7 := blk_below Hb7.out hb
 clear Q hb x0 x1 x2 x3 y0 y1 y2 y3 y4 y5 y6
 clear Hb1
 clear Hb2
 clear Hb3
 clear Hb4
 clear Hb5
 clear Hb6
 clear Hb7
 have Hb1 := aM' hb1
 clear hb1
 have Hb2 := aM' hb2
 clear hb2
 have Hb3 := aM' hb3
 clear hb3
 have Hb4 := aM' hb4
 clear hb4
 have Hb5 := aM' hb5
 clear hb5
 have Hb6 := aM' hb6
 clear hb6
 have Hb7 := aM' hb7
 clear hb7
 have HB11 := aM' hBn
 clear hBn HB10
 have x0 : V11.cell? ⟨b6, 0, none⟩ = some (.string hB) := blk_cell Hb6.out 0
 have x1 : V11.cell? ⟨b6, 1, none⟩ = some (.int .u64 0) := blk_cell Hb6.out 1
 have x2 : V11.cell? ⟨b6, 2, none⟩ = some (.int .u64 9) := blk_cell Hb6.out 2
 have x3 : V11.cell? ⟨b6, 3, none⟩ = some (.int .i64 64) := blk_cell Hb6.out 3
 have y0 : V11.cell? ⟨b4, 0, none⟩ = some (.bool false) := blk_cell Hb4.out 0
 have y1 : V11.cell? ⟨b4, 1, none⟩ = some (.string ⟨#[97]⟩) := blk_cell Hb4.out 1
 have y2 : V11.cell? ⟨b4, 2, none⟩ = some (.string ⟨#[115]⟩) := blk_cell Hb4.out 2
 have y3 : V11.cell? ⟨b4, 3, none⟩ = some (.int .u64 0) := blk_cell Hb4.out 3
 have y4 : V11.cell? ⟨b4, 4, none⟩ = some (.int .u64 9) := blk_cell Hb4.out 4
 have y5 : V11.cell? ⟨b4, 5, none⟩ = some (.int .u64 0) := blk_cell Hb4.out 5
 have y6 : V11.cell? ⟨b4, 6, none⟩ = some (.slice none 0 0) := blk_cell Hb4.out 6
 have Q := aM' (verify_Check.calls hB 0 9 64 false ⟨#[97]⟩ ⟨#[115]⟩ 0 9 0 none 0 [] 120 V11 (HK.out.below HB11.out) (Kd.C_nil _ _) (Nat.le_refl _) C3.out)
 go_wp2_with fail
 refine Q.out.mono ?_
 rintro e V12 ⟨rfl, hb⟩
 have hBn := HB11.out.trans (hb.mono HB11.out.size)
 have hb1 := blk_below Hb1.out hb
 have hb2 := blk_below Hb2.out hb
 have hb3 := blk_below Hb3.out hb
 have hb4 := blk_below Hb4.out hb
 have hb5 := blk_below Hb5.out hb
 have hb6 := blk_below Hb6.out hb
 have hb7 := blk_below Hb7.out hb
 clear Q hb x0 x1 x2 x3 y0 y1 y2 y3 y4 y5 y6
 clear Hb1
 clear Hb2
 clear Hb3
 clear Hb4
 clear Hb5
 clear Hb6
 clear Hb7
 have Hb1 := aM' hb1
 clear hb1
 have Hb2 := aM' hb2
 clear hb2
 have Hb3 := aM' hb3
 clear hb3
 have Hb4 := aM' hb4
 clear hb4
 have Hb5 := aM' hb5
 clear hb5
 have Hb6 := aM' hb6
 clear hb6
 have Hb7 := aM' hb7
 clear hb7
 have HB12 := aM' hBn
 clear hBn HB11
 have x0 : V12.cell? ⟨b3, 0, none⟩ = some (.string hB) := blk_cell Hb3.out 0
 have x1 : V12.cell? ⟨b3, 1, none⟩ = some (.int .u64 0) := blk_cell Hb3.out 1
 have x2 : V12.cell? ⟨b3, 2, none⟩ = some (.int .u64 9) := blk_cell Hb3.out 2
 have x3 : V12.cell? ⟨b3, 3, none⟩ = some (.int .i64 0) := blk_cell Hb3.out 3
 have Q := aM' (verify_Check.calls hB 0 9 0 false ⟨#[]⟩ ⟨#[]⟩ 0 0 0 none 0 [] 130 V12 (HK.out.below HB12.out) (Kd.C_nil _ _) (Nat.le_refl _) C4.out)
 go_wp2_with fail
 refine Q.out.mono ?_
 rintro e V13 ⟨rfl, hb⟩
 have hBn := HB12.out.trans (hb.mono HB12.out.size)
 have hb1 := blk_below Hb1.out hb
 have hb2 := blk_below Hb2.out hb
 have hb3 := blk_below Hb3.out hb
 have hb4 := blk_below Hb4.out hb
 have hb5 := blk_below Hb5.out hb
 have hb6 := blk_below Hb6.out hb
 have hb7 := blk_below Hb7.out hb
 clear Q hb x0 x1 x2 x3
 clear Hb1
 clear Hb2
 clear Hb3
 clear Hb4
 clear Hb5
 clear Hb6
 clear Hb7
 have Hb1 := aM' hb1
 clear hb1
 have Hb2 := aM' hb2
 clear hb2
 have Hb3 := aM' hb3
 clear hb3
 have Hb4 := aM' hb4
 clear hb4
 have Hb5 := aM' hb5
 clear hb5
 have Hb6 := aM' hb6
 clear hb6
 have Hb7 := aM' hb7
 clear hb7
 have HB13 := aM' hBn
 clear hBn HB12
 have x0 : V13.cell? ⟨b7, 0, none⟩ = some (.string hB) := blk_cell Hb7.out 0
 have x1 : V13.cell? ⟨b7, 1, none⟩ = some (.int .u64 0) := blk_cell Hb7.out 1
 have x2 : V13.cell? ⟨b7, 2, none⟩ = some (.int .u64 9) := blk_cell Hb7.out 2
 have x3 : V13.cell? ⟨b7, 3, none⟩ = some (.int .i64 0) := blk_cell Hb7.out 3
 have y0 : V13.cell? ⟨b3, 0, none⟩ = some (.string hB) := blk_cell Hb3.out 0
 have y1 : V13.cell? ⟨b3, 1, none⟩ = some (.int .u64 0) := blk_cell Hb3.out 1
 have y2 : V13.cell? ⟨b3, 2, none⟩ = some (.int .u64 9) := blk_cell Hb3.out 2
 have y3 : V13.cell? ⟨b3, 3, none⟩ = some (.int .i64 0) := blk_cell Hb3.out 3
 go_wp2
 go_ret
 exact ⟨rfl, HB13.out⟩
end Go.Proofs.YtfcodmdckcihmaaDoor.P
namespace Go.Proofs.YtfcodmdckcihmaaDoor.P
open Go.RowKit Go.Proofs.YtfcodmdckcihmaaDoorW.PrintWords Go.Proofs.YtfcodmdckcihmaaDoorW.PrintLast Go.Proofs.YtfcodmdckcihmaaDoorW.PrintMore
set_option linter.unusedVariables false
set_option linter.unusedSimpArgs false
set_option linter.unnecessarySimpa false
theorem heqRoot (d : Nat) (w : World) (x0 y0 : ByteArray) (x1 y1 : Int) (x2 y2 : Int) (x3 y3 : Int) :
  (Op.equalIn (d + 3) 41 (.agg #[.string x0, .int .u64 x1, .int .u64 x2, .int .i64 x3]) (.agg #[.string y0, .int .u64 y1, .int .u64 y2, .int .i64 y3])).run Tryd.prog w = .ok (x0.toList == y0.toList && ((x1 == y1 && (x2 == y2)) && (x3 == y3))) w := by
 refine eqA_of Tryd.underlying41 (by kernel_rfl) ?_
 refine eqf_cons (by rfl) (by go_simp; rfl) (by go_simp; rfl) (by go_simp) ?_
 refine eqf_cons (by rfl) (by go_simp) (by go_simp) (eqAU128 (d + 0) w _ _ _ _) ?_
 exact eqf_last (by rfl) (by go_simp; rfl) (by go_simp; rfl) (by go_simp)
end Go.Proofs.YtfcodmdckcihmaaDoor.P
namespace Go.Proofs.YtfcodmdckcihmaaDoor.P
open Go.RowKit Go.Proofs.YtfcodmdckcihmaaDoorW.PrintWords Go.Proofs.YtfcodmdckcihmaaDoorW.PrintLast Go.Proofs.YtfcodmdckcihmaaDoorW.PrintMore
set_option linter.unusedVariables false
set_option linter.unusedSimpArgs false
set_option linter.unnecessarySimpa false
attribute [local go_sem high] eqANode heqRoot eqALeaf
theorem greatL_ok {l : List SLeaf} (h : greatL l = false) : l.length ≤ 70 ∧ ∀ x ∈ l, x.f1.size ≤ 200 ∧ x.f2.size ≤ 200 := by
 unfold greatL at h
 simp only [Bool.or_eq_false_iff, decide_eq_false_iff_not, List.any_eq_false] at h
 refine ⟨by omega, fun x hx => ?_⟩
 have := h.2 x hx
 simp at this
 omega
structure TB (w : World) (a ar : Nat) (wd : Int) (l : List SLeaf) (V : World) : Prop where
 t : TreeR a (treeT wd l) V
 r : RefT ar wd l V
 b : Below w.heap.size w V
theorem TB.below {w : World} {a ar : Nat} {wd : Int} {l : List SLeaf} {V V' : World} (h : TB w a ar wd l V) (hb : Below V.heap.size V V') : TB w a ar wd l V' := ⟨h.t.below hb, h.r.below hb, h.b.trans (hb.mono h.b.size)⟩
structure KB (w V0 : World) (g n : Nat) (V : World) : Prop where
 k : ∀ k, k ≠ g → V.heap[k]? = V0.heap[k]?
 c : ∃ cs, V.heap[g]? = some (.cells cs 36 (0, 0)) ∧ n * 5 ≤ cs.size
 b : Below w.heap.size w V
 s : V.heap.size = V0.heap.size
theorem KB.cell {w V0 V : World} {g n i : Nat} (h : KB w V0 g n V) (hi : i < n) : (∃ v, V.cell? ⟨g, i * 5 + 1, none⟩ = some v) ∧ V.frozen? ⟨g, i * 5 + 1, none⟩ = false := by
 obtain ⟨cs, h1, h2⟩ := h.c
 exact ⟨⟨cs[i * 5 + 1]'(by omega), by rw [blk_cell h1]; simp [show i * 5 + 1 < cs.size by omega]⟩, blk_frozen h1 _⟩
theorem KB.put {w V0 V : World} {g n i : Nat} (h : KB w V0 g n V) (hg : w.heap.size ≤ g) (v : Value) : KB w V0 g n (V.setCell ⟨g, i, none⟩ v) := by
 obtain ⟨cs, h1, h2⟩ := h.c
 exact ⟨fun k hk => (Below.heap_setCell _ _ _ _ hk).trans (h.k k hk), ⟨cs.setIfInBounds i v, blk_put h1 i v rfl, by simpa using h2⟩, below_set h.b hg, by simpa using h.s⟩
theorem KB.start {w V0 : World} {base g n cap : Nat} {xs : List SLeaf} (h : V0.ownsRow base 36 5 (.slice (some ⟨g, 0, none⟩) n cap) n (cellsL xs)) (hB : Below w.heap.size w V0) : KB w V0 g n V0 := by
 rcases h.2 with ⟨e, _⟩ | ⟨g', cap', cur, e, _, h2, h3, _, h5, _⟩
 ·
  cases e
 ·
  cases e
  exact ⟨fun _ _ => rfl, ⟨cur, h2, by rw [h5]; exact Nat.mul_le_mul_right 5 h3⟩, hB, rfl⟩
end Go.Proofs.YtfcodmdckcihmaaDoor.P
namespace Go.Proofs.YtfcodmdckcihmaaDoor.P
open Go.RowKit Go.Proofs.YtfcodmdckcihmaaDoorW.PrintWords Go.Proofs.YtfcodmdckcihmaaDoorW.PrintLast Go.Proofs.YtfcodmdckcihmaaDoorW.PrintMore
set_option linter.unusedVariables false
set_option linter.unusedSimpArgs false
set_option linter.unnecessarySimpa false
attribute [local go_sem high] eqANode heqRoot eqALeaf
structure LeafC (V : World) (ap : Addr) (y : SLeaf) : Prop where
 p0 : V.cell? ap = some (.bool y.f0)
 p1 : V.cell? ⟨ap.block, ap.off + 1, none⟩ = some (.string y.f1)
 p2 : V.cell? ⟨ap.block, ap.off + 2, none⟩ = some (.string y.f2)
 p3 : V.cell? ⟨ap.block, ap.off + 3, none⟩ = some (.int .u64 y.f3.f0)
 p4 : V.cell? ⟨ap.block, ap.off + 4, none⟩ = some (.int .u64 y.f3.f1)
theorem LeafC.below {V V' : World} {ap : Addr} {y : SLeaf} (h : LeafC V ap y) (hb : Below V.heap.size V V') : LeafC V' ap y := ⟨pw_cell_below hb h.p0, pw_cell_below hb h.p1, pw_cell_below hb h.p2, pw_cell_below hb h.p3, pw_cell_below hb h.p4⟩
structure At18 (w w' : World) (g12 g17 : Nat) (rt : SNode) (m : Int) (ap : Addr) (y : SLeaf) : Prop where
 b : Below w.heap.size w w'
 r : w'.heap[g12]? = some (.cells #[.string rt.f0, .int .u64 rt.f1.f0, .int .u64 rt.f1.f1, .int .i64 m] 41 (0, 0))
 k : w'.heap[g17]? = some (.cells #[.bool y.f0, .string y.f1, .string y.f2, .int .u64 y.f3.f0, .int .u64 y.f3.f1] 36 (0, 0))
 l : LeafC w' ap y
theorem At18.of {w W : World} {g12 g17 : Nat} {rt : SNode} {m : Int} {ap : Addr} {y : SLeaf} {C : Prop} (h : C ∧ At18 w W g12 g17 rt m ap y) : At18 w W g12 g17 rt m ap y := h.2
theorem At18.keep {w W w' : World} {g12 g17 : Nat} {rt : SNode} {m : Int} {ap : Addr} {y : SLeaf} (k : Below W.heap.size W w') (h : At18 w W g12 g17 rt m ap y) : At18 w w' g12 g17 rt m ap y := ⟨h.b.trans (k.mono h.b.size), blk_below h.r k, blk_below h.k k, h.l.below k⟩
theorem At18.cells {w w' : World} {g12 g17 : Nat} {rt : SNode} {m : Int} {ap : Addr} {y : SLeaf} (h : At18 w w' g12 g17 rt m ap y) : ((w'.cell? ⟨g12, 0, none⟩ = some (.string rt.f0) ∧ w'.cell? ⟨g12, 1, none⟩ = some (.int .u64 rt.f1.f0) ∧ w'.cell? ⟨g12, 2, none⟩ = some (.int .u64 rt.f1.f1) ∧ w'.cell? ⟨g12, 3, none⟩ = some (.int .i64 m)) ∧ (w'.cell? ⟨g17, 0, none⟩ = some (.bool y.f0) ∧ w'.cell? ⟨g17, 1, none⟩ = some (.string y.f1) ∧ w'.cell? ⟨g17, 2, none⟩ = some (.string y.f2) ∧ w'.cell? ⟨g17, 3, none⟩ = some (.int .u64 y.f3.f0) ∧ w'.cell? ⟨g17, 4, none⟩ = some (.int .u64 y.f3.f1)) ∧ (w'.cell? ap = some (.bool y.f0) ∧ w'.cell? ⟨ap.block, ap.off + 1, none⟩ = some (.string y.f1) ∧ w'.cell? ⟨ap.block, ap.off + 2, none⟩ = some (.string y.f2) ∧ w'.cell? ⟨ap.block, ap.off + 3, none⟩ = some (.int .u64 y.f3.f0) ∧ w'.cell? ⟨ap.block, ap.off + 4, none⟩ = some (.int .u64 y.f3.f1))) ∧ At18 w w' g12 g17 rt m ap y :=
 ⟨⟨⟨(blk_cell h.r 0).trans rfl, (blk_cell h.r 1).trans rfl, (blk_cell h.r 2).trans rfl, (blk_cell h.r 3).trans rfl⟩, ⟨(blk_cell h.k 0).trans rfl, (blk_cell h.k 1).trans rfl, (blk_cell h.k 2).trans rfl, (blk_cell h.k 3).trans rfl, (blk_cell h.k 4).trans rfl⟩, ⟨h.l.p0, h.l.p1, h.l.p2, h.l.p3, h.l.p4⟩⟩, h⟩
structure At28 (w w' : World) (g12 : Nat) (rt : SNode) (m : Int) (ap : Addr) (y : SLeaf) : Prop where
 b : Below w.heap.size w w'
 r : w'.heap[g12]? = some (.cells #[.string rt.f0, .int .u64 rt.f1.f0, .int .u64 rt.f1.f1, .int .i64 m] 41 (0, 0))
 l : LeafC w' ap y
theorem At28.of {w W : World} {g12 : Nat} {rt : SNode} {m : Int} {ap : Addr} {y : SLeaf} {C : Prop} (h : C ∧ At28 w W g12 rt m ap y) : At28 w W g12 rt m ap y := h.2
theorem At28.keep {w W w' : World} {g12 : Nat} {rt : SNode} {m : Int} {ap : Addr} {y : SLeaf} (k : Below W.heap.size W w') (h : At28 w W g12 rt m ap y) : At28 w w' g12 rt m ap y := ⟨h.b.trans (k.mono h.b.size), blk_below h.r k, h.l.below k⟩
theorem At28.cells {w w' : World} {g12 : Nat} {rt : SNode} {m : Int} {ap : Addr} {y : SLeaf} (h : At28 w w' g12 rt m ap y) : ((w'.cell? ⟨g12, 0, none⟩ = some (.string rt.f0) ∧ w'.cell? ⟨g12, 1, none⟩ = some (.int .u64 rt.f1.f0) ∧ w'.cell? ⟨g12, 2, none⟩ = some (.int .u64 rt.f1.f1) ∧ w'.cell? ⟨g12, 3, none⟩ = some (.int .i64 m)) ∧ (w'.cell? ap = some (.bool y.f0) ∧ w'.cell? ⟨ap.block, ap.off + 1, none⟩ = some (.string y.f1) ∧ w'.cell? ⟨ap.block, ap.off + 2, none⟩ = some (.string y.f2) ∧ w'.cell? ⟨ap.block, ap.off + 3, none⟩ = some (.int .u64 y.f3.f0) ∧ w'.cell? ⟨ap.block, ap.off + 4, none⟩ = some (.int .u64 y.f3.f1))) ∧ At28 w w' g12 rt m ap y :=
 ⟨⟨⟨(blk_cell h.r 0).trans rfl, (blk_cell h.r 1).trans rfl, (blk_cell h.r 2).trans rfl, (blk_cell h.r 3).trans rfl⟩, ⟨h.l.p0, h.l.p1, h.l.p2, h.l.p3, h.l.p4⟩⟩, h⟩
end Go.Proofs.YtfcodmdckcihmaaDoor.P
