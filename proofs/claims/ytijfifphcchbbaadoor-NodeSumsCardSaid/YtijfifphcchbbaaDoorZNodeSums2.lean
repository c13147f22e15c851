-- Several texts of this workplace as one.
import Derived.Test.YtijfifphcchbbaaDoorZNodeSums1
import Derived.Test.YtijfifphcchbbaaDoorProg
import Derived.Deep.OwnRows
import Derived.Laws.Rows
import Derived.Test.YtijfifphcchbbaaDoorRows
import Derived.Test.YtijfifphcchbbaaDoorCards
import Derived.Test.YtijfifphcchbbaaDoorTie
namespace Go.Proofs.YtijfifphcchbbaaDoor.P
open Go.RowKit Go.Proofs.YtijfifphcchbbaaDoorW.PrintWords Go.Proofs.YtijfifphcchbbaaDoorW.PrintLast Go.Proofs.YtijfifphcchbbaaDoorW.PrintMore
set_option linter.unusedVariables false
set_option linter.unusedSimpArgs false
set_option linter.unnecessarySimpa false
attribute [local go_sem] Oper.semAt_some sel_true
theorem nodeInfo : (Tryd.prog.info? 28).map (fun i => (i.zero, i.size, i.bytes)) = some (some (.agg #[(.string ⟨#[]⟩), (.int .u64 0), (.int .u64 0)]), 3, 32) := by kernel_rfl
def cellsN : List SNode → List Value
  | [] => []
  | x :: l => .string x.f0 :: .int .u64 x.f1.f0 :: .int .u64 x.f1.f1 :: cellsN l
theorem cellsN_len : ∀ l, (cellsN l).length = l.length * 3
  | [] => rfl
  | x :: l => by simp [cellsN, cellsN_len l]; omega
theorem cellsN_append : ∀ a b, cellsN (a ++ b) = cellsN a ++ cellsN b
  | [], _ => rfl
  | x :: a, b => by rw [List.cons_append, cellsN, cellsN_append a b]; rfl
theorem cellsN_get : ∀ (l : List SNode) (j i : Nat) (p : SNode), l[j]? = some p → i < 3 → (cellsN l)[j * 3 + i]? = [Value.string p.f0, .int .u64 p.f1.f0, .int .u64 p.f1.f1][i]?
  | [], j, i, p, h, _ => by simp at h
  | x :: l, 0, i, p, h, hi => by
    obtain rfl := Option.some.inj h
    rw [cellsN, Nat.zero_mul, Nat.zero_add]
    match i, hi with
    | 0, _ => rfl
    | 1, _ => rfl
    | 2, _ => rfl
  | x :: l, j + 1, i, p, h, hi => by
    have h' : l[j]? = some p := by simpa using h
    rw [cellsN, show (j + 1) * 3 + i = (j * 3 + i) + 3 by omega]
    simp only [List.getElem?_cons_succ]
    exact cellsN_get l j i p h' hi
theorem addr_at (g n : Nat) : (⟨g, 0, none⟩ : Addr).add n = ⟨g, n, none⟩ := by unfold Addr.add; split <;> simp_all
theorem ownNodes_C {w : World} {base g n cap : Nat} {xs : List SNode} (h : w.ownsRow base 28 3 (.slice (some ⟨g, 0, none⟩) n cap) n (cellsN xs)) : xs.length = n ∧ n ≤ cap ∧ Kd.C kNode w (some ⟨g, 0, none⟩) n xs := by
  obtain ⟨hlen, h⟩ := h
  rw [cellsN_len] at hlen
  have hl : xs.length = n := by omega
  rcases h with ⟨h, _⟩ | ⟨g', cap', cur, hv, hb, hg, hcap, hmax, hsz, htk⟩
  · cases h
  · simp only [Value.slice.injEq, Option.some.injEq, Addr.mk.injEq] at hv
    obtain ⟨⟨rfl, -⟩, -, rfl⟩ := hv
    refine ⟨hl, hcap, hl, by unfold maxLen at hmax; omega, fun h0 => ⟨_, rfl, fun j p hj => ?_⟩⟩
    refine ⟨_, rfl, kNode_mk w p, fun i u hu => ?_⟩
    have hi : i < 3 := by
      rcases Nat.lt_or_ge i 3 with h | h
      · exact h
      · simp [h] at hu
    have hjn : j < xs.length := (List.getElem?_eq_some_iff.1 hj).1
    have e : kNode.sz = 3 := rfl
    rw [e, addr_at, blk_cell hg]
    have h1 := cellsN_get xs j i p hj hi
    rw [← htk, List.getElem?_take, if_pos (by omega)] at h1
    rw [hu] at h1
    simpa using h1
theorem two_at {W : World} {ad : Addr} {l : List SNode} (h : Kd.C kNode W (some ad) l.length l) (j : Nat) (hj : 2 * j + 1 < l.length) :
    ((W.cell? (ad.add (2 * j * 3)) = some (.string (l[2 * j]'(by omega)).f0) ∧ W.cell? ⟨(ad.add (2 * j * 3)).block, (ad.add (2 * j * 3)).off + 1, none⟩ = some (.int .u64 (l[2 * j]'(by omega)).f1.f0) ∧ W.cell? ⟨(ad.add (2 * j * 3)).block, (ad.add (2 * j * 3)).off + 2, none⟩ = some (.int .u64 (l[2 * j]'(by omega)).f1.f1)) ∧
     (W.cell? ((ad.add (2 * j * 3)).add 3) = some (.string l[2 * j + 1].f0) ∧ W.cell? ⟨((ad.add (2 * j * 3)).add 3).block, ((ad.add (2 * j * 3)).add 3).off + 1, none⟩ = some (.int .u64 l[2 * j + 1].f1.f0) ∧ W.cell? ⟨((ad.add (2 * j * 3)).add 3).block, ((ad.add (2 * j * 3)).add 3).off + 2, none⟩ = some (.int .u64 l[2 * j + 1].f1.f1))) := by
  obtain ⟨a1, e1, p0, p1, p2⟩ := at_TNode h ((2 * j : Nat) : Int) (by omega) (by omega)
  obtain ⟨a2, e2, q0, q1, q2⟩ := at_TNode h ((2 * j + 1 : Nat) : Int) (by omega) (by omega)
  cases e1; cases e2
  rw [rdNode_nat l (2 * j) (by omega), Int.toNat_natCast] at p0 p1 p2
  rw [rdNode_nat l (2 * j + 1) hj, Int.toNat_natCast] at q0 q1 q2
  have e3 : (ad.add (2 * j * 3)).add 3 = ad.add ((2 * j + 1) * 3) := by rw [Addr.add_add]; congr 1; omega
  rw [e3]
  exact ⟨⟨p0, p1, p2⟩, q0, q1, q2⟩
theorem make_nodes (m : Nat) (h : m ≤ 1000000) : ∃ cur : Array Value, cur.size = m * 3 ∧ ∀ W : World, (Instr.makeSlice 22 (.int .i64 0) (.int .i64 (m : Int))).run Tryd.prog W = .ok (.slice (some ⟨W.heap.size, 0, none⟩) 0 m) (W.alloc (.cells cur 28)) := by
  obtain ⟨i0, hi, hz0, hz1, hz2⟩ := info_parts nodeInfo
  refine ⟨madeCells (Value.agg #[(.string ⟨#[]⟩), (.int .u64 0), (.int .u64 0)]).cells (m * 3), ?_, fun W => ?_⟩
  · exact size_madeCells _ _
  · have hr := run_make (P := Tryd.prog) W 22 28 i0 _ Tryd.underlying22 hi hz0 .i64 .i64 0 (m : Int) (Int.le_refl _) (by omega) (by rw [hz2]; omega) (by omega)
    rw [hz1] at hr
    simpa using hr
theorem two_at' {W : World} {ad : Addr} {l : List SNode} (h : Kd.C kNode W (some ad) l.length l) (j : Nat) (hj : 2 * j + 1 < l.length) (a b : SNode) (ha : a = l.getD (2 * j) zeroN) (hb : b = l.getD (2 * j + 1) zeroN) (ap : Addr) (hap : ap = ad.add (2 * j * 3)) :
    ((W.cell? ap = some (.string a.f0) ∧ W.cell? ⟨ap.block, ap.off + 1, none⟩ = some (.int .u64 a.f1.f0) ∧ W.cell? ⟨ap.block, ap.off + 2, none⟩ = some (.int .u64 a.f1.f1)) ∧
     (W.cell? ⟨ap.block, ap.off + 3, none⟩ = some (.string b.f0) ∧ W.cell? ⟨ap.block, ap.off + 3 + 1, none⟩ = some (.int .u64 b.f1.f0) ∧ W.cell? ⟨ap.block, ap.off + 3 + 2, none⟩ = some (.int .u64 b.f1.f1))) := by
  have h1 : l.getD (2 * j) zeroN = l[2 * j]'(by omega) := by simp [List.getD_eq_getElem?_getD, show 2 * j < l.length by omega]
  have h2 : l.getD (2 * j + 1) zeroN = l[2 * j + 1] := by simp [List.getD_eq_getElem?_getD, hj]
  subst ha hb hap
  rw [h1, h2]
  obtain ⟨p, q0, q1, q2⟩ := two_at h j hj
  have e3 : (ad.add (2 * j * 3)).add 3 = ⟨(ad.add (2 * j * 3)).block, (ad.add (2 * j * 3)).off + 3, none⟩ := rfl
  rw [e3] at q0 q1 q2
  exact ⟨p, q0, q1, q2⟩
structure Pr4 (W0 W : World) (x : SNode) (l : Nat → Bool) (γ : Nat) : Prop where
  hB : Below W0.heap.size W0 W
  hg : l 11 = true → W0.heap.size ≤ γ ∧ W.heap[γ]? = some (.cells (if l 12 = true then nodeA x else #[.string ⟨#[]⟩, .int .u64 0, .int .u64 0]) 28 (0, 0))
  ho : l 12 = true → l 11 = true
theorem Pr4.other {W0 W W' : World} {x : SNode} {l : Nat → Bool} {γ : Nat} (h : Pr4 W0 W x l γ) (i : Nat) (hi : i ≠ 11) (hi2 : i ≠ 12) (hb : Below W.heap.size W W') : Pr4 W0 W' x (upd l i) γ := by
  have e1 : upd l i 11 = l 11 := by unfold upd; rw [if_neg (fun e => hi e.symm)]
  have e2 : upd l i 12 = l 12 := by unfold upd; rw [if_neg (fun e => hi2 e.symm)]
  refine ⟨h.hB.trans (hb.mono h.hB.size), ?_, ?_⟩
  · rw [e1, e2]; exact fun hl => ⟨(h.hg hl).1, blk_below (h.hg hl).2 hb⟩
  · rw [e1, e2]; exact h.ho
theorem Pr4.alloc {W0 W : World} {x : SNode} {l : Nat → Bool} {γ : Nat} (h : Pr4 W0 W x l γ) (hl : l 11 = false) : Pr4 W0 (W.alloc (.cells #[.string ⟨#[]⟩, .int .u64 0, .int .u64 0] 28 (0, 0))) x (upd l 11) W.heap.size := by
  have h12 : l 12 = false := by
    cases hx : l 12 with
    | false => rfl
    | true => rw [h.ho hx] at hl; cases hl
  have e1 : upd l 11 11 = true := rfl
  have e2 : upd l 11 12 = l 12 := rfl
  refine ⟨below_alloc h.hB _, ?_, ?_⟩
  · rw [e1, e2, h12]; exact fun _ => ⟨h.hB.size, blk_new W _⟩
  · rw [e1]; exact fun _ => rfl
theorem Pr4.store {W0 W : World} {x : SNode} {l : Nat → Bool} {γ : Nat} (h : Pr4 W0 W x l γ) (ha : l 11 = true) (hl : l 12 = false) : Pr4 W0 (((W.setCell ⟨γ, 0, none⟩ (.string x.f0)).setCell ⟨γ, 1, none⟩ (.int .u64 x.f1.f0)).setCell ⟨γ, 2, none⟩ (.int .u64 x.f1.f1)) x (upd l 12) γ := by
  have e1 : upd l 12 11 = l 11 := rfl
  have e2 : upd l 12 12 = true := rfl
  obtain ⟨h1, h2⟩ := h.hg ha
  rw [hl, if_neg (by decide)] at h2
  refine ⟨below_set (below_set (below_set h.hB h1) h1) h1, ?_, ?_⟩
  · rw [e1, e2, if_pos rfl]; exact fun _ => ⟨h1, put3 (z := ⟨⟨#[]⟩, ⟨0, 0⟩⟩) h2 x⟩
  · rw [e1]; exact fun _ => ha
abbrev closV (B : Nat) : Value := .func (.func 58) #[] #[.pointer (some ⟨B, 0, none⟩)]
structure PrS (w : World) (B m b3 b4 b5 bx b6 : Nat) (done : List SNode) (r4 : Value) (r5 : Int) (W : World) : Prop where
  n3 : b3 = w.heap.size
  n4 : b4 = w.heap.size + 1
  n5 : b5 = w.heap.size + 2
  nx : bx = w.heap.size + 3
  n6 : b6 = w.heap.size + 4
  h3 : W.heap[b3]? = some (.cells #[closV B] 111 (0, 0))
  h4 : W.heap[b4]? = some (.cells #[r4] 22 (0, 0))
  h5 : W.heap[b5]? = some (.cells #[.int .i64 r5] 29 (0, 0))
  own : W.ownsRow w.heap.size 28 3 (.slice (some ⟨bx, 0, none⟩) done.length m) done.length (cellsN done)
  h6 : W.heap[b6]? = some (.cells #[.slice (some ⟨bx, 0, none⟩) done.length m] 22 (0, 0))
  hB : Below w.heap.size w W
theorem PrS.lt {w W : World} {B m b3 b4 b5 bx b6 : Nat} {done : List SNode} {r4 : Value} {r5 : Int} (h : PrS w B m b3 b4 b5 bx b6 done r4 r5 W) : w.heap.size + 4 < W.heap.size := by have := blk_lt h.h6; rw [h.n6] at this; exact this
theorem own_keep {w w' : World} {base n m g : Nat} {xs : List Value} {e : TypeId} {size : Nat} (h : w.ownsRow base e size (.slice (some ⟨g, 0, none⟩) n m) n xs) (hk : w'.heap[g]? = w.heap[g]?) : w'.ownsRow base e size (.slice (some ⟨g, 0, none⟩) n m) n xs := by
  obtain ⟨hlen, h⟩ := h
  refine ⟨hlen, ?_⟩
  rcases h with ⟨h, _⟩ | ⟨g', cap', cur, hv, hb, hg, hr⟩
  · cases h
  · have e : g' = g := by simp only [Value.slice.injEq, Option.some.injEq, Addr.mk.injEq] at hv; exact hv.1.1.symm
    subst e
    exact .inr ⟨_, cap', cur, hv, hb, hk.trans hg, hr⟩
theorem PrS.keep {w W W' : World} {B m b3 b4 b5 bx b6 : Nat} {done : List SNode} {r4 : Value} {r5 : Int} (h : PrS w B m b3 b4 b5 bx b6 done r4 r5 W) (hk : ∀ k, k ≤ w.heap.size + 4 → W'.heap[k]? = W.heap[k]?) (hB : Below w.heap.size w W') : PrS w B m b3 b4 b5 bx b6 done r4 r5 W' :=
  ⟨h.n3, h.n4, h.n5, h.nx, h.n6, (hk _ (by have := h.n3; omega)).trans h.h3, (hk _ (by have := h.n4; omega)).trans h.h4, (hk _ (by have := h.n5; omega)).trans h.h5, own_keep h.own (hk _ (by have := h.nx; omega)), (hk _ (by have := h.n6; omega)).trans h.h6, hB⟩
theorem PrS.below {w W W' : World} {B m b3 b4 b5 bx b6 : Nat} {done : List SNode} {r4 : Value} {r5 : Int} (h : PrS w B m b3 b4 b5 bx b6 done r4 r5 W) (hb : Below W.heap.size W W') : PrS w B m b3 b4 b5 bx b6 done r4 r5 W' :=
  h.keep (fun k h2 => hb.block k (by have := h.lt; omega)) (h.hB.trans (hb.mono h.hB.size))
theorem PrS.grown {w X Y : World} {B m b3 b4 b5 bx b6 C : Nat} {done : List SNode} {r4 : Value} {r5 : Int} {row : Option Nat} (h : PrS w B m b3 b4 b5 bx b6 done r4 r5 X) (hg : X.grownBy Y row) (hlt : w.heap.size + 4 < C) (hr : ∀ r, row = some r → C ≤ r) : PrS w B m b3 b4 b5 bx b6 done r4 r5 Y := by
  have hl := h.lt
  have hk : ∀ k, k ≤ w.heap.size + 4 → Y.heap[k]? = X.heap[k]? := fun k hk => hg.block k (by omega) (fun e => by have := hr k e.symm; omega)
  exact h.keep hk ⟨hg.os.trans h.hB.os, hg.tape.trans h.hB.tape, hg.output.trans h.hB.output, Nat.le_trans h.hB.size hg.size, fun i hi => (hk i (by omega)).trans (h.hB.block i hi)⟩
theorem PrS.more {w W W' : World} {B m b3 b4 b5 bx b6 : Nat} {done : List SNode} {r4 : Value} {r5 : Int} (x : SNode) (h : PrS w B m b3 b4 b5 bx b6 done r4 r5 W) (hg : W.grownBy W' (some bx)) (hown : W'.ownsRow w.heap.size 28 3 (.slice (some ⟨bx, 0, none⟩) (done.length + 1) m) (done.length + 1) (cellsN done ++ [.string x.f0, .int .u64 x.f1.f0, .int .u64 x.f1.f1])) :
    PrS w B m b3 b4 b5 bx b6 (done ++ [x]) r4 r5 (W'.setCell ⟨b6, 0, none⟩ (.slice (some ⟨bx, 0, none⟩) (done.length + 1) m)) := by
  have hl := h.lt
  have n3 := h.n3; have n4 := h.n4; have n5 := h.n5; have nx := h.nx; have n6 := h.n6
  have hk : ∀ k, k ≤ w.heap.size + 4 → k ≠ bx → W'.heap[k]? = W.heap[k]? := fun k hk hn => hg.block k (by omega) (fun e => hn (Option.some.inj e))
  have hlen : (done ++ [x]).length = done.length + 1 := by simp
  refine ⟨n3, n4, n5, nx, n6, blk_far ((hk _ (by omega) (by omega)).trans h.h3) (by (try dsimp only); omega) _, blk_far ((hk _ (by omega) (by omega)).trans h.h4) (by (try dsimp only); omega) _, blk_far ((hk _ (by omega) (by omega)).trans h.h5) (by (try dsimp only); omega) _, ?_, ?_, ?_⟩
  · rw [hlen, cellsN_append]
    exact own_keep hown (Below.heap_setCell _ _ _ _ (by (try dsimp only); omega))
  · rw [hlen]
    exact blk_put ((hk _ (by omega) (by omega)).trans h.h6) 0 _ rfl
  · have hB : Below w.heap.size w W' := ⟨hg.os.trans h.hB.os, hg.tape.trans h.hB.tape, hg.output.trans h.hB.output, Nat.le_trans h.hB.size hg.size, fun i hi => (hk i (by omega) (by omega)).trans (h.hB.block i hi)⟩
    exact below_set hB (by (try dsimp only); omega)
theorem PrS.put {w W : World} {B m b3 b4 b5 bx b6 : Nat} {done : List SNode} {r4 : Value} {r5 : Int} (h : PrS w B m b3 b4 b5 bx b6 done r4 r5 W) (v : Value) (e : Int) : PrS w B m b3 b4 b5 bx b6 done v e ((W.setCell ⟨b4, 0, none⟩ v).setCell ⟨b5, 0, none⟩ (.int .i64 e)) := by
  have n3 := h.n3; have n4 := h.n4; have n5 := h.n5; have nx := h.nx; have n6 := h.n6
  exact ⟨n3, n4, n5, nx, n6, blk_far (blk_far h.h3 (by (try dsimp only); omega) _) (by (try dsimp only); omega) _, blk_far (blk_put h.h4 0 _ rfl) (by (try dsimp only); omega) _, blk_put (blk_far h.h5 (by (try dsimp only); omega) _) 0 _ rfl,
    own_keep (own_keep h.own (Below.heap_setCell _ _ _ _ (by (try dsimp only); omega))) (Below.heap_setCell _ _ _ _ (by (try dsimp only); omega)), blk_far (blk_far h.h6 (by (try dsimp only); omega) _) (by (try dsimp only); omega) _, below_set (below_set h.hB (by (try dsimp only); omega)) (by (try dsimp only); omega)⟩
theorem pairs_results (tmps : Array Value) (W : World) (g2 g3 : Nat) (v e : Value) (h4 : tmps.getD 4 undef = .pointer (some ⟨g2, 0, none⟩)) (h5 : tmps.getD 5 undef = .pointer (some ⟨g3, 0, none⟩)) (hg2 : W.heap[g2]? = some (.cells #[v] 22 (0, 0))) (hg3 : W.heap[g3]? = some (.cells #[e] 29 (0, 0))) :
    (results Tryd.f57 tmps).run Tryd.prog W = .ok (.tuple #[v, e]) W := by
  have h4' : tmps[4]?.getD undef = .pointer (some ⟨g2, 0, none⟩) := by simpa using h4
  have h5' : tmps[5]?.getD undef = .pointer (some ⟨g3, 0, none⟩) := by simpa using h5
  have hr : Tryd.f57.results = #[.cell 4 22, .cell 5 29] := rfl
  have hc : W.cell? ⟨g3, 0, none⟩ = some e := blk_cell hg3 0
  have hd : W.cell? ⟨g2, 0, none⟩ = some v := blk_cell hg2 0
  have hu := Tryd.underlying29
  have hu2 := Tryd.underlying22
  have h1 : (loadVar 22 ⟨g2, 0, none⟩).run Tryd.prog W = .ok v W := by go_simp
  have h2 : (loadVar 29 ⟨g3, 0, none⟩).run Tryd.prog W = .ok e W := by go_simp
  simp [results, hr, h4', h5', asAddr, h1, h2]
theorem pairs_retD {w W : World} {B m b3 b4 b5 bx b6 D : Nat} {done : List SNode} {r4 : Value} {r5 : Int} {tmps : Array Value} {R : Ending → World → Prop} (h : PrS w B m b3 b4 b5 bx b6 done r4 r5 W) (hD : w.heap.size + 4 < D) (hdf : W.heap[D]? = some (.deferred (some []))) (h4 : tmps.getD 4 undef = .pointer (some ⟨b4, 0, none⟩)) (h5 : tmps.getD 5 undef = .pointer (some ⟨b5, 0, none⟩))
    (hR : ∀ W', PrS w B m b3 b4 b5 bx b6 done r4 r5 W' → R (.returned (.tuple #[r4, .int .i64 r5])) W') : bodyPostM Fence.wide 3 Tryd.prog Tryd.f57 R .ret { tmps := tmps, defers := [{ target := .collected D, args := #[] }] } W := by
  have n4 := h.n4; have n5 := h.n5
  refine ⟨by simp, .inl ⟨_, _, rfl, run_takeDeferred hdf, ?_⟩⟩
  refine ⟨_, pairs_results _ _ _ _ _ _ h4 h5 ((World.putObj_heap_other (by omega)).trans h.h4) ((World.putObj_heap_other (by omega)).trans h.h5), hR _ ?_⟩
  exact h.keep (fun k hk => World.putObj_heap_other (by omega)) ⟨h.hB.os, h.hB.tape, h.hB.output, by simpa using h.hB.size, fun i hi => (World.putObj_heap_other (by omega)).trans (h.hB.block i hi)⟩
set_option maxRecDepth 100000 in
set_option maxHeartbeats 4000000 in
theorem pairs.calls (wd : Int) (B : Nat) (ad : Addr) (c m : Nat) (xl : List SNode) (w : World) (hK : Laid w) (hB : w.heap[B]? = some (.cells #[.int .i64 wd] 3 (0, 0))) (hl : xl.length = 2 * m) (hm1 : 1 ≤ m) (hm : m ≤ 1000000) (hc : xl.length ≤ c) (hr : Kd.C kNode w (some ad) xl.length xl) (hk : ∀ x ∈ xl, NodeK wd x) :
    Calls Tryd.prog 57 #[.slice (some ad) xl.length c, closV B] w fun e w' => Below w.heap.size w w' ∧
      ((pairsOk xl = true ∧ ∃ g cap, e = .returned (.tuple #[.slice (some ⟨g, 0, none⟩) m cap, .int .i64 0]) ∧ m ≤ cap ∧ Kd.C kNode w' (some ⟨g, 0, none⟩) m (pairsV wd xl)) ∨ (pairsOk xl = false ∧ e = .returned (.tuple #[.slice none 0 0, .int .i64 10]))) := by
  have HR := aM' hr
  have HK := aM' hK
  have HBX := aM' hB
  have HKN := aM' hk
  have HLL := aM' hl
  have HM1 := aM' hm1
  have HM := aM' hm
  have HC := aM' hc
  obtain ⟨i0, hi, hz0, hz1, hz2⟩ := info_parts nodeInfo
  have hhalf : ((xl.length : Int)).tdiv 2 = (m : Int) := by rw [Int.tdiv_eq_ediv_of_nonneg (by omega)]; omega
  have wm : wrap64 (m : Int) = (m : Int) := wrap64_id (by omega) (by omega)
  obtain ⟨cur, hcur, hmk⟩ := make_nodes m hm
  clear hr hK hB hk hl hm1 hm hc
  refine (callsIn_wide (n := 3)).1 ?_
  refine callsIn_of_wp_marks Tryd.func57 rfl trivial ?_ rfl
  simp only [Tryd.ntmps57, List.size_toArray, List.length_cons, List.length_nil, Nat.reduceAdd, Nat.reduceSub, Array.replicate_succ, Array.replicate_zero, List.push_toArray, List.append_toArray, List.nil_append, List.cons_append]
  gi_wp2_with fail
  have hP2 : PrS w B m w.heap.size (w.heap.size + 1) (w.heap.size + 1 + 1) (w.heap.size + 1 + 1 + 1) (w.heap.size + 1 + 1 + 1 + 1) [] (.slice none 0 0) 0 (((((w.alloc (.cells #[closV B] 111)).alloc (.cells #[.slice none 0 0] 22)).alloc (.cells #[.int .i64 0] 29)).alloc (.cells cur 28)).alloc (.cells #[.slice (some ⟨w.heap.size + 1 + 1 + 1, 0, none⟩) 0 m] 22)) := by
    refine ⟨rfl, rfl, rfl, rfl, rfl, blk_alloc (blk_alloc (blk_alloc (blk_alloc (blk_new w _) _) _) _) _, blk_alloc (blk_alloc (blk_alloc ?_ _) _) _, blk_alloc (blk_alloc ?_ _) _, own_keep (w := (((w.alloc (.cells #[closV B] 111)).alloc (.cells #[.slice none 0 0] 22)).alloc (.cells #[.int .i64 0] 29)).alloc (.cells cur 28)) ?_ (Below.heap_alloc _ _ _ (by simp)), ?_, below_alloc (below_alloc (below_alloc (below_alloc (below_alloc (Below.refl _ _) _) _) _) _) _⟩
    · have := blk_new (w.alloc (.cells #[closV B] 111)) (.cells #[.slice none 0 0] 22); rwa [World.size_alloc] at this
    · have := blk_new ((w.alloc (.cells #[closV B] 111)).alloc (.cells #[.slice none 0 0] 22)) (.cells #[.int .i64 0] 29); rwa [World.size_alloc, World.size_alloc] at this
    · have := World.ownsRow_made (base := w.heap.size) (e := 28) (size := 3) (((w.alloc (.cells #[closV B] 111)).alloc (.cells #[.slice none 0 0] 22)).alloc (.cells #[.int .i64 0] 29)) cur m (by simp; omega) (by have := HM.out; unfold maxLen; omega) hcur
      rw [World.size_alloc, World.size_alloc, World.size_alloc] at this
      exact this
    · have := blk_new ((((w.alloc (.cells #[closV B] 111)).alloc (.cells #[.slice none 0 0] 22)).alloc (.cells #[.int .i64 0] 29)).alloc (.cells cur 28)) (.cells #[.slice (some ⟨w.heap.size + 1 + 1 + 1, 0, none⟩) 0 m] 22); rwa [World.size_alloc, World.size_alloc, World.size_alloc, World.size_alloc] at this
  generalize (((((w.alloc (.cells #[closV B] 111)).alloc (.cells #[.slice none 0 0] 22)).alloc (.cells #[.int .i64 0] 29)).alloc (.cells cur 28)).alloc (.cells #[.slice (some ⟨w.heap.size + 1 + 1 + 1, 0, none⟩) 0 m] 22)) = w2 at hP2 ⊢
  clear hmk hcur
  have hnum := hP2.n6
  generalize w.heap.size + 1 + 1 + 1 + 1 = b6 at hP2 ⊢
  generalize w.heap.size + 1 + 1 + 1 = bx at hP2 ⊢
  generalize w.heap.size + 1 + 1 = b5 at hP2 ⊢
  generalize w.heap.size + 1 = b4 at hP2 ⊢
  generalize hb3 : w.heap.size = b3 at hP2 ⊢
  refine ⟨trivial, ?_⟩
  refine (callsIn_wide.2 (chunk.calls (some ad) xl.length c w2)).mono ?_
  rintro e w3 ⟨rfl, hw3⟩
  have hS : w3.heap[w2.heap.size]? = some (.cells #[.slice (some ad) xl.length c] 22 (0, 0)) := by rw [hw3]; exact blk_alloc (blk_new w2 _) _
  have hN : w3.heap[w2.heap.size + 1]? = some (.cells #[.int .i64 2] 3 (0, 0)) := by
    rw [hw3]
    have := blk_new (w2.alloc (.cells #[.slice (some ad) xl.length c] 22)) (.cells #[.int .i64 2] 3)
    rwa [World.size_alloc] at this
  have hP3 : PrS w B m b3 b4 b5 bx b6 [] (.slice none 0 0) 0 w3 := by rw [hw3]; exact hP2.below (below_alloc (below_alloc (Below.refl _ _) _) _)
  have hz3 : w3.heap.size = w2.heap.size + 2 := by rw [hw3]; simp
  have HL2 := aM' hP2.lt
  have HS := aM' hS
  have HN := aM' hN
  have HP3 := aM' hP3
  have HZ := aM' hz3
  have HB3 := aM' hb3
  clear hw3 hS hN hP3 hz3 hP2 hb3 hnum
  gi_wp2_with fail
  refine wpIn_rangeFunc_ownH (α := { j : Nat // j < m }) (n := 3) rfl (by omega) (gf := 133) (lb := #[.pointer (some ⟨w2.heap.size, 0, none⟩), .pointer (some ⟨w2.heap.size + 1, 0, none⟩)]) rfl trivial (enters_of Tryd.func133 (by kernel_rfl) rfl) (encs := fun x => #[chunkV ad x.1]) (Kp := KeepS (fun k => k = w2.heap.size ∨ k = w2.heap.size + 1))
    (S := fun xs => xs.map Subtype.val = List.range m) (Sp := fun pre => True) (N := m) (w0 := w3) ?hseq (fun h k => KeepS.trans h k) ?hKb (Below.refl _ _) (fun _ => rfl)
    (fun pre W => (∀ x ∈ pre, twoOk xl x.1) ∧ PrS w B m b3 b4 b5 bx b6 (pre.map fun x => twoV wd xl x.1) (.slice none 0 0) 0 W ∧ w3.heap.size ≤ W.heap.size)
    (fun c pre W => c = .ret ∧ (∃ x ∈ pre, ¬ twoOk xl x.1) ∧ ∃ done, PrS w B m b3 b4 b5 bx b6 done (.slice none 0 0) 10 W)
    ?hI ?hIx ⟨fun x hx => absurd hx (List.not_mem_nil), HP3.out, Nat.le_refl _⟩
    (fun x a' W => a' = ({ tmps := #[.slice (some ad) xl.length c, closV B, undef, .pointer (some ⟨b3, 0, none⟩), .pointer (some ⟨b4, 0, none⟩), .pointer (some ⟨b5, 0, none⟩), .pointer (some ⟨b6, 0, none⟩), chunkV ad x.1, undef, undef, .slice (some ad) xl.length c, .int .i64 (xl.length : Int), .int .i64 (m : Int), .slice (some ⟨bx, 0, none⟩) 0 m, .slice (some ad) xl.length c, .func (.func 133) #[] #[.pointer (some ⟨w2.heap.size, 0, none⟩), .pointer (some ⟨w2.heap.size + 1, 0, none⟩)], chunkV ad x.1, undef, undef, undef, undef, undef, undef, undef, undef, undef, undef, undef, undef, undef, undef, undef, undef, undef, undef, undef], defers := [] } : Act)) ?hAx ?assign ?body ?done ?stop
  case hKb =>
    intro W l2 o o' hl2 ho hc hw k hk
    have := HZ.out
    exact World.putObj_heap_other (by rcases hk with rfl | rfl <;> omega)
  case hI =>
    rintro s X Y row ⟨h1, h2, h3⟩ hg hr
    exact ⟨h1, h2.grown hg (by rw [HZ.out]; have := HL2.out; omega) (fun r e => (hr r e).1), Nat.le_trans h3 hg.size⟩
  case hIx =>
    rintro c2 s X Y row ⟨rfl, h1, dn, h2⟩ hg hr
    exact ⟨rfl, h1, dn, h2.grown hg (by rw [HZ.out]; have := HL2.out; omega) (fun r e => (hr r e).1)⟩
  case hAx =>
    rintro x a' s X Y row h hg hr
    exact h
  case hseq =>
    intro l2 J Jx W hW hJ hJx hY h0
    refine (chunk1_in 2 (by omega) l2 w2.heap.size (w2.heap.size + 1) W.heap.size ad m xl.length c HLL.out HM.out HC.out (fun k => k = w2.heap.size ∨ k = w2.heap.size + 1) (.inl rfl) (.inr rfl)
      (fun pre W => ∃ pre' : List { j : Nat // j < m }, pre'.map Subtype.val = pre ∧ J pre' W) (fun pre W => ∃ pre' : List { j : Nat // j < m }, pre'.map Subtype.val = pre ∧ Jx pre' W)
      (fun s X Y row ⟨pre', e, h⟩ hg hr => ⟨pre', e, hJ _ _ _ row h hg hr⟩) ?_ W (blk_below HS.out hW) (blk_below HN.out hW) ⟨[], rfl, h0⟩).mono ?_
    · rintro j W1 ⟨pre', e1, hj⟩ hlt
      have hpl : pre'.length = j := by have := congrArg List.length e1; simpa using this
      obtain ⟨fn, tmps, asg, bd, hy, hR⟩ := hY pre' ⟨j, hlt⟩ W1 hj (by omega)
      refine ⟨fn, tmps, asg, bd, hy, hR.mono ?_⟩
      rintro e W2 (⟨rfl, h1, h2⟩ | ⟨rfl, h1⟩)
      · exact .inl ⟨rfl, ⟨_, by rw [List.map_append, e1, List.range_succ]; rfl, h1⟩, h2⟩
      · exact .inr ⟨rfl, ⟨_, by rw [List.map_append, e1, List.range_succ]; rfl, h1⟩⟩
    · rintro e W2 ⟨hv, ⟨ys', e1, h1⟩ | ⟨j, hj, pre', e1, h1⟩⟩
      · exact ⟨hv, .inl ⟨ys', e1, h1⟩⟩
      · exact ⟨hv, .inr ⟨pre', trivial, h1⟩⟩
  case assign =>
    rintro l2 pre x W K hI hK
    gi_wp2
    exact hK _ _ (KeepsFrom.refl _ _) (fun k hk => rfl) hI rfl
  case body =>
    rintro l2 pre ⟨j, hj⟩ a' Wb hl2 - ⟨hok, hP, hz⟩ rfl hlen
    have hjl : 2 * j + 1 < xl.length := by have := HLL.out; omega
    obtain ⟨na, ha⟩ : ∃ na, na = xl.getD (2 * j) zeroN := ⟨_, rfl⟩
    obtain ⟨nb, hb⟩ : ∃ nb, nb = xl.getD (2 * j + 1) zeroN := ⟨_, rfl⟩
    obtain ⟨ap, hap⟩ : ∃ ap, ap = ad.add (2 * j * 3) := ⟨_, rfl⟩
    have hka : NodeK wd na := HKN.out _ (by rw [ha]; have h1 : xl.getD (2 * j) zeroN = xl[2 * j]'(by omega) := (by simp [List.getD_eq_getElem?_getD, show 2 * j < xl.length by omega]); rw [h1]; exact List.getElem_mem _)
    have hkb : NodeK wd nb := HKN.out _ (by rw [hb]; have h1 : xl.getD (2 * j + 1) zeroN = xl[2 * j + 1] := (by simp [List.getD_eq_getElem?_getD, hjl]); rw [h1]; exact List.getElem_mem _)
    have htw : twoV wd xl j = joinV wd na nb := by rw [ha, hb]; rfl
    have hto : twoOk xl j ↔ valU na.f1 + valU nb.f1 < 340282366920938463463374607431768211456 := by rw [ha, hb]; rfl
    have HT := fun (V : World) (hV : Below w.heap.size w V) => two_at' (Kd.C_below HR.out hV) j hjl na nb ha hb ap hap
    have hch : chunkV ad j = .slice (some ap) 2 2 := by rw [hap]; rfl
    have HT := aM' HT
    have HKA := aM' hka
    have HKB := aM' hkb
    have HTW := aM' htw
    have HTO := aM' hto
    have HOK := aM' hok
    have HP := aM' hP
    have HZZ := aM' hz
    have HLEN := aM' hlen
    dsimp only
    rw [hch]
    clear ha hb hap hka hkb htw hto hok hP hz hlen hch hjl
    rcases hjn : joinI wd na nb with ⟨r1, r2, r3, r4⟩
    have HJN := aM' hjn
    clear hjn
    gi_wp2
    refine region_invIn (fun l a W => ∃ γ : Nat, a = ({ tmps := #[.slice (some ad) xl.length c, closV B, undef, .pointer (some ⟨b3, 0, none⟩), .pointer (some ⟨b4, 0, none⟩), .pointer (some ⟨b5, 0, none⟩), .pointer (some ⟨b6, 0, none⟩), .slice (some ap) 2 2, sel (l 11) (.pointer (some ⟨γ, 0, none⟩)) (undef), sel (l 13) (.int .i64 r4) (undef), .slice (some ad) xl.length c, .int .i64 (xl.length : Int), .int .i64 (m : Int), .slice (some ⟨bx, 0, none⟩) 0 m, .slice (some ad) xl.length c, .func (.func 133) #[] #[.pointer (some ⟨w2.heap.size, 0, none⟩), .pointer (some ⟨w2.heap.size + 1, 0, none⟩)], .slice (some ap) 2 2, sel (l 8) (.tuple #[.agg #[.string r1, .int .u64 r2, .int .u64 r3], .int .i64 r4]) (undef), sel (l 0) (closV B) (undef), sel (l 1) (.slice (some ap) 2 2) (undef), sel (l 2) (.pointer (some ap)) (undef), sel (l 3) (.agg #[.string na.f0, .int .u64 na.f1.f0, .int .u64 na.f1.f1]) (undef), sel (l 4) (.slice (some ap) 2 2) (undef), sel (l 5) (.pointer (some (ap.add 3))) (undef), sel (l 6) (.agg #[.string nb.f0, .int .u64 nb.f1.f0, .int .u64 nb.f1.f1]) (undef), sel (l 7) (.tuple #[.agg #[.string r1, .int .u64 r2, .int .u64 r3], .int .i64 r4]) (undef), sel (l 9) (.agg #[.string r1, .int .u64 r2, .int .u64 r3]) (undef), sel (l 10) (.int .i64 r4) (undef), undef, undef, undef, undef, undef, undef, undef, undef], defers := [] } : Act) ∧ Pr4 Wb W ⟨r1, ⟨r2, r3⟩⟩ l γ) 14 rfl rfl (by kernel_rfl) ?h0 ?hend ?hstep
    case h0 => exact ⟨0, rfl, below_drew (Below.refl _ _), (fun h => by cases h), (fun h => by cases h)⟩
    case hstep =>
      refine rg_cons (rg_cons (rg_cons (rg_cons (rg_cons (rg_cons (rg_cons (rg_cons (rg_cons (rg_cons (rg_cons (rg_cons (rg_cons (rg_cons (rg_nil) ?s0) ?s1) ?s2) ?s3) ?s4) ?s5) ?s6) ?s7) ?s8) ?s9) ?s10) ?s11) ?s12) ?s13
      case s0 =>
        refine rgi_step rfl ?_
        rintro l a W ⟨γ, rfl, hI⟩ hl hd
        clear hd
        have x0 := blk_cell ((HP.out.below hI.hB).h3) 0
        simp at x0
        refine rgi_val (v := closV B) (w' := W) (fun _ => trivial) rfl (fun _ h => by cases h) (by go_simp) ?_
        refine ⟨γ, ?_, ?_⟩
        · simp only [Act.put, List.setIfInBounds_toArray, List.set_cons_zero, List.set_cons_succ]; rfl
        · exact hI.other _ (by decide) (by decide) (Below.refl _ _)
      case s1 =>
        refine rgi_step rfl ?_
        rintro l a W ⟨γ, rfl, hI⟩ hl hd
        clear hd
        refine rgi_val (v := .slice (some ap) 2 2) (w' := W) (fun _ => trivial) rfl (fun _ h => by cases h) (by go_simp) ?_
        refine ⟨γ, ?_, ?_⟩
        · simp only [Act.put, List.setIfInBounds_toArray, List.set_cons_zero, List.set_cons_succ]; rfl
        · exact hI.other _ (by decide) (by decide) (Below.refl _ _)
      case s2 =>
        refine rgi_step rfl ?_
        rintro l a W ⟨γ, rfl, hI⟩ hl hd
        have d1 := hd 1 (by decide)
        clear hd
        refine rgi_val (v := .pointer (some ap)) (w' := W) (fun _ => trivial) rfl (fun _ h => by cases h) (by go_simp) ?_
        refine ⟨γ, ?_, ?_⟩
        · simp only [Act.put, List.setIfInBounds_toArray, List.set_cons_zero, List.set_cons_succ]; rfl
        · exact hI.other _ (by decide) (by decide) (Below.refl _ _)
      case s3 =>
        refine rgi_step rfl ?_
        rintro l a W ⟨γ, rfl, hI⟩ hl hd
        have d2 := hd 2 (by decide)
        clear hd
        obtain ⟨⟨x0, x1, x2⟩, y0, y1, y2⟩ := HT.out W (HP.out.hB.trans (hI.hB.mono HP.out.hB.size))
        refine rgi_val (v := .agg #[.string na.f0, .int .u64 na.f1.f0, .int .u64 na.f1.f1]) (w' := W) (fun _ => trivial) rfl (fun _ h => by cases h) (by go_simp) ?_
        refine ⟨γ, ?_, ?_⟩
        · simp only [Act.put, List.setIfInBounds_toArray, List.set_cons_zero, List.set_cons_succ]; rfl
        · exact hI.other _ (by decide) (by decide) (Below.refl _ _)
      case s4 =>
        refine rgi_step rfl ?_
        rintro l a W ⟨γ, rfl, hI⟩ hl hd
        clear hd
        refine rgi_val (v := .slice (some ap) 2 2) (w' := W) (fun _ => trivial) rfl (fun _ h => by cases h) (by go_simp) ?_
        refine ⟨γ, ?_, ?_⟩
        · simp only [Act.put, List.setIfInBounds_toArray, List.set_cons_zero, List.set_cons_succ]; rfl
        · exact hI.other _ (by decide) (by decide) (Below.refl _ _)
      case s5 =>
        refine rgi_step rfl ?_
        rintro l a W ⟨γ, rfl, hI⟩ hl hd
        have d4 := hd 4 (by decide)
        clear hd
        refine rgi_val (v := .pointer (some (ap.add 3))) (w' := W) (fun _ => trivial) rfl (fun _ h => by cases h) (by go_simp) ?_
        refine ⟨γ, ?_, ?_⟩
        · simp only [Act.put, List.setIfInBounds_toArray, List.set_cons_zero, List.set_cons_succ]; rfl
        · exact hI.other _ (by decide) (by decide) (Below.refl _ _)
      case s6 =>
        refine rgi_step rfl ?_
        rintro l a W ⟨γ, rfl, hI⟩ hl hd
        have d5 := hd 5 (by decide)
        clear hd
        obtain ⟨⟨x0, x1, x2⟩, y0, y1, y2⟩ := HT.out W (HP.out.hB.trans (hI.hB.mono HP.out.hB.size))
        refine rgi_val (v := .agg #[.string nb.f0, .int .u64 nb.f1.f0, .int .u64 nb.f1.f1]) (w' := W) (fun _ => trivial) rfl (fun _ h => by cases h) (by go_simp) ?_
        refine ⟨γ, ?_, ?_⟩
        · simp only [Act.put, List.setIfInBounds_toArray, List.set_cons_zero, List.set_cons_succ]; rfl
        · exact hI.other _ (by decide) (by decide) (Below.refl _ _)
      case s7 =>
        refine rgi_step rfl ?_
        rintro l a W ⟨γ, rfl, hI⟩ hl hd
        have d0 := hd 0 (by decide)
        have d3 := hd 3 (by decide)
        have d6 := hd 6 (by decide)
        clear hd
        refine rgi_call (fun _ => trivial) rfl rfl (fun _ h => by cases h) (by go_simp; exact ⟨rfl, rfl⟩) ?_
        refine (CallsIn.inRound l2 (callsIn_wide.2 (fold1.calls wd B na nb W (blk_below HBX.out (HP.out.hB.trans (hI.hB.mono HP.out.hB.size))) (HK.out.below (HP.out.hB.trans (hI.hB.mono HP.out.hB.size))) HKA.out.u HKB.out.u))).mono ?_
        rintro x W' ⟨rfl, hb⟩
        rw [HJN.out]
        refine ⟨_, rfl, γ, ?_, ?_⟩
        · simp only [Act.put, List.setIfInBounds_toArray, List.set_cons_zero, List.set_cons_succ]; rfl
        · exact hI.other 7 (by decide) (by decide) hb
      case s8 =>
        refine rgi_step rfl ?_
        rintro l a W ⟨γ, rfl, hI⟩ hl hd
        have d7 := hd 7 (by decide)
        clear hd
        refine rgi_val (v := .tuple #[.agg #[.string r1, .int .u64 r2, .int .u64 r3], .int .i64 r4]) (w' := W) (fun _ => trivial) rfl (fun _ h => by cases h) (by go_simp) ?_
        refine ⟨γ, ?_, ?_⟩
        · simp only [Act.put, List.setIfInBounds_toArray, List.set_cons_zero, List.set_cons_succ]; rfl
        · exact hI.other _ (by decide) (by decide) (Below.refl _ _)
      case s9 =>
        refine rgi_step rfl ?_
        rintro l a W ⟨γ, rfl, hI⟩ hl hd
        have d8 := hd 8 (by decide)
        clear hd
        refine rgi_val (v := .agg #[.string r1, .int .u64 r2, .int .u64 r3]) (w' := W) (fun _ => trivial) rfl (fun _ h => by cases h) (by go_simp) ?_
        refine ⟨γ, ?_, ?_⟩
        · simp only [Act.put, List.setIfInBounds_toArray, List.set_cons_zero, List.set_cons_succ]; rfl
        · exact hI.other _ (by decide) (by decide) (Below.refl _ _)
      case s10 =>
        refine rgi_step rfl ?_
        rintro l a W ⟨γ, rfl, hI⟩ hl hd
        have d8 := hd 8 (by decide)
        clear hd
        refine rgi_val (v := .int .i64 r4) (w' := W) (fun _ => trivial) rfl (fun _ h => by cases h) (by go_simp) ?_
        refine ⟨γ, ?_, ?_⟩
        · simp only [Act.put, List.setIfInBounds_toArray, List.set_cons_zero, List.set_cons_succ]; rfl
        · exact hI.other _ (by decide) (by decide) (Below.refl _ _)
      case s11 =>
        refine rgi_step rfl ?_
        rintro l a W ⟨γ, rfl, hI⟩ hl hd
        clear hd
        refine rgi_val (v := .pointer (some ⟨W.heap.size, 0, none⟩)) (w' := W.alloc (.cells #[.string ⟨#[]⟩, .int .u64 0, .int .u64 0] 28 (0, 0))) (fun _ => trivial) rfl (fun _ h => by cases h) (by go_simp) ?_
        refine ⟨W.heap.size, ?_, ?_⟩
        · simp only [Act.put, List.setIfInBounds_toArray, List.set_cons_zero, List.set_cons_succ]; rfl
        · exact hI.alloc hl
      case s12 =>
        refine rgi_step rfl ?_
        rintro l a W ⟨γ, rfl, hI⟩ hl hd
        have d11 := hd 11 (by decide)
        have d9 := hd 9 (by decide)
        clear hd
        have hg := (hI.hg d11).2
        rw [show l 12 = false from hl, if_neg (by decide)] at hg
        have y0 := blk_cell hg 0
        have y1 := blk_cell hg 1
        have y2 := blk_cell hg 2
        have yf := fun i => blk_frozen hg i
        simp at y0 y1 y2
        refine rgi_skip (fun _ => trivial) rfl (fun _ h => by cases h) (by go_simp; rfl) ?_
        refine ⟨γ, ?_, ?_⟩
        · simp only [Act.put, List.setIfInBounds_toArray, List.set_cons_zero, List.set_cons_succ]; rfl
        · exact hI.store d11 hl
      case s13 =>
        refine rgi_step rfl ?_
        rintro l a W ⟨γ, rfl, hI⟩ hl hd
        have d10 := hd 10 (by decide)
        clear hd
        refine rgi_val (v := .int .i64 r4) (w' := W) (fun _ => trivial) rfl (fun _ h => by cases h) (by go_simp) ?_
        refine ⟨γ, ?_, ?_⟩
        · simp only [Act.put, List.setIfInBounds_toArray, List.set_cons_zero, List.set_cons_succ]; rfl
        · exact hI.other _ (by decide) (by decide) (Below.refl _ _)
    case hend =>
      rintro l a W ⟨γ, rfl, hI⟩ hall
      have e0 := hall 0 (by decide)
      have e1 := hall 1 (by decide)
      have e2 := hall 2 (by decide)
      have e3 := hall 3 (by decide)
      have e4 := hall 4 (by decide)
      have e5 := hall 5 (by decide)
      have e6 := hall 6 (by decide)
      have e7 := hall 7 (by decide)
      have e8 := hall 8 (by decide)
      have e9 := hall 9 (by decide)
      have e10 := hall 10 (by decide)
      have e11 := hall 11 (by decide)
      have e12 := hall 12 (by decide)
      have e13 := hall 13 (by decide)
      clear hall
      have hD := hI.hg e11
      rw [if_pos e12] at hD
      obtain ⟨hγ, hγc⟩ := hD
      have hBb := hI.hB
      have hP5 := HP.out.below hBb
      have HBb := aM' hBb
      have HP5 := aM' hP5
      have HG := aM' hγ
      have HGC := aM' hγc
      clear hI hγ hγc hBb hP5 HP
      simp only [e0, e1, e2, e3, e4, e5, e6, e7, e8, e9, e10, e11, e12, e13, sel_true]
      clear e0 e1 e2 e3 e4 e5 e6 e7 e8 e9 e10 e11 e12 e13
      obtain ⟨dn, hdn⟩ : ∃ dn, (pre.map fun x => twoV wd xl x.1) = dn := ⟨_, rfl⟩
      rw [hdn] at HP5
      have hdl : dn.length = pre.length := by rw [← hdn]; simp
      have HDN := aM' hdn
      have HDL := aM' hdl
      have hnx := HP5.out.nx
      have hn6 := HP5.out.n6
      have hn4 := HP5.out.n4
      have hn5 := HP5.out.n5
      have hlt := HP5.out.lt
      have hl2 := HL2.out
      have hbz := HBb.out.size
      have hzz := HZZ.out
      have hz2 := HZ.out
      have hfar : ∀ k, (k = w2.heap.size ∨ k = w2.heap.size + 1) → k < Wb.heap.size ∧ k ≠ bx ∧ k ≠ b6 ∧ k ≠ b4 ∧ k ≠ b5 := by rintro k (rfl | rfl) <;> omega
      have HFAR := aM' hfar
      have HNX := aM' (show bx < w3.heap.size ∧ b6 < w3.heap.size ∧ b4 < w3.heap.size ∧ b5 < w3.heap.size ∧ bx < W.heap.size ∧ b6 < W.heap.size ∧ b6 ≠ bx from ⟨by omega, by omega, by omega, by omega, by omega, by omega, by omega⟩)
      have y6 : W.cell? ⟨b6, 0, none⟩ = some (.slice (some ⟨bx, 0, none⟩) dn.length m) := blk_cell HP5.out.h6 0
      have y0 : W.cell? ⟨γ, 0, none⟩ = some (.string r1) := blk_cell HGC.out 0
      have y1 : W.cell? ⟨γ, 1, none⟩ = some (.int .u64 r2) := blk_cell HGC.out 1
      have y2 : W.cell? ⟨γ, 2, none⟩ = some (.int .u64 r3) := blk_cell HGC.out 2
      clear hnx hn6 hn4 hn5 hlt hl2 hbz hzz hz2 hfar hdn hdl
      by_cases h0 : r4 = 0
      · subst h0
        have hroom : valU na.f1 + valU nb.f1 < 340282366920938463463374607431768211456 := by
          rcases Int.lt_or_le (valU na.f1 + valU nb.f1) 340282366920938463463374607431768211456 with h | h
          · exact h
          · have := joinI_full HKA.out HKB.out (by omega)
            rw [HJN.out] at this
            simp at this
        have hjv : (⟨r1, ⟨r2, r3⟩⟩ : SNode) = joinV wd na nb := by
          have := joinI_room HKA.out HKB.out hroom
          rw [HJN.out] at this
          simp only [Prod.mk.injEq] at this
          obtain ⟨e1, e2, e3, -⟩ := this
          rw [e1, e2, e3]
        have HRM := aM' hroom
        have HJV := aM' hjv
        clear hroom hjv
        gi_upto_region 7 with (fail)
        refine wpIn_region_list ?_
        refine li_val (v := .slice (some ⟨bx, 0, none⟩) dn.length m) (w' := W) rfl (fun _ => trivial) (fun _ h => by cases h) (by go_simp; done) ?_
        refine li_val (v := .agg #[.string r1, .int .u64 r2, .int .u64 r3]) (w' := W) rfl (fun _ => trivial) (fun _ h => by cases h) (by go_simp; done) ?_
        refine li_val (v := .slice (some ⟨W.heap.size, 0, none⟩) 1 1) (w' := W.alloc (.cells #[.string r1, .int .u64 r2, .int .u64 r3] 28 (0, 0))) rfl (fun _ => trivial) (fun _ h => by cases h) (by go_simp; done) ?_
        refine wpListIn_append_fits _ rfl _ _ 22 rfl w.heap.size 28 i0 3 Tryd.underlying22 hi hz1 bx dn.length m (cellsN dn) rfl ?own ⟨W.heap.size, 0, none⟩ 1 1 [.string r1, .int .u64 r2, .int .u64 r3] rfl rfl ?cells ?one ?room ?_
        (case own => exact own_keep HP5.out.own (Below.heap_alloc _ _ _ HNX.out.2.2.2.2.1))
        (case cells => exact World.news_of_block (blk_new W _))
        (case one => intro u hu; simp at hu; rcases hu with rfl | rfl | rfl <;> rfl)
        (case room => have h1 := HLEN.out; have h2 := HDL.out; omega)
        intro w7 hown hgr
        have HOWN := aM' hown
        have HGR := aM' hgr
        have hz6 := (hgr.block b6 (by rw [World.size_alloc]; exact Nat.lt_succ_of_lt HNX.out.2.2.2.2.2.1) (fun e => HNX.out.2.2.2.2.2.2 (Option.some.inj e))).trans (blk_alloc HP5.out.h6 _)
        have z6 : w7.cell? ⟨b6, 0, none⟩ = some (.slice (some ⟨bx, 0, none⟩) dn.length m) := blk_cell hz6 0
        have zf : ∀ i, w7.frozen? ⟨b6, i, none⟩ = false := fun i => blk_frozen hz6 i
        clear hown hgr hz6
        refine li_skip (w' := w7.setCell ⟨b6, 0, none⟩ (.slice (some ⟨bx, 0, none⟩) (dn.length + 1) m)) rfl (fun _ => trivial) (fun _ h => by cases h) (by go_simp; first | done | rfl) ?_
        gi_wp2
        have hend := bar_trans (bar_alloc (bar_below HBb.out bx) (.cells #[.string r1, .int .u64 r2, .int .u64 r3] 28)) HGR.out
        refine ⟨(KeepsFrom.of_grownBy hend (fun j e => by have := Option.some.inj e; have := HNX.out; omega)).trans (KeepsFrom.of_grownBy (grownBy_setCell' _ b6 _) (fun j e => by have := Option.some.inj e; have := HNX.out; omega)), ?_, ?_, ?_, ?_⟩
        · intro k hk
          have hf := HFAR.out k hk
          exact (Below.heap_setCell _ _ _ _ hf.2.2.1).trans (hend.block k hf.1 (fun e => hf.2.1 (Option.some.inj e)))
        · intro y hy
          rcases List.mem_append.1 hy with hy | hy
          · exact HOK.out y hy
          · obtain rfl := List.mem_singleton.1 hy
            exact HTO.out.2 HRM.out
        · have hm := (HP5.out.below (below_alloc (Below.refl _ _) (.cells #[.string r1, .int .u64 r2, .int .u64 r3] 28))).more ⟨r1, ⟨r2, r3⟩⟩ HGR.out HOWN.out
          rw [List.map_append, HDN.out]
          have hx : (List.map (fun x : { j : Nat // j < m } => twoV wd xl x.1) [⟨j, hj⟩]) = [⟨r1, ⟨r2, r3⟩⟩] := by rw [HJV.out, ← HTW.out]; rfl
          rw [hx]
          exact hm
        · exact Nat.le_trans HZZ.out (Nat.le_trans hend.size (by simp))
      · have b1 : (r4 != 0) = true := by simp [h0]
        have hroom : ¬ valU na.f1 + valU nb.f1 < 340282366920938463463374607431768211456 := fun h => by
          have := joinI_room HKA.out HKB.out h
          rw [HJN.out] at this
          simp only [Prod.mk.injEq] at this
          exact h0 this.2.2.2
        have h10 : r4 = 10 := by
          have := joinI_full HKA.out HKB.out hroom
          rw [HJN.out] at this
          simp only [Prod.mk.injEq] at this
          exact this.2.2.2
        have HRM := aM' hroom
        clear hroom
        have y4 : W.cell? ⟨b4, 0, none⟩ = some (.slice none 0 0) := blk_cell HP5.out.h4 0
        have f4 : ∀ i, W.frozen? ⟨b4, i, none⟩ = false := fun i => blk_frozen HP5.out.h4 i
        have y5 : W.cell? ⟨b5, 0, none⟩ = some (.int .i64 0) := blk_cell HP5.out.h5 0
        have f5 : ∀ i, W.frozen? ⟨b5, i, none⟩ = false := fun i => blk_frozen HP5.out.h5 i
        have n45 : b5 ≠ b4 := by have h1 := HP5.out.n4; have h2 := HP5.out.n5; omega
        gi_wp2
        refine ⟨(KeepsFrom.of_grownBy (bar_set (bar_below HBb.out b4) (a := ⟨b4, 0, none⟩) (.inl rfl)) (fun j e => by have := Option.some.inj e; have := HNX.out; omega)).trans (KeepsFrom.of_grownBy (grownBy_setCell' _ b5 _) (fun j e => by have := Option.some.inj e; have := HNX.out; omega)), rfl, ⟨j, ⟨hj, by simp⟩, fun h => absurd (HTO.out.1 h) (by have := HRM.out; omega)⟩, dn, by first | exact HP5.out.put _ 10 | (rw [h10]; exact HP5.out.put _ 10)⟩
  case done =>
    rintro D xs W hD hxs ⟨hok, hP, hz⟩ hdf
    have hdn : (xs.map fun x => twoV wd xl x.1) = pairsV wd xl := by
      rw [pairsV_range wd m xl HLL.out, ← hxs, List.map_map]; rfl
    have hpo : pairsOk xl = true := (pairsOk_range m xl HLL.out).2 (fun j hj => by
      have h1 : j ∈ xs.map Subtype.val := by rw [hxs]; exact List.mem_range.2 hj
      obtain ⟨x, hx, rfl⟩ := List.mem_map.1 h1
      exact hok x hx)
    rw [hdn] at hP
    have hlen : (pairsV wd xl).length = m := pairsV_len wd m xl HLL.out
    obtain ⟨dn, hdd⟩ : ∃ dn, pairsV wd xl = dn := ⟨_, rfl⟩
    rw [hdd] at hP hlen
    have HDD := aM' hdd
    clear hdd
    have y6 : W.cell? ⟨b6, 0, none⟩ = some (.slice (some ⟨bx, 0, none⟩) dn.length m) := blk_cell hP.h6 0
    have y4 : W.cell? ⟨b4, 0, none⟩ = some (.slice none 0 0) := blk_cell hP.h4 0
    have f4 : ∀ i, W.frozen? ⟨b4, i, none⟩ = false := fun i => blk_frozen hP.h4 i
    have y5 : W.cell? ⟨b5, 0, none⟩ = some (.int .i64 0) := blk_cell hP.h5 0
    have f5 : ∀ i, W.frozen? ⟨b5, i, none⟩ = false := fun i => blk_frozen hP.h5 i
    have h4 := hP.n4
    have h5 := hP.n5
    have n45 : b5 ≠ b4 := by omega
    have hDn : w.heap.size + 4 < D := by have := HZ.out; have := HL2.out; omega
    have HP := aM' hP
    have HDF := aM' hdf
    have HPO := aM' hpo
    have HLEN := aM' hlen
    have HDN := aM' hDn
    have H45 := aM' (show D ≠ b4 ∧ D ≠ b5 from ⟨by omega, by omega⟩)
    clear hok hP hz hdf hdn hpo hxs hD hlen h4 h5 hDn
    gi_wp2
    refine pairs_retD (HP.out.put (.slice (some ⟨bx, 0, none⟩) dn.length m) 0) HDN.out ((Below.heap_setCell _ _ _ _ H45.out.2).trans ((Below.heap_setCell _ _ _ _ H45.out.1).trans HDF.out)) rfl rfl (fun W' h => ⟨h.hB, .inl ⟨HPO.out, bx, m, ?_, Nat.le_refl _, ?_⟩⟩)
    · rw [HLEN.out]
    · have := (ownNodes_C h.own).2.2
      rw [HLEN.out] at this
      rw [HDD.out]
      exact this
  case stop =>
    rintro D c2 pre W hD - ⟨rfl, ⟨x, hx, hno⟩, dn, hP⟩ hdf
    have hpo : pairsOk xl = false := by
      cases h : pairsOk xl with
      | false => rfl
      | true => exact absurd ((pairsOk_range m xl HLL.out).1 h x.1 x.2) hno
    have hDn : w.heap.size + 4 < D := by have := HZ.out; have := HL2.out; omega
    have HP := aM' hP
    have HDF := aM' hdf
    have HPO := aM' hpo
    have HDN := aM' hDn
    clear hno hP hdf hpo hDn
    gi_wp2
    exact pairs_retD HP.out HDN.out HDF.out rfl rfl (fun W' h => ⟨h.hB, .inr ⟨HPO.out, rfl⟩⟩)
end Go.Proofs.YtijfifphcchbbaaDoor.P
namespace Go.Proofs.YtijfifphcchbbaaDoor.P
open Go.RowKit Go.Proofs.YtijfifphcchbbaaDoorW.PrintWords Go.Proofs.YtijfifphcchbbaaDoorW.PrintLast Go.Proofs.YtijfifphcchbbaaDoorW.PrintMore
set_option linter.unusedVariables false
set_option linter.unusedSimpArgs false
set_option linter.unnecessarySimpa false
def onesI (a0 : Int) : Int := (Go.bits .and .i64 (wrap64 (IntKind.u64.wrap ((IntKind.u64.wrap ((IntKind.u64.wrap ((Go.bits .and .u64 (IntKind.u64.wrap (((IntKind.u64.wrap ((Go.bits .and .u64 ((IntKind.u64.wrap ((Go.bits .and .u64 (a0 / 2) 6148914691236517205) + (Go.bits .and .u64 a0 6148914691236517205))) / 4) 3689348814741910323) + (Go.bits .and .u64 (IntKind.u64.wrap ((Go.bits .and .u64 (a0 / 2) 6148914691236517205) + (Go.bits .and .u64 a0 6148914691236517205))) 3689348814741910323))) / 16) + (IntKind.u64.wrap ((Go.bits .and .u64 ((IntKind.u64.wrap ((Go.bits .and .u64 (a0 / 2) 6148914691236517205) + (Go.bits .and .u64 a0 6148914691236517205))) / 4) 3689348814741910323) + (Go.bits .and .u64 (IntKind.u64.wrap ((Go.bits .and .u64 (a0 / 2) 6148914691236517205) + (Go.bits .and .u64 a0 6148914691236517205))) 3689348814741910323))))) 1085102592571150095) + ((Go.bits .and .u64 (IntKind.u64.wrap (((IntKind.u64.wrap ((Go.bits .and .u64 ((IntKind.u64.wrap ((Go.bits .and .u64 (a0 / 2) 6148914691236517205) + (Go.bits .and .u64 a0 6148914691236517205))) / 4) 3689348814741910323) + (Go.bits .and .u64 (IntKind.u64.wrap ((Go.bits .and .u64 (a0 / 2) 6148914691236517205) + (Go.bits .and .u64 a0 6148914691236517205))) 3689348814741910323))) / 16) + (IntKind.u64.wrap ((Go.bits .and .u64 ((IntKind.u64.wrap ((Go.bits .and .u64 (a0 / 2) 6148914691236517205) + (Go.bits .and .u64 a0 6148914691236517205))) / 4) 3689348814741910323) + (Go.bits .and .u64 (IntKind.u64.wrap ((Go.bits .and .u64 (a0 / 2) 6148914691236517205) + (Go.bits .and .u64 a0 6148914691236517205))) 3689348814741910323))))) 1085102592571150095) / 256))) + ((IntKind.u64.wrap ((Go.bits .and .u64 (IntKind.u64.wrap (((IntKind.u64.wrap ((Go.bits .and .u64 ((IntKind.u64.wrap ((Go.bits .and .u64 (a0 / 2) 6148914691236517205) + (Go.bits .and .u64 a0 6148914691236517205))) / 4) 3689348814741910323) + (Go.bits .and .u64 (IntKind.u64.wrap ((Go.bits .and .u64 (a0 / 2) 6148914691236517205) + (Go.bits .and .u64 a0 6148914691236517205))) 3689348814741910323))) / 16) + (IntKind.u64.wrap ((Go.bits .and .u64 ((IntKind.u64.wrap ((Go.bits .and .u64 (a0 / 2) 6148914691236517205) + (Go.bits .and .u64 a0 6148914691236517205))) / 4) 3689348814741910323) + (Go.bits .and .u64 (IntKind.u64.wrap ((Go.bits .and .u64 (a0 / 2) 6148914691236517205) + (Go.bits .and .u64 a0 6148914691236517205))) 3689348814741910323))))) 1085102592571150095) + ((Go.bits .and .u64 (IntKind.u64.wrap (((IntKind.u64.wrap ((Go.bits .and .u64 ((IntKind.u64.wrap ((Go.bits .and .u64 (a0 / 2) 6148914691236517205) + (Go.bits .and .u64 a0 6148914691236517205))) / 4) 3689348814741910323) + (Go.bits .and .u64 (IntKind.u64.wrap ((Go.bits .and .u64 (a0 / 2) 6148914691236517205) + (Go.bits .and .u64 a0 6148914691236517205))) 3689348814741910323))) / 16) + (IntKind.u64.wrap ((Go.bits .and .u64 ((IntKind.u64.wrap ((Go.bits .and .u64 (a0 / 2) 6148914691236517205) + (Go.bits .and .u64 a0 6148914691236517205))) / 4) 3689348814741910323) + (Go.bits .and .u64 (IntKind.u64.wrap ((Go.bits .and .u64 (a0 / 2) 6148914691236517205) + (Go.bits .and .u64 a0 6148914691236517205))) 3689348814741910323))))) 1085102592571150095) / 256))) / 65536))) + ((IntKind.u64.wrap ((IntKind.u64.wrap ((Go.bits .and .u64 (IntKind.u64.wrap (((IntKind.u64.wrap ((Go.bits .and .u64 ((IntKind.u64.wrap ((Go.bits .and .u64 (a0 / 2) 6148914691236517205) + (Go.bits .and .u64 a0 6148914691236517205))) / 4) 3689348814741910323) + (Go.bits .and .u64 (IntKind.u64.wrap ((Go.bits .and .u64 (a0 / 2) 6148914691236517205) + (Go.bits .and .u64 a0 6148914691236517205))) 3689348814741910323))) / 16) + (IntKind.u64.wrap ((Go.bits .and .u64 ((IntKind.u64.wrap ((Go.bits .and .u64 (a0 / 2) 6148914691236517205) + (Go.bits .and .u64 a0 6148914691236517205))) / 4) 3689348814741910323) + (Go.bits .and .u64 (IntKind.u64.wrap ((Go.bits .and .u64 (a0 / 2) 6148914691236517205) + (Go.bits .and .u64 a0 6148914691236517205))) 3689348814741910323))))) 1085102592571150095) + ((Go.bits .and .u64 (IntKind.u64.wrap (((IntKind.u64.wrap ((Go.bits .and .u64 ((IntKind.u64.wrap ((Go.bits .and .u64 (a0 / 2) 6148914691236517205) + (Go.bits .and .u64 a0 6148914691236517205))) / 4) 3689348814741910323) + (Go.bits .and .u64 (IntKind.u64.wrap ((Go.bits .and .u64 (a0 / 2) 6148914691236517205) + (Go.bits .and .u64 a0 6148914691236517205))) 3689348814741910323))) / 16) + (IntKind.u64.wrap ((Go.bits .and .u64 ((IntKind.u64.wrap ((Go.bits .and .u64 (a0 / 2) 6148914691236517205) + (Go.bits .and .u64 a0 6148914691236517205))) / 4) 3689348814741910323) + (Go.bits .and .u64 (IntKind.u64.wrap ((Go.bits .and .u64 (a0 / 2) 6148914691236517205) + (Go.bits .and .u64 a0 6148914691236517205))) 3689348814741910323))))) 1085102592571150095) / 256))) + ((IntKind.u64.wrap ((Go.bits .and .u64 (IntKind.u64.wrap (((IntKind.u64.wrap ((Go.bits .and .u64 ((IntKind.u64.wrap ((Go.bits .and .u64 (a0 / 2) 6148914691236517205) + (Go.bits .and .u64 a0 6148914691236517205))) / 4) 3689348814741910323) + (Go.bits .and .u64 (IntKind.u64.wrap ((Go.bits .and .u64 (a0 / 2) 6148914691236517205) + (Go.bits .and .u64 a0 6148914691236517205))) 3689348814741910323))) / 16) + (IntKind.u64.wrap ((Go.bits .and .u64 ((IntKind.u64.wrap ((Go.bits .and .u64 (a0 / 2) 6148914691236517205) + (Go.bits .and .u64 a0 6148914691236517205))) / 4) 3689348814741910323) + (Go.bits .and .u64 (IntKind.u64.wrap ((Go.bits .and .u64 (a0 / 2) 6148914691236517205) + (Go.bits .and .u64 a0 6148914691236517205))) 3689348814741910323))))) 1085102592571150095) + ((Go.bits .and .u64 (IntKind.u64.wrap (((IntKind.u64.wrap ((Go.bits .and .u64 ((IntKind.u64.wrap ((Go.bits .and .u64 (a0 / 2) 6148914691236517205) + (Go.bits .and .u64 a0 6148914691236517205))) / 4) 3689348814741910323) + (Go.bits .and .u64 (IntKind.u64.wrap ((Go.bits .and .u64 (a0 / 2) 6148914691236517205) + (Go.bits .and .u64 a0 6148914691236517205))) 3689348814741910323))) / 16) + (IntKind.u64.wrap ((Go.bits .and .u64 ((IntKind.u64.wrap ((Go.bits .and .u64 (a0 / 2) 6148914691236517205) + (Go.bits .and .u64 a0 6148914691236517205))) / 4) 3689348814741910323) + (Go.bits .and .u64 (IntKind.u64.wrap ((Go.bits .and .u64 (a0 / 2) 6148914691236517205) + (Go.bits .and .u64 a0 6148914691236517205))) 3689348814741910323))))) 1085102592571150095) / 256))) / 65536))) / 4294967296)))) 127)
set_option maxHeartbeats 8000000 in
set_option maxRecDepth 100000 in
theorem ones64.calls (a0 : Int) (w : World) : Calls Tryd.prog 100 #[.int .u64 a0] w fun e w' => e = .returned (.int .i64 (onesI a0)) ∧ Drawn0 w w' := by
 unfold onesI
 go_enter Tryd.func100, Tryd.ntmps100
 go_wp2
 go_ret
 exact ⟨by first | rfl | (simp; done) | (simp [*]; done), by repeat (first | exact Drawn0.refl _ | apply Drawn0.step)⟩
theorem ones.calls (a0 : Int) (w : World) : Calls Tryd.prog 56 #[.int .u64 a0] w fun e w' => e = .returned (.int .i64 (onesI a0)) ∧ Drawn0 w w' := by
 obtain ⟨r, hr⟩ : ∃ r, onesI a0 = r := ⟨_, rfl⟩
 rw [hr]
 go_enter Tryd.func56, Tryd.ntmps56
 go_wp2_with fail
 refine (ones64.calls a0 _).mono ?_
 rw [hr]
 rintro e w1 ⟨rfl, hb⟩
 go_wp2
 go_ret
 exact ⟨rfl, hb⟩
theorem ones_all : ∀ n ∈ List.range 301, (onesI (n : Int) != 1) = !isPow n := by decide +kernel
theorem ones_pow (n : Nat) (h : n ≤ 300) : (onesI (n : Int) != 1) = !isPow n := ones_all n (List.mem_range.2 (by omega))
end Go.Proofs.YtijfifphcchbbaaDoor.P
namespace Go.Proofs.YtijfifphcchbbaaDoor.P
open Go.RowKit Go.Proofs.YtijfifphcchbbaaDoorW.PrintWords Go.Proofs.YtijfifphcchbbaaDoorW.PrintLast Go.Proofs.YtijfifphcchbbaaDoorW.PrintMore
set_option linter.unusedVariables false
set_option linter.unusedSimpArgs false
set_option linter.unnecessarySimpa false
def stepV (w : Int) (n : SNode) (x : SNode × Bool) : SNode := if x.2 then joinV w n x.1 else joinV w x.1 n
def climbV (w : Int) : SNode → List (SNode × Bool) → SNode
 | n, [] => n
 | n, x :: xs => climbV w (stepV w n x) xs
theorem stepV_val (w : Int) (n : SNode) (x : SNode × Bool) : valU (stepV w n x).f1 = valU n.f1 + valU x.1.f1 := by
 unfold stepV; split <;> rw [joinV_val]; omega
theorem stepV_k {w : Int} {n : SNode} {x : SNode × Bool} (hn : NodeK w n) (hx : NodeK w x.1) (h : valU n.f1 + valU x.1.f1 < 340282366920938463463374607431768211456) : NodeK w (stepV w n x) := by
 unfold stepV; split
 ·
  exact joinV_k hn hx h
 ·
  exact joinV_k hx hn (by omega)
theorem stepI_room {w : Int} {n : SNode} {x : SNode × Bool} (hn : NodeK w n) (hx : NodeK w x.1) (h : valU n.f1 + valU x.1.f1 < 340282366920938463463374607431768211456) : stepI w n x = ((stepV w n x).f0, (stepV w n x).f1.f0, (stepV w n x).f1.f1, 0) := by
 unfold stepI stepV; split
 ·
  exact joinI_room hn hx h
 ·
  exact joinI_room hx hn (by omega)
theorem stepI_full {w : Int} {n : SNode} {x : SNode × Bool} (hn : NodeK w n) (hx : NodeK w x.1) (h : ¬ valU n.f1 + valU x.1.f1 < 340282366920938463463374607431768211456) : stepI w n x = (⟨#[]⟩, 0, 0, 10) := by
 unfold stepI; split
 ·
  exact joinI_full hn hx h
 ·
  exact joinI_full hx hn (by omega)
def totX (xs : List (SNode × Bool)) : Int := totL (xs.map (·.1))
theorem totX_cons (x : SNode × Bool) (xs) : totX (x :: xs) = valU x.1.f1 + totX xs := rfl
theorem totX_nn {w : Int} {xs : List (SNode × Bool)} (h : ∀ x ∈ xs, NodeK w x.1) : 0 ≤ totX xs := totL_nn fun y hy => by
 obtain ⟨x, hx, rfl⟩ := List.mem_map.1 hy; exact h x hx
theorem climbL_room {w : Int} : ∀ (xs : List (SNode × Bool)) (n : SNode), NodeK w n → (∀ x ∈ xs, NodeK w x.1) → valU n.f1 + totX xs < 340282366920938463463374607431768211456 →
  climbL w n xs = ((climbV w n xs).f0, (climbV w n xs).f1.f0, (climbV w n xs).f1.f1, 0) ∧ NodeK w (climbV w n xs) ∧ valU (climbV w n xs).f1 = valU n.f1 + totX xs
 | [], n, hn, _, _ => ⟨rfl, hn, by simp [climbV, totX, totL]⟩
 | x :: xs, n, hn, hx, h => by
  rw [totX_cons] at h
  have hx1 := hx x (by simp)
  have hxs : ∀ y ∈ xs, NodeK w y.1 := fun y hy => hx y (by simp [hy])
  have h0 := totX_nn hxs
  have hr : valU n.f1 + valU x.1.f1 < 340282366920938463463374607431768211456 := by omega
  have := climbL_room xs (stepV w n x) (stepV_k hn hx1 hr) hxs (by rw [stepV_val]; omega)
  rw [stepV_val] at this
  refine ⟨?_, this.2.1, by rw [climbV, totX_cons]; omega⟩
  rw [climbL, stepI_room hn hx1 hr, if_pos rfl, climbV]
  exact this.1
theorem climbL_full {w : Int} : ∀ (xs : List (SNode × Bool)) (n : SNode), NodeK w n → (∀ x ∈ xs, NodeK w x.1) → ¬ valU n.f1 + totX xs < 340282366920938463463374607431768211456 → climbL w n xs = (⟨#[]⟩, 0, 0, 10)
 | [], n, hn, _, h => by
  have := valU_lt hn.u
  exact absurd (by simp [totX, totL]; omega) h
 | x :: xs, n, hn, hx, h => by
  rw [totX_cons] at h
  have hx1 := hx x (by simp)
  have hxs : ∀ y ∈ xs, NodeK w y.1 := fun y hy => hx y (by simp [hy])
  by_cases hr : valU n.f1 + valU x.1.f1 < 340282366920938463463374607431768211456
  ·
   rw [climbL, stepI_room hn hx1 hr, if_pos rfl]
   exact climbL_full xs (stepV w n x) (stepV_k hn hx1 hr) hxs (by rw [stepV_val]; omega)
  ·
   rw [climbL, stepI_full hn hx1 hr, if_neg (by decide)]
theorem turnsTo_fst (p : Int) (l : List SNode) : (turnsTo p l l.length).map (·.1) = l := by
 unfold turnsTo
 rw [List.map_map]
 apply List.ext_getElem
 ·
  simp
 ·
  intro i h1 h2
  simp at h1
  simp [List.getD_eq_getElem?_getD, h1]
theorem turnsTo_k {w p : Int} {l : List SNode} (h : ∀ x ∈ l, NodeK w x) : ∀ x ∈ turnsTo p l l.length, NodeK w x.1 := fun x hx => by
 refine h _ ?_
 rw [← turnsTo_fst p l]
 exact List.mem_map.2 ⟨x, hx, rfl⟩
theorem totX_turns (p : Int) (l : List SNode) : totX (turnsTo p l l.length) = totL l := by unfold totX; rw [turnsTo_fst]
theorem climbI_room {w p : Int} {n : SNode} {l : List SNode} (hn : NodeK w n) (hl : ∀ x ∈ l, NodeK w x) (h63 : l.length ≤ 63) (h : valU n.f1 + totL l < 340282366920938463463374607431768211456) :
  climbI w n p l = ((climbV w n (turnsTo p l l.length)).f0, (climbV w n (turnsTo p l l.length)).f1.f0, (climbV w n (turnsTo p l l.length)).f1.f1, 0) ∧ NodeK w (climbV w n (turnsTo p l l.length)) ∧ valU (climbV w n (turnsTo p l l.length)).f1 = valU n.f1 + totL l := by
 have := climbL_room (turnsTo p l l.length) n hn (turnsTo_k hl) (by rw [totX_turns]; exact h)
 rw [totX_turns] at this
 unfold climbI
 rw [if_pos ⟨hn.of, List.all_eq_true.2 fun x hx => (hl x hx).of⟩, if_neg (by omega)]
 exact this
theorem climbI_full {w p : Int} {n : SNode} {l : List SNode} (hn : NodeK w n) (hl : ∀ x ∈ l, NodeK w x) (h63 : l.length ≤ 63) (h : ¬ valU n.f1 + totL l < 340282366920938463463374607431768211456) : climbI w n p l = (⟨#[]⟩, 0, 0, 10) := by
 unfold climbI
 rw [if_pos ⟨hn.of, List.all_eq_true.2 fun x hx => (hl x hx).of⟩, if_neg (by omega)]
 exact climbL_full _ n hn (turnsTo_k hl) (by rw [totX_turns]; exact h)
theorem climbI_width {w p : Int} {n : SNode} {l : List SNode} (h : ¬ (nodeOf w n = true ∧ l.all (nodeOf w) = true)) : climbI w n p l = (⟨#[]⟩, 0, 0, 70) := by unfold climbI; rw [if_neg h]
theorem climbI_long {w p : Int} {n : SNode} {l : List SNode} (h : nodeOf w n = true ∧ l.all (nodeOf w) = true) (h63 : 63 < l.length) : climbI w n p l = (⟨#[]⟩, 0, 0, 2) := by unfold climbI; rw [if_pos h, if_pos h63]
end Go.Proofs.YtijfifphcchbbaaDoor.P
namespace Go.Proofs.YtijfifphcchbbaaDoor.P
open Go.RowKit Go.Proofs.YtijfifphcchbbaaDoorW.PrintWords Go.Proofs.YtijfifphcchbbaaDoorW.PrintLast Go.Proofs.YtijfifphcchbbaaDoorW.PrintMore
set_option linter.unusedVariables false
set_option linter.unusedSimpArgs false
set_option linter.unnecessarySimpa false
def lenV : Value → Nat
 | .slice _ n _ => n
 | _ => 0
structure FoS (w : World) (wd : Int) (W : World) : Prop where
 h2 : W.heap[w.heap.size]? = some (.cells #[.int .i64 wd] 3 (0, 0))
 h4 : W.heap[w.heap.size + 1]? = some (.cells #[.string ⟨#[]⟩, .int .u64 0, .int .u64 0] 28 (0, 0))
 hB : Below w.heap.size w W
theorem FoS.below {w W W' : World} {wd : Int} (h : FoS w wd W) (hb : Below W.heap.size W W') : FoS w wd W' := ⟨blk_below h.h2 hb, blk_below h.h4 hb, h.hB.trans (hb.mono h.hB.size)⟩
theorem first_at {W : World} {ad : Addr} {l : List SNode} (h : Kd.C kNode W (some ad) l.length l) (h1 : l.length = 1) : W.cell? ad = some (.string (l.headD zeroN).f0) ∧ W.cell? ⟨ad.block, ad.off + 1, none⟩ = some (.int .u64 (l.headD zeroN).f1.f0) ∧ W.cell? ⟨ad.block, ad.off + 2, none⟩ = some (.int .u64 (l.headD zeroN).f1.f1) := by
 obtain ⟨a1, e1, p0, p1, p2⟩ := at_TNode h 0 (by omega) (by omega)
 cases e1
 match l, h1 with
 | [x], _ => exact ⟨p0, p1, p2⟩
set_option maxRecDepth 100000 in
set_option maxHeartbeats 4000000 in
theorem fold.calls (wd : Int) (A : Option Addr) (c : Nat) (l : List SNode) (w : World) (hK : Laid w) (hr : Kd.C kNode w A l.length l) (hc : l.length ≤ c) (h300 : l.length ≤ 300) (ul : ∀ x ∈ l, OkU x.f1) :
  Calls Tryd.prog 14 #[.int .i64 wd, .slice A l.length c] w fun e w' => e = .returned (.tuple #[nodeV (nodeJ (foldI wd l)), .int .i64 (foldI wd l).2.2.2]) ∧ Below w.heap.size w w' := by
 have hu := Tryd.underlying28
 have HR := aM' hr
 have HK := aM' hK
 have HC := aM' hc
 have H3 := aM' h300
 have UL := aM' ul
 clear hr hK hc h300 ul
 go_enter Tryd.func14, Tryd.ntmps14
 go_wp2_with fail
 have hs0 : FoS w wd ((w.alloc (.cells #[.int .i64 wd] 3)).alloc (.cells #[.string ⟨#[]⟩, .int .u64 0, .int .u64 0] 28)) :=
  ⟨blk_alloc (blk_new w _) _, by have := blk_new (w.alloc (.cells #[.int .i64 wd] 3)) (.cells #[.string ⟨#[]⟩, .int .u64 0, .int .u64 0] 28); rwa [World.size_alloc] at this, below_alloc (below_alloc (Below.refl _ _) _) _⟩
 refine (all.calls wd A c l _ (Kd.C_below HR.out hs0.hB)).mono ?_
 rintro e w1 ⟨rfl, hb⟩
 have hs1 := hs0.below hb
 have HS1 := aM' hs1
 clear hs0 hb
 have y0 : w1.cell? ⟨w.heap.size + 1, 0, none⟩ = some (.string ⟨#[]⟩) := blk_cell hs1.h4 0
 have y1 : w1.cell? ⟨w.heap.size + 1, 1, none⟩ = some (.int .u64 0) := blk_cell hs1.h4 1
 have y2 : w1.cell? ⟨w.heap.size + 1, 2, none⟩ = some (.int .u64 0) := blk_cell hs1.h4 2
 have yf : ∀ i, w1.frozen? ⟨w.heap.size + 1, i, none⟩ = false := fun i => blk_frozen hs1.h4 i
 clear hs1
 by_cases hal : 1 ≤ wd ∧ wd ≤ 32 ∧ l.all (nodeOf wd) = true
 ·
  have hb1 : (decide (1 ≤ wd) && (decide (wd ≤ 32) && l.all (nodeOf wd))) = true := by simp [hal]
  rw [hb1]
  have HAL := aM' hal
  clear hal hb1
  go_wp2_with fail
  refine (ones.calls _ _).mono ?_
  rintro e w2 ⟨rfl, ⟨⟨nd, rfl⟩⟩⟩
  have hop := ones_pow l.length H3.out
  rw [← wrapu64_id (x := (l.length : Int)) (by omega) (by have := H3.out; omega)] at hop
  generalize onesI (IntKind.u64.wrap (l.length : Int)) = pv at hop ⊢
  cases hp : isPow l.length with
  | false =>
   rw [hp] at hop
   have HI := aM' (show foldI wd l = (⟨#[]⟩, 0, 0, 2) by unfold foldI; rw [if_pos HAL.out, if_neg (by rw [hp]; decide)])
   go_wp2
   refine bodyPost_ret (v := .tuple #[.agg #[.string ⟨#[]⟩, .int .u64 0, .int .u64 0], .int .i64 2]) ?_ rfl ⟨by rw [HI.out], ?_⟩
   ·
    simp [results, Tryd.results14, go_sem, hu, y0, y1, y2]
   ·
    exact below_set (below_set (below_set (pw_below_drewN HS1.out.hB _) (by (try dsimp only); omega)) (by (try dsimp only); omega)) (by (try dsimp only); omega)
  | true =>
   rw [hp] at hop
   obtain ⟨K, hK2⟩ := isPow_spec hp
   have hk : ∀ x ∈ l, NodeK wd x := allK HAL.out.2.2 UL.out
   have HI := aM' (foldI_pow HAL.out.1 HAL.out.2.1 hK2 HAL.out.2.2)
   have hA : ∃ ad, A = some ad := by
    obtain ⟨_, _, h3⟩ := HR.out
    obtain ⟨a, ha, _⟩ := h3 (by rw [hK2]; exact Nat.two_pow_pos K)
    exact ⟨a, ha⟩
   obtain ⟨ad0, rfl⟩ := hA
   have HS2 := aM' (HS1.out.below (pw_below_drewN (Below.refl _ _) nd))
   have HK2 := aM' hK2
   have HKK := aM' hk
   clear hK2 hk hp
   go_wp2
   go_loopw [1] (fun v wr => ∃ (ad : Addr) (cc : Nat) (cur : List SNode), v = .slice (some ad) cur.length cc ∧ Aside0 (cur.length ≤ cc ∧ cur.length ≤ 300) ∧ Aside0 (∃ k, cur.length = 2 ^ k ∧ treeV wd k cur = treeV wd K l) ∧ Aside0 (totL cur = totL l) ∧ Aside0 (∀ x ∈ cur, NodeK wd x) ∧ Aside0 (Kd.C kNode wr (some ad) cur.length cur) ∧ Aside0 (FoS w wd wr)) (fun v _ => lenV v)
   case atStart => exact ⟨ad0, c, l, rfl, ⟨HC.out, H3.out⟩, ⟨K, HK2.out, rfl⟩, ⟨rfl⟩, HKK, ⟨Kd.C_below HR.out HS2.out.hB⟩, HS2⟩
   case round =>
    obtain ⟨ad, cc, cur, rfl, HCC, HT, HTT, HN, HCR, HS⟩ := hrel
    by_cases hlt : 1 < cur.length
    ·
     have b1 : decide ((1 : Int) < (cur.length : Int)) = true := decide_eq_true (by omega)
     obtain ⟨k, hk1, hk2⟩ := HT.out
     obtain ⟨k, rfl⟩ : ∃ k', k = k' + 1 := by
      cases k with
      | zero => rw [hk1] at hlt; simp at hlt
      | succ k => exact ⟨k, rfl⟩
     have hm2 : cur.length = 2 * 2 ^ k := by rw [hk1, Nat.pow_succ, Nat.mul_comm]
     have hm1 : 1 ≤ 2 ^ k := Nat.two_pow_pos k
     have HK1 := aM' hk1
     have HK2' := aM' hk2
     have HM2 := aM' hm2
     have HM1 := aM' hm1
     clear hk1 hk2 hm2 hm1
     go_wp2_with fail
     refine (pairs.calls wd w.heap.size ad cc (2 ^ k) cur wr (HK.out.below HS.out.hB) HS.out.h2 HM2.out HM1.out (by have := HCC.out; have := HM2.out; omega) HCC.out.1 HCR.out HN.out).mono ?_
     rintro e w3 ⟨hb, h⟩
     have HS3 := aM' (HS.out.below hb)
     clear hb
     obtain ⟨hpo, g, cap, rfl, hcap, hC⟩ | ⟨hpo, rfl⟩ := h
     ·
      have hl3 : (pairsV wd cur).length = 2 ^ k := pairsV_len wd _ _ HM2.out
      have HT3 := aM' (show ∃ k, (pairsV wd cur).length = 2 ^ k ∧ treeV wd k (pairsV wd cur) = treeV wd K l from ⟨k, hl3, by rw [← treeV_pairs wd k cur HK1.out]; exact HK2'.out⟩)
      have HTT3 := aM' ((pairsV_tot wd _ _ HM2.out).trans HTT.out)
      have HN3 := aM' (pairsV_k _ _ HM2.out HN.out hpo)
      rw [← hl3] at hC hcap ⊢
      have hlt3 : (pairsV wd cur).length < cur.length := by rw [hl3]; have := HM2.out; have := HM1.out; omega
      generalize pairsV wd cur = nx at hl3 HT3 HTT3 HN3 hC hcap hlt3 ⊢
      have HC3 := aM' hC
      have HCC3 := aM' (show nx.length ≤ cap ∧ nx.length ≤ 300 from ⟨hcap, by have := HCC.out; omega⟩)
      have HLT3 := aM' hlt3
      clear hl3 hC hcap hpo hlt3
      go_wp2
      go_roundw
      case rel => exact ⟨⟨g, 0, none⟩, cap, nx, rfl, HCC3, HT3, HTT3, HN3, HC3, HS3⟩
      case measure => exact HLT3.out
     ·
      have hno : ¬ totL l < 340282366920938463463374607431768211456 := by rw [← HTT.out]; exact pairsOk_tot _ _ HM2.out HN.out hpo
      have HI2 := aM' (show foldI wd l = (⟨#[]⟩, 0, 0, 10) by rw [HI.out, if_neg hno])
      have z0 : w3.cell? ⟨w.heap.size + 1, 0, none⟩ = some (.string ⟨#[]⟩) := blk_cell HS3.out.h4 0
      have z1 : w3.cell? ⟨w.heap.size + 1, 1, none⟩ = some (.int .u64 0) := blk_cell HS3.out.h4 1
      have z2 : w3.cell? ⟨w.heap.size + 1, 2, none⟩ = some (.int .u64 0) := blk_cell HS3.out.h4 2
      have zf : ∀ i, w3.frozen? ⟨w.heap.size + 1, i, none⟩ = false := fun i => blk_frozen HS3.out.h4 i
      clear hno y0 y1 y2 yf hpo
      go_wp2
      refine bodyPost_ret (v := .tuple #[.agg #[.string ⟨#[]⟩, .int .u64 0, .int .u64 0], .int .i64 10]) ?_ rfl ⟨by rw [HI2.out], ?_⟩
      ·
       simp [results, Tryd.results14, go_sem, hu, z0, z1, z2]
      ·
       exact below_set (below_set (below_set HS3.out.hB (by (try dsimp only); omega)) (by (try dsimp only); omega)) (by (try dsimp only); omega)
    ·
     have b1 : decide ((1 : Int) < (cur.length : Int)) = false := decide_eq_false (by omega)
     obtain ⟨k, hk1, hk2⟩ := HT.out
     have hk0 : k = 0 := by
      rcases Nat.eq_zero_or_pos k with h | h
      ·
       exact h
      ·
       have := Nat.pow_lt_pow_right (a := 2) (by decide) h
       omega
     subst hk0
     have h1 : cur.length = 1 := hk1
     obtain ⟨p0, p1, p2⟩ := first_at HCR.out h1
     have g1 : (0 : Int) < (cur.length : Int) := by omega
     have hx : cur.headD zeroN = treeV wd K l := by rw [← hk2]; rfl
     rw [hx] at p0 p1 p2
     have htot : totL l < 340282366920938463463374607431768211456 := by
      rw [← HTT.out]
      match cur, h1, HN.out with
      | [x], _, hn => have := valU_lt (hn x (by simp)).u; simp [totL]; exact this
     have HI2 := aM' (show foldI wd l = ((treeV wd K l).f0, (treeV wd K l).f1.f0, (treeV wd K l).f1.f1, 0) by rw [HI.out, if_pos htot])
     have z0 : wr.cell? ⟨w.heap.size + 1, 0, none⟩ = some (.string ⟨#[]⟩) := blk_cell HS.out.h4 0
     have z1 : wr.cell? ⟨w.heap.size + 1, 1, none⟩ = some (.int .u64 0) := blk_cell HS.out.h4 1
     have z2 : wr.cell? ⟨w.heap.size + 1, 2, none⟩ = some (.int .u64 0) := blk_cell HS.out.h4 2
     have zf : ∀ i, wr.frozen? ⟨w.heap.size + 1, i, none⟩ = false := fun i => blk_frozen HS.out.h4 i
     clear hk1 hk2 hx htot y0 y1 y2 yf
     go_wp2
     refine bodyPost_ret (v := .tuple #[.agg #[.string (treeV wd K l).f0, .int .u64 (treeV wd K l).f1.f0, .int .u64 (treeV wd K l).f1.f1], .int .i64 0]) ?_ rfl ⟨by rw [HI2.out], ?_⟩
     ·
      simp [results, Tryd.results14, go_sem, hu, z0, z1, z2]
     ·
      exact below_set (below_set (below_set HS.out.hB (by (try dsimp only); omega)) (by (try dsimp only); omega)) (by (try dsimp only); omega)
 ·
  have hb1 : (decide (1 ≤ wd) && (decide (wd ≤ 32) && l.all (nodeOf wd))) = false := by
   cases h : (decide (1 ≤ wd) && (decide (wd ≤ 32) && l.all (nodeOf wd))) with
   | false => rfl
   | true => simp only [Bool.and_eq_true, decide_eq_true_eq] at h; exact absurd h hal
  rw [hb1]
  have HI := aM' (show foldI wd l = (⟨#[]⟩, 0, 0, 70) by unfold foldI; rw [if_neg hal])
  clear hal hb1
  go_wp2
  refine bodyPost_ret (v := .tuple #[.agg #[.string ⟨#[]⟩, .int .u64 0, .int .u64 0], .int .i64 70]) ?_ rfl ⟨by rw [HI.out], ?_⟩
  ·
   simp [results, Tryd.results14, go_sem, hu, y0, y1, y2]
  ·
   exact below_set (below_set (below_set HS1.out.hB (by (try dsimp only); omega)) (by (try dsimp only); omega)) (by (try dsimp only); omega)
def node_Fold.f (x0 : Int) (l : List SNode) : Option (ByteArray × Int × Int × Int) :=
 if l.length ≤ 300 ∧ ∀ x ∈ l, (0 ≤ x.f1.f0 ∧ x.f1.f0 < 18446744073709551616) ∧ (0 ≤ x.f1.f1 ∧ x.f1.f1 < 18446744073709551616) then some (foldI x0 l) else none
theorem node_Fold.calls (x0 : Int) (A : Option Addr) (c : Nat) (l : List SNode) (r1 : ByteArray) (r2 r3 r4 : Int) (w : World) (hK : Laid w) (hr : Kd.C kNode w A l.length l) (hc : l.length ≤ c) (h : node_Fold.f x0 l = some (r1, r2, r3, r4)) :
  Calls Tryd.prog 14 #[.int .i64 x0, .slice A l.length c] w fun e w' => e = .returned (.tuple #[.agg #[.string r1, .int .u64 r2, .int .u64 r3], .int .i64 r4]) ∧ Below w.heap.size w w' := by
 unfold node_Fold.f at h
 split at h
 ·
  rename_i hh
  have h2 := Option.some.inj h
  refine (fold.calls x0 A c l w hK hr hc hh.1 (fun x hx => ⟨(hh.2 x hx).1, (hh.2 x hx).2⟩)).mono ?_
  rintro e w' ⟨rfl, hb⟩
  rw [h2]
  exact ⟨rfl, hb⟩
 ·
  cases h
end Go.Proofs.YtijfifphcchbbaaDoor.P
namespace Go.Proofs.YtijfifphcchbbaaDoor.P
open Go.RowKit Go.Proofs.YtijfifphcchbbaaDoorW.PrintWords Go.Proofs.YtijfifphcchbbaaDoorW.PrintLast Go.Proofs.YtijfifphcchbbaaDoorW.PrintMore
set_option linter.unusedVariables false
set_option linter.unusedSimpArgs false
set_option linter.unnecessarySimpa false
structure RFo (w W : World) : Prop where
 h4 : W.heap[w.heap.size]? = some (.cells #[.string ⟨#[]⟩, .int .u64 0, .int .u64 0] 28 (0, 0))
 hB : Below w.heap.size w W
theorem RFo.below {w W W' : World} (h : RFo w W) (hb : Below W.heap.size W W') : RFo w W' := ⟨blk_below h.h4 hb, h.hB.trans (hb.mono h.hB.size)⟩
end Go.Proofs.YtijfifphcchbbaaDoor.P
namespace Go.Proofs.YtijfifphcchbbaaDoor.P
open Go.RowKit Go.Proofs.YtijfifphcchbbaaDoorW.PrintWords Go.Proofs.YtijfifphcchbbaaDoorW.PrintLast Go.Proofs.YtijfifphcchbbaaDoorW.PrintMore
set_option linter.unusedVariables false
set_option linter.unusedSimpArgs false
set_option linter.unnecessarySimpa false
theorem lit_C {W : World} {g : Nat} {cur : Array Value} {xs : List SNode} (hg : W.heap[g]? = some (.cells cur 28 (0, 0))) (hc : cur.toList = cellsN xs) (hl : xs.length ≤ 1000) : Kd.C kNode W (some ⟨g, 0, none⟩) xs.length xs := by
 have hs : cur.size = xs.length * 3 := by rw [← cellsN_len, ← hc]; simp
 exact (ownNodes_C (base := 0) (cap := xs.length) ⟨cellsN_len xs, .inr ⟨g, xs.length, cur, rfl, Nat.zero_le _, hg, Nat.le_refl _, by unfold maxLen; omega, hs, by rw [← hc, List.take_of_length_le (by simp; omega)]⟩⟩).2.2
def aN : SNode := ⟨⟨#[97]⟩, ⟨0, 3⟩⟩
def bN : SNode := ⟨⟨#[98]⟩, ⟨0, 4⟩⟩
def mN : SNode := ⟨⟨#[98]⟩, ⟨18446744073709551615, 18446744073709551615⟩⟩
theorem aN_k : NodeK 1 aN := ⟨by decide, ⟨by decide, by decide⟩, ⟨by decide, by decide⟩⟩
theorem bN_k : NodeK 1 bN := ⟨by decide, ⟨by decide, by decide⟩, ⟨by decide, by decide⟩⟩
theorem mN_k : NodeK 1 mN := ⟨by decide, ⟨by decide, by decide⟩, ⟨by decide, by decide⟩⟩
def xB : ByteArray := dgI 1 (nodeText aN bN)
theorem xB_size : xB.size = 1 := dgI_size 1 _ (by decide) (by decide)
theorem aw_join : joinI 1 aN bN = (xB, 0, 7, 0) := (joinI_room aN_k bN_k (by decide)).trans rfl
theorem aw_fold : foldI 1 [aN, bN] = (xB, 0, 7, 0) := by
 have := foldI_pow (w := 1) (l := [aN, bN]) (k := 1) (by decide) (by decide) rfl (by decide)
 rw [this, if_pos (by decide)]; rfl
theorem aw_climb : climbI 1 bN 1 [aN] = (xB, 0, 7, 0) := by
 unfold climbI
 rw [if_pos (by decide), if_neg (by decide)]
 have e : turnsTo 1 [aN] [aN].length = [(aN, false)] := by
  have h : rightS 1 0 = false := by decide
  simp [turnsTo, List.range_succ, h]
 rw [e]
 show (if (joinI 1 aN bN).2.2.2 = 0 then climbL 1 (nodeJ (joinI 1 aN bN)) [] else _) = _
 rw [aw_join, if_pos rfl]; rfl
theorem aw_full : joinI 1 aN mN = (⟨#[]⟩, 0, 0, 10) := joinI_full aN_k mN_k (by decide)
theorem aw_width : joinI 2 aN bN = (⟨#[]⟩, 0, 0, 70) := by unfold joinI; rw [if_neg (by decide)]
theorem aw_three : foldI 1 [aN, bN, aN] = (⟨#[]⟩, 0, 0, 2) := by
 unfold foldI; rw [if_pos (by decide), if_neg (by decide)]
abbrev aA : Array Value := #[.string ⟨#[97]⟩, .int .u64 0, .int .u64 3]
abbrev bA : Array Value := #[.string ⟨#[98]⟩, .int .u64 0, .int .u64 4]
abbrev xA : Array Value := #[.string xB, .int .u64 0, .int .u64 7]
structure Aw1 (w W : World) : Prop where
 h1 : W.heap[w.heap.size]? = some (.cells aA 28 (0, 0))
 h2 : W.heap[w.heap.size + 1]? = some (.cells bA 28 (0, 0))
 hB : Below w.heap.size w W
theorem Aw1.below {w W W' : World} (h : Aw1 w W) (hb : Below W.heap.size W W') : Aw1 w W' := ⟨blk_below h.h1 hb, blk_below h.h2 hb, h.hB.trans (hb.mono h.hB.size)⟩
set_option maxRecDepth 100000 in
set_option maxHeartbeats 4000000 in
theorem awake14.calls (w : World) (hK : Laid w) : Calls Tryd.prog 17 #[] w fun e w' => e = .returned (.bool true) ∧ Below w.heap.size w w' := by
 have HK := aM' hK
 obtain ⟨k1, hk1⟩ := join_ev 1 aN bN aN_k.u bN_k.u
 obtain ⟨k2, hk2⟩ := join_ev 1 aN mN aN_k.u mN_k.u
 obtain ⟨k3, hk3⟩ := join_ev 2 aN bN aN_k.u bN_k.u
 rw [aw_join] at hk1
 rw [aw_full] at hk2
 rw [aw_width] at hk3
 have J1 := aM' (hk1 k1 (Nat.le_refl _))
 have J2 := aM' (hk2 k2 (Nat.le_refl _))
 have J3 := aM' (hk3 k3 (Nat.le_refl _))
 clear hK hk1 hk2 hk3
 have F1 := aM' (show node_Fold.f 1 [aN, bN] = some (xB, 0, 7, 0) by unfold node_Fold.f; rw [if_pos (by decide), aw_fold])
 have F2 := aM' (show node_Fold.f 1 [aN, bN, aN] = some (⟨#[]⟩, 0, 0, 2) by unfold node_Fold.f; rw [if_pos (by decide), aw_three])
 have C1 := aM' (show node_Climb.f 1 ⟨#[98]⟩ 0 4 1 [aN] = some (xB, 0, 7, 0) by unfold node_Climb.f; rw [if_pos (by decide)]; exact congrArg some aw_climb)
 go_enter Tryd.func17, Tryd.ntmps17
 go_upto_region 2 with (fail)
 have hA : Aw1 w ((w.alloc (.cells aA 28)).alloc (.cells bA 28)) := ⟨blk_alloc (blk_new w _) _, by have := blk_new (w.alloc (.cells aA 28)) (.cells bA 28); rwa [World.size_alloc] at this, below_alloc (below_alloc (Below.refl _ _) _) _⟩
 obtain ⟨W1, hW⟩ : ∃ W1, W1 = ((w.alloc (.cells #[.string ⟨#[97]⟩, .int .u64 0, .int .u64 3] 28)).alloc (.cells #[.string ⟨#[98]⟩, .int .u64 0, .int .u64 4] 28)) := ⟨_, rfl⟩
 rw [← hW]
 have hA1 : Aw1 w W1 := by rw [hW]; exact hA
 have HA1 := aM' hA1
 clear hA hA1 hW
 have x0 : W1.cell? ⟨w.heap.size, 0, none⟩ = some (.string ⟨#[97]⟩) := blk_cell HA1.out.h1 0
 have x1 : W1.cell? ⟨w.heap.size, 1, none⟩ = some (.int .u64 0) := blk_cell HA1.out.h1 1
 have x2 : W1.cell? ⟨w.heap.size, 2, none⟩ = some (.int .u64 3) := blk_cell HA1.out.h1 2
 have y0 : W1.cell? ⟨w.heap.size + 1, 0, none⟩ = some (.string ⟨#[98]⟩) := blk_cell HA1.out.h2 0
 have y1 : W1.cell? ⟨w.heap.size + 1, 1, none⟩ = some (.int .u64 0) := blk_cell HA1.out.h2 1
 have y2 : W1.cell? ⟨w.heap.size + 1, 2, none⟩ = some (.int .u64 4) := blk_cell HA1.out.h2 2
 go_wp2_with fail
 refine (node_Join.calls k1 1 ⟨#[97]⟩ 0 3 ⟨#[98]⟩ 0 4 xB 0 7 0 _ (HK.out.below HA1.out.hB) J1.out).mono ?_
 rintro e v ⟨rfl, hb0⟩
 go_upto_region 3 with (fail)
 have hb := hb0
 have hA := HA1.out.below hb
 obtain ⟨W2, hW⟩ : ∃ W2, W2 = v.alloc (.cells #[.string xB, .int .u64 0, .int .u64 7] 28) := ⟨_, rfl⟩
 rw [← hW]
 have hA2 : Aw1 w W2 := by rw [hW]; exact hA.below (below_alloc (Below.refl _ _) _)
 have hn : W2.heap[v.heap.size]? = some (.cells #[.string xB, .int .u64 0, .int .u64 7] 28 (0, 0)) := by rw [hW]; exact blk_new v _
 generalize v.heap.size = g2 at hn ⊢
 clear hA hb hb0 hW x0 x1 x2 y0 y1 y2 
 have HA2 := aM' hA2
 have Hg2 := aM' hn
 clear hA2 hn HA1 v 
 have x0 : W2.cell? ⟨w.heap.size, 0, none⟩ = some (.string ⟨#[97]⟩) := blk_cell HA2.out.h1 0
 have x1 : W2.cell? ⟨w.heap.size, 1, none⟩ = some (.int .u64 0) := blk_cell HA2.out.h1 1
 have x2 : W2.cell? ⟨w.heap.size, 2, none⟩ = some (.int .u64 3) := blk_cell HA2.out.h1 2
 have y0 : W2.cell? ⟨w.heap.size + 1, 0, none⟩ = some (.string ⟨#[98]⟩) := blk_cell HA2.out.h2 0
 have y1 : W2.cell? ⟨w.heap.size + 1, 1, none⟩ = some (.int .u64 0) := blk_cell HA2.out.h2 1
 have y2 : W2.cell? ⟨w.heap.size + 1, 2, none⟩ = some (.int .u64 4) := blk_cell HA2.out.h2 2
 have q1 : Kd.C kNode (W2.alloc (.cells #[.string ⟨#[97]⟩, .int .u64 0, .int .u64 3, .string ⟨#[98]⟩, .int .u64 0, .int .u64 4] 28)) (some ⟨W2.heap.size, 0, none⟩) ([aN, bN]).length [aN, bN] := lit_C (xs := [aN, bN]) (blk_new W2 (.cells #[.string ⟨#[97]⟩, .int .u64 0, .int .u64 3, .string ⟨#[98]⟩, .int .u64 0, .int .u64 4] 28)) rfl (by decide)
 have q2 : Laid (W2.alloc (.cells #[.string ⟨#[97]⟩, .int .u64 0, .int .u64 3, .string ⟨#[98]⟩, .int .u64 0, .int .u64 4] 28)) := (HK.out.below HA2.out.hB).below (below_alloc (Below.refl _ _) _)
 have q3 := node_Fold.calls 1 (some ⟨W2.heap.size, 0, none⟩) 2 [aN, bN] xB 0 7 0 (W2.alloc (.cells #[.string ⟨#[97]⟩, .int .u64 0, .int .u64 3, .string ⟨#[98]⟩, .int .u64 0, .int .u64 4] 28)) q2 q1 (by decide) F1.out
 have Q := aM' q3
 clear q1 q2 q3
 go_wp2_with fail
 refine (Q.out).mono ?_
 rintro e v ⟨rfl, hb0⟩
 go_upto_region 4 with (fail)
 have hb := Below.trans (below_alloc (Below.refl _ W2) (.cells #[.string ⟨#[97]⟩, .int .u64 0, .int .u64 3, .string ⟨#[98]⟩, .int .u64 0, .int .u64 4] 28)) (hb0.mono (by simp))
 have hA := HA2.out.below hb
 have hg2 := blk_below Hg2.out hb
 obtain ⟨W3, hW⟩ : ∃ W3, W3 = v.alloc (.cells #[.string xB, .int .u64 0, .int .u64 7] 28) := ⟨_, rfl⟩
 rw [← hW]
 have hA3 : Aw1 w W3 := by rw [hW]; exact hA.below (below_alloc (Below.refl _ _) _)
 have hn : W3.heap[v.heap.size]? = some (.cells #[.string xB, .int .u64 0, .int .u64 7] 28 (0, 0)) := by rw [hW]; exact blk_new v _
 have hg2' : W3.heap[g2]? = some (.cells xA 28 (0, 0)) := by rw [hW]; exact blk_alloc hg2 _
 generalize v.heap.size = g3 at hn ⊢
 clear hA hb hb0 hW x0 x1 x2 y0 y1 y2 hg2
 have HA3 := aM' hA3
 have Hg3 := aM' hn
 have Hg2 := aM' hg2'
 clear hA3 hn HA2 v hg2'
 have x0 : W3.cell? ⟨w.heap.size, 0, none⟩ = some (.string ⟨#[97]⟩) := blk_cell HA3.out.h1 0
 have x1 : W3.cell? ⟨w.heap.size, 1, none⟩ = some (.int .u64 0) := blk_cell HA3.out.h1 1
 have x2 : W3.cell? ⟨w.heap.size, 2, none⟩ = some (.int .u64 3) := blk_cell HA3.out.h1 2
 have y0 : W3.cell? ⟨w.heap.size + 1, 0, none⟩ = some (.string ⟨#[98]⟩) := blk_cell HA3.out.h2 0
 have y1 : W3.cell? ⟨w.heap.size + 1, 1, none⟩ = some (.int .u64 0) := blk_cell HA3.out.h2 1
 have y2 : W3.cell? ⟨w.heap.size + 1, 2, none⟩ = some (.int .u64 4) := blk_cell HA3.out.h2 2
 have q1 : Kd.C kNode (W3.alloc (.cells #[.string ⟨#[97]⟩, .int .u64 0, .int .u64 3] 28)) (some ⟨W3.heap.size, 0, none⟩) ([aN]).length [aN] := lit_C (xs := [aN]) (blk_new W3 (.cells #[.string ⟨#[97]⟩, .int .u64 0, .int .u64 3] 28)) rfl (by decide)
 have q2 : Laid (W3.alloc (.cells #[.string ⟨#[97]⟩, .int .u64 0, .int .u64 3] 28)) := (HK.out.below HA3.out.hB).below (below_alloc (Below.refl _ _) _)
 have q3 := node_Climb.calls 1 ⟨#[98]⟩ 0 4 1 (some ⟨W3.heap.size, 0, none⟩) 1 [aN] xB 0 7 0 (W3.alloc (.cells #[.string ⟨#[97]⟩, .int .u64 0, .int .u64 3] 28)) q2 q1 (by decide) C1.out
 have Q := aM' q3
 clear q1 q2 q3
 go_wp2_with fail
 refine (Q.out).mono ?_
 rintro e v ⟨rfl, hb0⟩
 go_upto_region 5 with (fail)
 have hb := Below.trans (below_alloc (Below.refl _ W3) (.cells #[.string ⟨#[97]⟩, .int .u64 0, .int .u64 3] 28)) (hb0.mono (by simp))
 have hA := HA3.out.below hb
 have hg2 := blk_below Hg2.out hb
 have hg3 := blk_below Hg3.out hb
 obtain ⟨W4, hW⟩ : ∃ W4, W4 = v.alloc (.cells #[.string xB, .int .u64 0, .int .u64 7] 28) := ⟨_, rfl⟩
 rw [← hW]
 have hA4 : Aw1 w W4 := by rw [hW]; exact hA.below (below_alloc (Below.refl _ _) _)
 have hn : W4.heap[v.heap.size]? = some (.cells #[.string xB, .int .u64 0, .int .u64 7] 28 (0, 0)) := by rw [hW]; exact blk_new v _
 have hg2' : W4.heap[g2]? = some (.cells xA 28 (0, 0)) := by rw [hW]; exact blk_alloc hg2 _
 have hg3' : W4.heap[g3]? = some (.cells xA 28 (0, 0)) := by rw [hW]; exact blk_alloc hg3 _
 generalize v.heap.size = g4 at hn ⊢
 clear hA hb hb0 hW x0 x1 x2 y0 y1 y2 hg2 hg3
 have HA4 := aM' hA4
 have Hg4 := aM' hn
 have Hg2 := aM' hg2'
 have Hg3 := aM' hg3'
 clear hA4 hn HA3 v hg2' hg3'
 have x0 : W4.cell? ⟨w.heap.size, 0, none⟩ = some (.string ⟨#[97]⟩) := blk_cell HA4.out.h1 0
 have x1 : W4.cell? ⟨w.heap.size, 1, none⟩ = some (.int .u64 0) := blk_cell HA4.out.h1 1
 have x2 : W4.cell? ⟨w.heap.size, 2, none⟩ = some (.int .u64 3) := blk_cell HA4.out.h1 2
 have y0 : W4.cell? ⟨w.heap.size + 1, 0, none⟩ = some (.string ⟨#[98]⟩) := blk_cell HA4.out.h2 0
 have y1 : W4.cell? ⟨w.heap.size + 1, 1, none⟩ = some (.int .u64 0) := blk_cell HA4.out.h2 1
 have y2 : W4.cell? ⟨w.heap.size + 1, 2, none⟩ = some (.int .u64 4) := blk_cell HA4.out.h2 2
 go_wp2_with fail
 refine (node_Join.calls k2 1 ⟨#[97]⟩ 0 3 ⟨#[98]⟩ 18446744073709551615 18446744073709551615 ⟨#[]⟩ 0 0 10 _ (HK.out.below HA4.out.hB) J2.out).mono ?_
 rintro e v ⟨rfl, hb0⟩
 go_upto_region 6 with (fail)
 have hb := hb0
 have hA := HA4.out.below hb
 have hg2 := blk_below Hg2.out hb
 have hg3 := blk_below Hg3.out hb
 have hg4 := blk_below Hg4.out hb
 obtain ⟨W5, hW⟩ : ∃ W5, W5 = v.alloc (.cells #[.string ⟨#[]⟩, .int .u64 0, .int .u64 0] 28) := ⟨_, rfl⟩
 rw [← hW]
 have hA5 : Aw1 w W5 := by rw [hW]; exact hA.below (below_alloc (Below.refl _ _) _)
 have hn : W5.heap[v.heap.size]? = some (.cells #[.string ⟨#[]⟩, .int .u64 0, .int .u64 0] 28 (0, 0)) := by rw [hW]; exact blk_new v _
 have hg2' : W5.heap[g2]? = some (.cells xA 28 (0, 0)) := by rw [hW]; exact blk_alloc hg2 _
 have hg3' : W5.heap[g3]? = some (.cells xA 28 (0, 0)) := by rw [hW]; exact blk_alloc hg3 _
 have hg4' : W5.heap[g4]? = some (.cells xA 28 (0, 0)) := by rw [hW]; exact blk_alloc hg4 _
 generalize v.heap.size = g5 at hn ⊢
 clear hA hb hb0 hW x0 x1 x2 y0 y1 y2 hg2 hg3 hg4
 have HA5 := aM' hA5
 have Hg5 := aM' hn
 have Hg2 := aM' hg2'
 have Hg3 := aM' hg3'
 have Hg4 := aM' hg4'
 clear hA5 hn HA4 v hg2' hg3' hg4'
 have x0 : W5.cell? ⟨w.heap.size, 0, none⟩ = some (.string ⟨#[97]⟩) := blk_cell HA5.out.h1 0
 have x1 : W5.cell? ⟨w.heap.size, 1, none⟩ = some (.int .u64 0) := blk_cell HA5.out.h1 1
 have x2 : W5.cell? ⟨w.heap.size, 2, none⟩ = some (.int .u64 3) := blk_cell HA5.out.h1 2
 have y0 : W5.cell? ⟨w.heap.size + 1, 0, none⟩ = some (.string ⟨#[98]⟩) := blk_cell HA5.out.h2 0
 have y1 : W5.cell? ⟨w.heap.size + 1, 1, none⟩ = some (.int .u64 0) := blk_cell HA5.out.h2 1
 have y2 : W5.cell? ⟨w.heap.size + 1, 2, none⟩ = some (.int .u64 4) := blk_cell HA5.out.h2 2
 go_wp2_with fail
 refine (node_Join.calls k3 2 ⟨#[97]⟩ 0 3 ⟨#[98]⟩ 0 4 ⟨#[]⟩ 0 0 70 _ (HK.out.below HA5.out.hB) J3.out).mono ?_
 rintro e v ⟨rfl, hb0⟩
 go_upto_region 7 with (fail)
 have hb := hb0
 have hA := HA5.out.below hb
 have hg2 := blk_below Hg2.out hb
 have hg3 := blk_below Hg3.out hb
 have hg4 := blk_below Hg4.out hb
 obtain ⟨W6, hW⟩ : ∃ W6, W6 = v.alloc (.cells #[.string ⟨#[]⟩, .int .u64 0, .int .u64 0] 28) := ⟨_, rfl⟩
 rw [← hW]
 have hA6 : Aw1 w W6 := by rw [hW]; exact hA.below (below_alloc (Below.refl _ _) _)
 have hn : W6.heap[v.heap.size]? = some (.cells #[.string ⟨#[]⟩, .int .u64 0, .int .u64 0] 28 (0, 0)) := by rw [hW]; exact blk_new v _
 have hg2' : W6.heap[g2]? = some (.cells xA 28 (0, 0)) := by rw [hW]; exact blk_alloc hg2 _
 have hg3' : W6.heap[g3]? = some (.cells xA 28 (0, 0)) := by rw [hW]; exact blk_alloc hg3 _
 have hg4' : W6.heap[g4]? = some (.cells xA 28 (0, 0)) := by rw [hW]; exact blk_alloc hg4 _
 generalize v.heap.size = g6 at hn ⊢
 clear hA hb hb0 hW x0 x1 x2 y0 y1 y2 hg2 hg3 hg4
 have HA6 := aM' hA6
 have Hg6 := aM' hn
 have Hg2 := aM' hg2'
 have Hg3 := aM' hg3'
 have Hg4 := aM' hg4'
 clear hA6 hn HA5 v hg2' hg3' hg4'
 have x0 : W6.cell? ⟨w.heap.size, 0, none⟩ = some (.string ⟨#[97]⟩) := blk_cell HA6.out.h1 0
 have x1 : W6.cell? ⟨w.heap.size, 1, none⟩ = some (.int .u64 0) := blk_cell HA6.out.h1 1
 have x2 : W6.cell? ⟨w.heap.size, 2, none⟩ = some (.int .u64 3) := blk_cell HA6.out.h1 2
 have y0 : W6.cell? ⟨w.heap.size + 1, 0, none⟩ = some (.string ⟨#[98]⟩) := blk_cell HA6.out.h2 0
 have y1 : W6.cell? ⟨w.heap.size + 1, 1, none⟩ = some (.int .u64 0) := blk_cell HA6.out.h2 1
 have y2 : W6.cell? ⟨w.heap.size + 1, 2, none⟩ = some (.int .u64 4) := blk_cell HA6.out.h2 2
 have q1 : Kd.C kNode (W6.alloc (.cells #[.string ⟨#[97]⟩, .int .u64 0, .int .u64 3, .string ⟨#[98]⟩, .int .u64 0, .int .u64 4, .string ⟨#[97]⟩, .int .u64 0, .int .u64 3] 28)) (some ⟨W6.heap.size, 0, none⟩) ([aN, bN, aN]).length [aN, bN, aN] := lit_C (xs := [aN, bN, aN]) (blk_new W6 (.cells #[.string ⟨#[97]⟩, .int .u64 0, .int .u64 3, .string ⟨#[98]⟩, .int .u64 0, .int .u64 4, .string ⟨#[97]⟩, .int .u64 0, .int .u64 3] 28)) rfl (by decide)
 have q2 : Laid (W6.alloc (.cells #[.string ⟨#[97]⟩, .int .u64 0, .int .u64 3, .string ⟨#[98]⟩, .int .u64 0, .int .u64 4, .string ⟨#[97]⟩, .int .u64 0, .int .u64 3] 28)) := (HK.out.below HA6.out.hB).below (below_alloc (Below.refl _ _) _)
 have q3 := node_Fold.calls 1 (some ⟨W6.heap.size, 0, none⟩) 3 [aN, bN, aN] ⟨#[]⟩ 0 0 2 (W6.alloc (.cells #[.string ⟨#[97]⟩, .int .u64 0, .int .u64 3, .string ⟨#[98]⟩, .int .u64 0, .int .u64 4, .string ⟨#[97]⟩, .int .u64 0, .int .u64 3] 28)) q2 q1 (by decide) F2.out
 have Q := aM' q3
 clear q1 q2 q3
 go_wp2_with fail
 refine (Q.out).mono ?_
 rintro e v ⟨rfl, hb0⟩
 go_upto_region 8 with (fail)
 have hb := Below.trans (below_alloc (Below.refl _ W6) (.cells #[.string ⟨#[97]⟩, .int .u64 0, .int .u64 3, .string ⟨#[98]⟩, .int .u64 0, .int .u64 4, .string ⟨#[97]⟩, .int .u64 0, .int .u64 3] 28)) (hb0.mono (by simp))
 have hA := HA6.out.below hb
 have hg2 := blk_below Hg2.out hb
 have hg3 := blk_below Hg3.out hb
 have hg4 := blk_below Hg4.out hb
 obtain ⟨W7, hW⟩ : ∃ W7, W7 = v.alloc (.cells #[.string ⟨#[]⟩, .int .u64 0, .int .u64 0] 28) := ⟨_, rfl⟩
 rw [← hW]
 have hA7 : Aw1 w W7 := by rw [hW]; exact hA.below (below_alloc (Below.refl _ _) _)
 have hn : W7.heap[v.heap.size]? = some (.cells #[.string ⟨#[]⟩, .int .u64 0, .int .u64 0] 28 (0, 0)) := by rw [hW]; exact blk_new v _
 have hg2' : W7.heap[g2]? = some (.cells xA 28 (0, 0)) := by rw [hW]; exact blk_alloc hg2 _
 have hg3' : W7.heap[g3]? = some (.cells xA 28 (0, 0)) := by rw [hW]; exact blk_alloc hg3 _
 have hg4' : W7.heap[g4]? = some (.cells xA 28 (0, 0)) := by rw [hW]; exact blk_alloc hg4 _
 generalize v.heap.size = g7 at hn ⊢
 clear hA hb hb0 hW x0 x1 x2 y0 y1 y2 hg2 hg3 hg4
 have HA7 := aM' hA7
 have Hg7 := aM' hn
 have Hg2 := aM' hg2'
 have Hg3 := aM' hg3'
 have Hg4 := aM' hg4'
 clear hA7 hn HA6 v hg2' hg3' hg4'
 have p0 : W7.cell? ⟨g2, 0, none⟩ = some (.string xB) := blk_cell Hg2.out 0
 have p1 : W7.cell? ⟨g2, 1, none⟩ = some (.int .u64 0) := blk_cell Hg2.out 1
 have p2 : W7.cell? ⟨g2, 2, none⟩ = some (.int .u64 7) := blk_cell Hg2.out 2
 have q0 : W7.cell? ⟨g3, 0, none⟩ = some (.string xB) := blk_cell Hg3.out 0
 have q1 : W7.cell? ⟨g3, 1, none⟩ = some (.int .u64 0) := blk_cell Hg3.out 1
 have q2 : W7.cell? ⟨g3, 2, none⟩ = some (.int .u64 7) := blk_cell Hg3.out 2
 have s0 : W7.cell? ⟨g4, 0, none⟩ = some (.string xB) := blk_cell Hg4.out 0
 have s1 : W7.cell? ⟨g4, 1, none⟩ = some (.int .u64 0) := blk_cell Hg4.out 1
 have s2 : W7.cell? ⟨g4, 2, none⟩ = some (.int .u64 7) := blk_cell Hg4.out 2
 have hxs : ((xB.size : Int) == 1) = true := by rw [xB_size]; rfl
 go_wp2
 go_ret
 exact ⟨rfl, HA7.out.hB⟩
def paymasterlaw14_awake.f : Option Bool := some true
theorem paymasterlaw14_awake.calls (r : Bool) (w : World) (hK : Laid w) (h : paymasterlaw14_awake.f = some r) : Calls Tryd.prog 17 #[] w fun e w' => e = .returned (.bool r) ∧ Below w.heap.size w w' := by
 cases h
 exact awake14.calls w hK
end Go.Proofs.YtijfifphcchbbaaDoor.P
namespace Go.Proofs.YtijfifphcchbbaaDoor.P
open Go.RowKit Go.Proofs.YtijfifphcchbbaaDoorW.PrintWords Go.Proofs.YtijfifphcchbbaaDoorW.PrintLast Go.Proofs.YtijfifphcchbbaaDoorW.PrintMore
attribute [local go_sem] max2_int min2_int max_two min_two max_three min_three max_four min_four-- for this text's walks alone
set_option linter.unusedVariables false
set_option linter.unusedSimpArgs false
def paymasterlaw14_sums.l0 : Nat → List (SNode) → Int → Int → Int → Option (Int × Int × Bool)
 | 0, _, _, _, _ => none
 | k + 1, x0, x5, x186000, x186001 => if x5 < (x0.length : Int) then (if 0 ≤ x5 then ((u128_Add.f x186000 x186001 ((rd_TNode x0 x5).f1.f0) ((rd_TNode x0 x5).f1.f1)).bind fun bt187 => (if bt187.2.2 = 0 then (paymasterlaw14_sums.l0 k x0 (wrap64 (x5 + 1)) bt187.1 bt187.2.1) else (some (0, 0, false)))) else (none)) else (some (x186000, x186001, true))
def paymasterlaw14_sums.f (k : Nat) (l0 : List (SNode)) : Option (Int × Int × Bool) := paymasterlaw14_sums.l0 k l0 0 0 0
def paymasterlaw14_sums.T5 : Bool × List (List Nat × List Nat) := (true, [([], []), ([], []), ([], []), ([1, 2], [1, 2]), ([3], [3]), ([4], [4]), ([0, 5], [0, 5]), ([6], [6]), ([7], [7]), ([7], [7]), ([], []), ([10, 8, 6, 0, 1, 2, 3, 4, 5, 6, 7, 8, 10], [8, 10]), ([9, 11, 0, 1, 2, 3, 4, 5, 6, 7, 8, 9, 10, 11], [9])])
def paymasterlaw14_sums.B5 : List Nat := [0, 0, 0, 6, 14, 30, 63, 127, 255, 255, 0, 1535, 4095]
theorem paymasterlaw14_sums.tab5 : rtab .any (opsOf Tryd.f18 5) = paymasterlaw14_sums.T5 := by kernel_rfl
theorem paymasterlaw14_sums.bits5 : waitsOk paymasterlaw14_sums.T5.2 paymasterlaw14_sums.B5 = true := by kernel_rfl
set_option maxHeartbeats 8000000 in
set_option maxRecDepth 100000 in
theorem paymasterlaw14_sums.calls (k : Nat) (A0 : Option Addr) (c0 : Nat) (l0 : List (SNode)) (r1 : Int) (r2 : Int) (r3 : Bool) (w : World) (hr0 : Kd.C kNode w A0 l0.length l0) (hc0 : l0.length ≤ c0) (h : paymasterlaw14_sums.f k l0 = some (r1, r2, r3)) :
  Calls Tryd.prog 18 #[.slice A0 l0.length c0] w fun e w' => e = .returned (.tuple #[.agg #[.int .u64 r1, .int .u64 r2], .bool r3]) ∧ Below w.heap.size w w' := by
 have hu26 := Tryd.underlying26
 have HR0 := aM' hr0
 have HC0 := aM' hc0
 clear hr0 hc0
 have HB := aM' (Below.refl w.heap.size w)
 have H : (paymasterlaw14_sums.l0 k l0 0 0 0) = some (r1, r2, r3) := h
 clear h
 have H' := aM' H
 clear H
 go_enter Tryd.func18, Tryd.ntmps18
 go_wp2_with (first | ((with_reducible refine gate_dst (N := 2) rfl ?_); refine box_event ?hg (N := 2) ?hd (cs := #[.int .u64 0, .int .u64 0]) (t := 26) ?hr ?_; (case hd => rfl); (case hg => rfl); (case hr => first | (go_simp; done) | (go_simp; rfl)); intro gb184 hg w2 hbox hb; have n0_ := aM' (below_step (by repeat (first | (with_reducible first | exact HB.out | apply below_alloc | apply pw_below_drewN | apply below_drew1) | exact HB.out)) hb); have n1_ := aM' (hbox); have n2_ := aM' ((by rw [hg]; exact (below_size (by repeat (first | (with_reducible first | exact HB.out | apply below_alloc | apply pw_below_drewN | apply below_drew1) | exact HB.out))) : w.heap.size ≤ gb184)); have n3_ := aM' ((by rw [hg]; exact (below_size (by repeat (first | (with_reducible first | exact HB.out | apply below_alloc | apply pw_below_drewN | apply below_drew1) | exact HB.out))) : w.heap.size ≤ gb184)); clear HB; have HB := n0_; have BK184 := n1_; have GW184 := n2_; have GE184 := n3_; clear n0_ n1_ n2_ n3_; clear hb hbox hg) | ((with_reducible refine gate_dst (N := 4) rfl ?_); refine box_event ?hg (N := 4) ?hd (cs := #[.int .u64 0, .int .u64 0]) (t := 26) ?hr ?_; (case hd => rfl); (case hg => rfl); (case hr => first | (go_simp; done) | (go_simp; rfl)); intro gb185 hg w3 hbox hb; have n0_ := aM' (blk_below (g := gb184) (o := .cells #[.int .u64 0, .int .u64 0] 26 (0, 0)) (by (with_reducible repeat (first | refine blk_drewN ?_ _ | refine blk_drew ?_ | refine blk_alloc ?_ _)); exact BK184.out) hb); have n1_ := aM' (below_step (by repeat (first | (with_reducible first | exact HB.out | apply below_alloc | apply pw_below_drewN | apply below_drew1 | refine below_set ?_ GE184.out) | exact HB.out)) hb); have n2_ := aM' (hbox); have n3_ := aM' ((by rw [hg]; exact (below_size (by repeat (first | (with_reducible first | exact HB.out | apply below_alloc | apply pw_below_drewN | apply below_drew1 | refine below_set ?_ GE184.out) | exact HB.out))) : w.heap.size ≤ gb185)); have n4_ := aM' ((by rw [hg]; exact (below_size (by repeat (first | (with_reducible first | exact HB.out | apply below_alloc | apply pw_below_drewN | apply below_drew1 | refine below_set ?_ GE184.out) | exact HB.out))) : w.heap.size ≤ gb185)); have n5_ := aM' ((by rw [hg]; exact Nat.ne_of_lt (blk_lt (g := gb184) (o := .cells #[.int .u64 0, .int .u64 0] 26 (0, 0)) (by (with_reducible repeat (first | refine blk_drewN ?_ _ | refine blk_drew ?_ | refine blk_alloc ?_ _)); exact BK184.out)) : gb184 ≠ gb185)); have n6_ := aM' ((by rw [hg]; exact Nat.ne_of_gt (blk_lt (g := gb184) (o := .cells #[.int .u64 0, .int .u64 0] 26 (0, 0)) (by (with_reducible repeat (first | refine blk_drewN ?_ _ | refine blk_drew ?_ | refine blk_alloc ?_ _)); exact BK184.out)) : gb185 ≠ gb184)); clear BK184; clear HB; have BK184 := n0_; have HB := n1_; have BK185 := n2_; have GW185 := n3_; have GE185 := n4_; have NB184_185 := n5_; have NB185_184 := n6_; clear n0_ n1_ n2_ n3_ n4_ n5_ n6_; clear hb hbox hg))
 go_loopg [5] k (fun kq v5 w' => ∃ (x5_1 : Int) (x185000_1 : Int) (x185001_1 : Int) (x186000_1 : Int) (x186001_1 : Int), v5 = .int .i64 x5_1 ∧ Aside0 (paymasterlaw14_sums.l0 kq l0 x5_1 x186000_1 x186001_1 = some (r1, r2, r3)) ∧ Aside0 (kq ≤ k) ∧ Aside0 (w'.heap[gb184]? = some (.cells #[.int .u64 x185000_1, .int .u64 x185001_1] 26 (0, 0))) ∧ Aside0 (w'.heap[gb185]? = some (.cells #[.int .u64 x186000_1, .int .u64 x186001_1] 26 (0, 0))) ∧ Aside0 (Below w.heap.size w w'))
 case atStart => exact ⟨(0), (0), (0), (0), (0), (by first | rfl | (simp; done) | (simp [*]; done)), H', ⟨Nat.le_refl _⟩, ⟨by (with_reducible repeat (first | refine blk_drewN ?_ _ | refine blk_drew ?_ | refine blk_alloc ?_ _)); exact BK184.out⟩, ⟨by (with_reducible repeat (first | refine blk_drewN ?_ _ | refine blk_drew ?_ | refine blk_alloc ?_ _)); exact BK185.out⟩, ⟨by repeat (first | (with_reducible first | exact HB.out | apply below_alloc | apply pw_below_drewN | apply below_drew1 | refine below_set ?_ GE184.out | refine below_set ?_ GE185.out) | exact HB.out)⟩⟩
 case round =>
  clear H'
  try clear c1
  try clear p2
  obtain ⟨x5_1, x185000_1, x185001_1, x186000_1, x186001_1, rfl, HA, HK1, BK184, BK185, HB⟩ := hrel
  cases gk with
  | zero => exact absurd HA.out (by simp [paymasterlaw14_sums.l0])
  | succ k1 =>
   have H := HA.out
   clear HA
   simp only [paymasterlaw14_sums.l0] at H
   by_cases c4 : x5_1 < (l0.length : Int)
   ·
    rw [if_pos c4] at H
    have c4b0 : decide (x5_1 < (l0.length : Int)) = true := decide_eq_true c4
    clear c4
    by_cases c5 : 0 ≤ x5_1
    ·
     rw [if_pos c5] at H
     have c5b0 : decide (0 ≤ x5_1) = true := decide_eq_true c5
     clear c5
     replace H := Option.bind_eq_some_iff.mp H
     obtain ⟨⟨t187, t188, t189⟩, A60, H⟩ := H
     replace H : (if t189 = 0 then (paymasterlaw14_sums.l0 k1 l0 (wrap64 (x5_1 + 1)) t187 t188) else (some (0, 0, false))) = some (r1, r2, r3) := H
     have A6 := aM' A60
     clear A60
     by_cases c7 : t189 = 0
     ·
      rw [if_pos c7] at H
      have c7b0 : (t189 == 0) = true := beq_iff_eq.mpr c7
      have c7b1 : (t189 != 0) = false := bne_eq_false_iff_eq.mpr c7
      clear c7
      have H' := aM' H
      clear H
      try go_wp2
      have n0_ := aM' (blk_drew BK184.out)
      have n1_ := aM' (blk_drew BK185.out)
      have n2_ := aM' (below_drew1 HB.out)
      clear BK184
      clear BK185
      clear HB
      have BK184 := n0_
      have BK185 := n1_
      have HB := n2_
      clear n0_ n1_ n2_
      have p186 : 0 ≤ (x5_1 : Int) := of_decide_eq_true (by first | (with_reducible assumption) | assumption)
      have q186 : x5_1 < (l0.length : Int) := of_decide_eq_true (by first | (with_reducible assumption) | assumption)
      obtain ⟨ad186, e186, hx186_0, hx186_1, hx186_2⟩ := at_TNode HR0.out x5_1 p186 q186
      have hw186_2 := hx186_2
      have hw186_1 := hx186_1
      have hw186_0 := hx186_0
      cases e186
      replace hx186_0 := (HB.out.cell (bL' w _ hx186_0)).trans hx186_0
      replace hx186_1 := (HB.out.cell (bL' w _ hx186_1)).trans hx186_1
      replace hx186_2 := (HB.out.cell (bL' w _ hx186_2)).trans hx186_2
      replace p186 := eq_true p186
      replace q186 := eq_true q186
      refine start_ (n := 13) (S := fun w' => w'.cell? ⟨gb185, 0, none⟩ = some (.int .u64 x186000_1) ∧ w'.cell? ⟨gb185, 1, none⟩ = some (.int .u64 x186001_1) ∧ w'.cell? (ad186.add ((x5_1).toNat * 3)) = some (.string ((rd_TNode l0 x5_1).f0)) ∧ w'.cell? ⟨(ad186.add ((x5_1).toNat * 3)).block, (ad186.add ((x5_1).toNat * 3)).off + 1, none⟩ = some (.int .u64 ((rd_TNode l0 x5_1).f1.f0)) ∧ w'.cell? ⟨(ad186.add ((x5_1).toNat * 3)).block, (ad186.add ((x5_1).toNat * 3)).off + 2, none⟩ = some (.int .u64 ((rd_TNode l0 x5_1).f1.f1))) (ds := []) #[false, false, false, false, false, false, false, false, false, false, false, false, false] (by kernel_rfl) rfl rfl ⟨(blk_cell BK185.out 0).trans rfl, (blk_cell BK185.out 1).trans rfl, ((HB.out.cell (bL' w _ hw186_0)).trans hw186_0), ((HB.out.cell (bL' w _ hw186_1)).trans hw186_1), ((HB.out.cell (bL' w _ hw186_2)).trans hw186_2)⟩ (fun hHeld => ?_); refine with_tabW paymasterlaw14_sums.tab5 paymasterlaw14_sums.bits5 (fun HT_ HW_ => ?_)
      generalize wr.drew = w8 at BK184 BK185 HB hx186_0 hx186_1 hx186_2 hHeld ⊢
      refine pure_ (i := 1) (N := some 16) (v := ?_) (a' := ?_) #[false, true, false, false, false, false, false, false, false, false, false, false, false] rfl rfl (any_of HT_.out (by kernel_rfl)) (fun _ _ _ h => h) (Or.inl ⟨by rfl, ?_⟩) ?_ ?_
      rotate_left
      ·
       intro w'
       go_simp
       with_reducible rfl
      rotate_left
      ·
       simp only [Act.put, List.setIfInBounds_toArray, List.set_cons_zero, List.set_cons_succ, i64_w, i32_w]
       rfl
      refine pure_ (i := 2) (N := some 17) (v := ?_) (a' := ?_) #[false, true, true, false, false, false, false, false, false, false, false, false, false] rfl rfl (any_of HT_.out (by kernel_rfl)) (fun _ _ _ h => h) (Or.inl ⟨by rfl, ?_⟩) ?_ ?_
      rotate_left
      ·
       intro w'
       go_simp
       with_reducible rfl
      rotate_left
      ·
       simp only [Act.put, List.setIfInBounds_toArray, List.set_cons_zero, List.set_cons_succ, i64_w, i32_w]
       rfl
      refine pure_ (i := 3) (N := some 18) (v := ?_) (a' := ?_) #[false, true, true, true, false, false, false, false, false, false, false, false, false] rfl rfl (any_of HT_.out (by kernel_rfl)) (fun _ _ _ h => h) (Or.inl ⟨by rfl, ?_⟩) ?_ ?_
      rotate_left
      ·
       intro w'
       go_simp
       with_reducible rfl
      rotate_left
      ·
       simp only [Act.put, List.setIfInBounds_toArray, List.set_cons_zero, List.set_cons_succ, i64_w, i32_w]
       rfl
      refine pure_ (i := 4) (N := some 19) (v := ?_) (a' := ?_) #[false, true, true, true, true, false, false, false, false, false, false, false, false] rfl rfl (any_of HT_.out (by kernel_rfl)) (fun _ _ _ h => h) (Or.inl ⟨by rfl, ?_⟩) ?_ ?_
      rotate_left
      ·
       intro w'
       go_simp
       with_reducible rfl
      rotate_left
      ·
       simp only [Act.put, List.setIfInBounds_toArray, List.set_cons_zero, List.set_cons_succ, i64_w, i32_w]
       rfl
      refine take_ (i := 0) (N := some 15) (v := ?_) (a' := ?_) #[true, true, true, true, true, false, false, false, false, false, false, false, false] rfl rfl (take_ofW HT_.out HW_.out (by kernel_rfl)) (fun _ _ _ h => h) (Or.inl ⟨by rfl, ?_⟩) hHeld ?_ ?_
      rotate_left
      ·
       rintro w' ⟨s0, s1, s2, s3, s4⟩
       go_simp
       with_reducible rfl
      rotate_left
      ·
       simp only [Act.put, List.setIfInBounds_toArray, List.set_cons_zero, List.set_cons_succ, i64_w, i32_w]
       rfl
      refine take_ (i := 5) (N := some 20) (v := ?_) (a' := ?_) #[true, true, true, true, true, true, false, false, false, false, false, false, false] rfl rfl (take_ofW HT_.out HW_.out (by kernel_rfl)) (fun _ _ _ h => h) (Or.inl ⟨by rfl, ?_⟩) hHeld ?_ ?_
      rotate_left
      ·
       rintro w' ⟨s0, s1, s2, s3, s4⟩
       go_simp
       with_reducible rfl
      rotate_left
      ·
       simp only [Act.put, List.setIfInBounds_toArray, List.set_cons_zero, List.set_cons_succ, i64_w, i32_w]
       rfl
      refine join_ (σ := Nat) 2 #[true, true, true, true, true, true, true, true, true, true, true, false, false] (fun s_ => [(21, .tuple #[.agg #[.int .u64 t187, .int .u64 t188], .int .i64 t189]), (6, .pointer (some ⟨s_, 0, none⟩)), (14, .tuple #[.agg #[.int .u64 t187, .int .u64 t188], .int .i64 t189]), (22, .agg #[.int .u64 t187, .int .u64 t188]), (23, .int .i64 t189)]) (fun s_ w' => (w'.cell? ⟨gb185, 0, none⟩ = some (.int .u64 x186000_1) ∧ w'.cell? ⟨gb185, 1, none⟩ = some (.int .u64 x186001_1) ∧ w'.cell? (ad186.add ((x5_1).toNat * 3)) = some (.string ((rd_TNode l0 x5_1).f0)) ∧ w'.cell? ⟨(ad186.add ((x5_1).toNat * 3)).block, (ad186.add ((x5_1).toNat * 3)).off + 1, none⟩ = some (.int .u64 ((rd_TNode l0 x5_1).f1.f0)) ∧ w'.cell? ⟨(ad186.add ((x5_1).toNat * 3)).block, (ad186.add ((x5_1).toNat * 3)).off + 2, none⟩ = some (.int .u64 ((rd_TNode l0 x5_1).f1.f1))) ∧ (w'.heap[gb184]? = some (.cells #[.int .u64 x185000_1, .int .u64 x185001_1] 26 (0, 0))) ∧ (w'.heap[gb185]? = some (.cells #[.int .u64 x186000_1, .int .u64 x186001_1] 26 (0, 0))) ∧ (w'.heap[s_]? = some (.cells #[.int .u64 0, .int .u64 0] 26 (0, 0))) ∧ (w.heap.size ≤ s_) ∧ (w.heap.size ≤ s_) ∧ (gb184 ≠ s_) ∧ (s_ ≠ gb184) ∧ (gb185 ≠ s_) ∧ (s_ ≠ gb185) ∧ (Below w.heap.size w w')) ?_ ?_
      rotate_left
      ·
       intro hCont
       refine two_ (i := 6) (j := 10) (Ni := some 21) (Nj := some 6) #[true, true, true, true, true, true, true, false, false, false, false, false, false] #[true, true, true, true, true, true, false, false, false, false, true, false, false] rfl rfl rfl rfl (two_of HT_.out (by kernel_rfl)) (by decide) (by decide) (fun K hK => ?_) (fun K hK => ?_)
       ·
        skip
        refine goes_ Tryd.func61 (by kernel_rfl) rfl #[.agg #[.int .u64 x186000_1, .int .u64 x186001_1], .agg #[.int .u64 ((rd_TNode l0 x5_1).f1.f0), .int .u64 ((rd_TNode l0 x5_1).f1.f1)]] (by rfl) rfl rfl (by (try simp only [List.map_toArray, List.map_cons, List.map_nil]); first | done | rfl | (simp only [List.length_drop, List.length_take]; rfl)) ?_
        with_reducible refine (u128_Add.calls x186000_1 x186001_1 ((rd_TNode l0 x5_1).f1.f0) ((rd_TNode l0 x5_1).f1.f1) t187 t188 t189 _ A6.out).mono ?_
        rintro e w9 ⟨rfl, hb⟩
        refine ⟨_, rfl, ?_⟩
        have n0_ := aM' (blk_below (g := gb184) (o := .cells #[.int .u64 x185000_1, .int .u64 x185001_1] 26 (0, 0)) (by (with_reducible repeat (first | refine blk_drewN ?_ _ | refine blk_drew ?_ | refine blk_alloc ?_ _)); exact BK184.out) hb)
        have n1_ := aM' (blk_below (g := gb185) (o := .cells #[.int .u64 x186000_1, .int .u64 x186001_1] 26 (0, 0)) (by (with_reducible repeat (first | refine blk_drewN ?_ _ | refine blk_drew ?_ | refine blk_alloc ?_ _)); exact BK185.out) hb)
        have n2_ := aM' (below_step (by repeat (first | (with_reducible first | exact HB.out | apply below_alloc | apply pw_below_drewN | apply below_drew1 | refine below_set ?_ GE184.out | refine below_set ?_ GE185.out) | exact HB.out)) hb)
        clear BK184
        clear BK185
        clear HB
        have BK184 := n0_
        have BK185 := n1_
        have HB := n2_
        clear n0_ n1_ n2_
        (try clear hb)
        (try clear hb2)
        (try clear hk)
        (try clear hi)
        refine hK.out _ _ ⟨(blk_cell BK185.out 0).trans rfl, (blk_cell BK185.out 1).trans rfl, ((HB.out.cell (bL' w _ hw186_0)).trans hw186_0), ((HB.out.cell (bL' w _ hw186_1)).trans hw186_1), ((HB.out.cell (bL' w _ hw186_2)).trans hw186_2)⟩ (fun hHeld => ?_)
        clear hK K
        refine norm_ (a' := ?_) ?_ ?_
        rotate_left
        ·
         show Act.put _ (some 21) _ = _
         simp only [Act.put, List.setIfInBounds_toArray, List.set_cons_zero, List.set_cons_succ, i64_w, i32_w]
         rfl
        refine pure_ (i := 7) (N := some 14) (v := ?_) (a' := ?_) #[true, true, true, true, true, true, true, true, false, false, false, false, false] rfl rfl (any_of HT_.out (by kernel_rfl)) (fun _ _ _ h => h) (Or.inl ⟨by rfl, ?_⟩) ?_ ?_
        rotate_left
        ·
         intro w'
         go_simp
         with_reducible rfl
        rotate_left
        ·
         simp only [Act.put, List.setIfInBounds_toArray, List.set_cons_zero, List.set_cons_succ, i64_w, i32_w]
         rfl
        refine pure_ (i := 8) (N := some 22) (v := ?_) (a' := ?_) #[true, true, true, true, true, true, true, true, true, false, false, false, false] rfl rfl (any_of HT_.out (by kernel_rfl)) (fun _ _ _ h => h) (Or.inl ⟨by rfl, ?_⟩) ?_ ?_
        rotate_left
        ·
         intro w'
         go_simp
         with_reducible rfl
        rotate_left
        ·
         simp only [Act.put, List.setIfInBounds_toArray, List.set_cons_zero, List.set_cons_succ, i64_w, i32_w]
         rfl
        refine pure_ (i := 9) (N := some 23) (v := ?_) (a' := ?_) #[true, true, true, true, true, true, true, true, true, true, false, false, false] rfl rfl (any_of HT_.out (by kernel_rfl)) (fun _ _ _ h => h) (Or.inl ⟨by rfl, ?_⟩) ?_ ?_
        rotate_left
        ·
         intro w'
         go_simp
         with_reducible rfl
        rotate_left
        ·
         simp only [Act.put, List.setIfInBounds_toArray, List.set_cons_zero, List.set_cons_succ, i64_w, i32_w]
         rfl
        refine one_ (i := 10) (N := some 6) #[true, true, true, true, true, true, true, true, true, true, true, false, false] rfl rfl (one_of HT_.out (by kernel_rfl)) (by decide) (fun K hK => ?_)
        refine box_step ?hg (N := 6) ?hd (cs := #[.int .u64 0, .int .u64 0]) (t := 26) ?hr ?_; (case hd => rfl); (case hg => rfl); (case hr => first | (go_simp; done) | (go_simp; rfl))
        intro gb190 hg w10 hbox hb
        have n0_ := aM' (blk_below (g := gb184) (o := .cells #[.int .u64 x185000_1, .int .u64 x185001_1] 26 (0, 0)) (by (with_reducible repeat (first | refine blk_drewN ?_ _ | refine blk_drew ?_ | refine blk_alloc ?_ _)); exact BK184.out) hb)
        have n1_ := aM' (blk_below (g := gb185) (o := .cells #[.int .u64 x186000_1, .int .u64 x186001_1] 26 (0, 0)) (by (with_reducible repeat (first | refine blk_drewN ?_ _ | refine blk_drew ?_ | refine blk_alloc ?_ _)); exact BK185.out) hb)
        have n2_ := aM' (below_step (by repeat (first | (with_reducible first | exact HB.out | apply below_alloc | apply pw_below_drewN | apply below_drew1 | refine below_set ?_ GE184.out | refine below_set ?_ GE185.out) | exact HB.out)) hb)
        have n3_ := aM' (hbox)
        have n4_ := aM' ((by rw [hg]; exact (below_size (by repeat (first | (with_reducible first | exact HB.out | apply below_alloc | apply pw_below_drewN | apply below_drew1 | refine below_set ?_ GE184.out | refine below_set ?_ GE185.out) | exact HB.out))) : w.heap.size ≤ gb190))
        have n5_ := aM' ((by rw [hg]; exact (below_size (by repeat (first | (with_reducible first | exact HB.out | apply below_alloc | apply pw_below_drewN | apply below_drew1 | refine below_set ?_ GE184.out | refine below_set ?_ GE185.out) | exact HB.out))) : w.heap.size ≤ gb190))
        have n6_ := aM' ((by rw [hg]; exact Nat.ne_of_lt (blk_lt (g := gb184) (o := .cells #[.int .u64 x185000_1, .int .u64 x185001_1] 26 (0, 0)) (by (with_reducible repeat (first | refine blk_drewN ?_ _ | refine blk_drew ?_ | refine blk_alloc ?_ _)); exact BK184.out)) : gb184 ≠ gb190))
        have n7_ := aM' ((by rw [hg]; exact Nat.ne_of_gt (blk_lt (g := gb184) (o := .cells #[.int .u64 x185000_1, .int .u64 x185001_1] 26 (0, 0)) (by (with_reducible repeat (first | refine blk_drewN ?_ _ | refine blk_drew ?_ | refine blk_alloc ?_ _)); exact BK184.out)) : gb190 ≠ gb184))
        have n8_ := aM' ((by rw [hg]; exact Nat.ne_of_lt (blk_lt (g := gb185) (o := .cells #[.int .u64 x186000_1, .int .u64 x186001_1] 26 (0, 0)) (by (with_reducible repeat (first | refine blk_drewN ?_ _ | refine blk_drew ?_ | refine blk_alloc ?_ _)); exact BK185.out)) : gb185 ≠ gb190))
        have n9_ := aM' ((by rw [hg]; exact Nat.ne_of_gt (blk_lt (g := gb185) (o := .cells #[.int .u64 x186000_1, .int .u64 x186001_1] 26 (0, 0)) (by (with_reducible repeat (first | refine blk_drewN ?_ _ | refine blk_drew ?_ | refine blk_alloc ?_ _)); exact BK185.out)) : gb190 ≠ gb185))
        clear BK184
        clear BK185
        clear HB
        have BK184 := n0_
        have BK185 := n1_
        have HB := n2_
        have BK190 := n3_
        have GW190 := n4_
        have GE190 := n5_
        have NB184_190 := n6_
        have NB190_184 := n7_
        have NB185_190 := n8_
        have NB190_185 := n9_
        clear n0_ n1_ n2_ n3_ n4_ n5_ n6_ n7_ n8_ n9_
        clear hb hbox hg
        refine hK.out _ _ ⟨(blk_cell BK185.out 0).trans rfl, (blk_cell BK185.out 1).trans rfl, ((HB.out.cell (bL' w _ hw186_0)).trans hw186_0), ((HB.out.cell (bL' w _ hw186_1)).trans hw186_1), ((HB.out.cell (bL' w _ hw186_2)).trans hw186_2)⟩ (fun hHeld => ?_)
        clear hK K
        refine norm_ (a' := ?_) ?_ ?_
        rotate_left
        ·
         show Act.put _ (some 6) _ = _
         simp only [Act.put, List.setIfInBounds_toArray, List.set_cons_zero, List.set_cons_succ, i64_w, i32_w]
         rfl
        exact norm_ (by simp only [putAll, Act.put, List.setIfInBounds_toArray, List.set_cons_zero, List.set_cons_succ]) (hCont (gb190) _ ⟨hHeld, (by (with_reducible repeat (first | refine blk_drewN ?_ _ | refine blk_drew ?_ | refine blk_alloc ?_ _)); exact BK184.out), (by (with_reducible repeat (first | refine blk_drewN ?_ _ | refine blk_drew ?_ | refine blk_alloc ?_ _)); exact BK185.out), (by (with_reducible repeat (first | refine blk_drewN ?_ _ | refine blk_drew ?_ | refine blk_alloc ?_ _)); exact BK190.out), GW190.out, GE190.out, NB184_190.out, NB190_184.out, NB185_190.out, NB190_185.out, (by repeat (first | (with_reducible first | exact HB.out | apply below_alloc | apply pw_below_drewN | apply below_drew1 | refine below_set ?_ GE184.out | refine below_set ?_ GE185.out | refine below_set ?_ GE190.out) | exact HB.out))⟩)
       ·
        skip
        refine box_step ?hg (N := 6) ?hd (cs := #[.int .u64 0, .int .u64 0]) (t := 26) ?hr ?_; (case hd => rfl); (case hg => rfl); (case hr => first | (go_simp; done) | (go_simp; rfl))
        intro gb190 hg w9 hbox hb
        have n0_ := aM' (blk_below (g := gb184) (o := .cells #[.int .u64 x185000_1, .int .u64 x185001_1] 26 (0, 0)) (by (with_reducible repeat (first | refine blk_drewN ?_ _ | refine blk_drew ?_ | refine blk_alloc ?_ _)); exact BK184.out) hb)
        have n1_ := aM' (blk_below (g := gb185) (o := .cells #[.int .u64 x186000_1, .int .u64 x186001_1] 26 (0, 0)) (by (with_reducible repeat (first | refine blk_drewN ?_ _ | refine blk_drew ?_ | refine blk_alloc ?_ _)); exact BK185.out) hb)
        have n2_ := aM' (below_step (by repeat (first | (with_reducible first | exact HB.out | apply below_alloc | apply pw_below_drewN | apply below_drew1 | refine below_set ?_ GE184.out | refine below_set ?_ GE185.out) | exact HB.out)) hb)
        have n3_ := aM' (hbox)
        have n4_ := aM' ((by rw [hg]; exact (below_size (by repeat (first | (with_reducible first | exact HB.out | apply below_alloc | apply pw_below_drewN | apply below_drew1 | refine below_set ?_ GE184.out | refine below_set ?_ GE185.out) | exact HB.out))) : w.heap.size ≤ gb190))
        have n5_ := aM' ((by rw [hg]; exact (below_size (by repeat (first | (with_reducible first | exact HB.out | apply below_alloc | apply pw_below_drewN | apply below_drew1 | refine below_set ?_ GE184.out | refine below_set ?_ GE185.out) | exact HB.out))) : w.heap.size ≤ gb190))
        have n6_ := aM' ((by rw [hg]; exact Nat.ne_of_lt (blk_lt (g := gb184) (o := .cells #[.int .u64 x185000_1, .int .u64 x185001_1] 26 (0, 0)) (by (with_reducible repeat (first | refine blk_drewN ?_ _ | refine blk_drew ?_ | refine blk_alloc ?_ _)); exact BK184.out)) : gb184 ≠ gb190))
        have n7_ := aM' ((by rw [hg]; exact Nat.ne_of_gt (blk_lt (g := gb184) (o := .cells #[.int .u64 x185000_1, .int .u64 x185001_1] 26 (0, 0)) (by (with_reducible repeat (first | refine blk_drewN ?_ _ | refine blk_drew ?_ | refine blk_alloc ?_ _)); exact BK184.out)) : gb190 ≠ gb184))
        have n8_ := aM' ((by rw [hg]; exact Nat.ne_of_lt (blk_lt (g := gb185) (o := .cells #[.int .u64 x186000_1, .int .u64 x186001_1] 26 (0, 0)) (by (with_reducible repeat (first | refine blk_drewN ?_ _ | refine blk_drew ?_ | refine blk_alloc ?_ _)); exact BK185.out)) : gb185 ≠ gb190))
        have n9_ := aM' ((by rw [hg]; exact Nat.ne_of_gt (blk_lt (g := gb185) (o := .cells #[.int .u64 x186000_1, .int .u64 x186001_1] 26 (0, 0)) (by (with_reducible repeat (first | refine blk_drewN ?_ _ | refine blk_drew ?_ | refine blk_alloc ?_ _)); exact BK185.out)) : gb190 ≠ gb185))
        clear BK184
        clear BK185
        clear HB
        have BK184 := n0_
        have BK185 := n1_
        have HB := n2_
        have BK190 := n3_
        have GW190 := n4_
        have GE190 := n5_
        have NB184_190 := n6_
        have NB190_184 := n7_
        have NB185_190 := n8_
        have NB190_185 := n9_
        clear n0_ n1_ n2_ n3_ n4_ n5_ n6_ n7_ n8_ n9_
        clear hb hbox hg
        refine hK.out _ _ ⟨(blk_cell BK185.out 0).trans rfl, (blk_cell BK185.out 1).trans rfl, ((HB.out.cell (bL' w _ hw186_0)).trans hw186_0), ((HB.out.cell (bL' w _ hw186_1)).trans hw186_1), ((HB.out.cell (bL' w _ hw186_2)).trans hw186_2)⟩ (fun hHeld => ?_)
        clear hK K
        refine norm_ (a' := ?_) ?_ ?_
        rotate_left
        ·
         show Act.put _ (some 6) _ = _
         simp only [Act.put, List.setIfInBounds_toArray, List.set_cons_zero, List.set_cons_succ, i64_w, i32_w]
         rfl
        refine one_ (i := 6) (N := some 21) #[true, true, true, true, true, true, true, false, false, false, true, false, false] rfl rfl (one_of HT_.out (by kernel_rfl)) (by decide) (fun K hK => ?_)
        refine goes_ Tryd.func61 (by kernel_rfl) rfl #[.agg #[.int .u64 x186000_1, .int .u64 x186001_1], .agg #[.int .u64 ((rd_TNode l0 x5_1).f1.f0), .int .u64 ((rd_TNode l0 x5_1).f1.f1)]] (by rfl) rfl rfl (by (try simp only [List.map_toArray, List.map_cons, List.map_nil]); first | done | rfl | (simp only [List.length_drop, List.length_take]; rfl)) ?_
        with_reducible refine (u128_Add.calls x186000_1 x186001_1 ((rd_TNode l0 x5_1).f1.f0) ((rd_TNode l0 x5_1).f1.f1) t187 t188 t189 _ A6.out).mono ?_
        rintro e w10 ⟨rfl, hb⟩
        refine ⟨_, rfl, ?_⟩
        have n0_ := aM' (blk_below (g := gb184) (o := .cells #[.int .u64 x185000_1, .int .u64 x185001_1] 26 (0, 0)) (by (with_reducible repeat (first | refine blk_drewN ?_ _ | refine blk_drew ?_ | refine blk_alloc ?_ _)); exact BK184.out) hb)
        have n1_ := aM' (blk_below (g := gb185) (o := .cells #[.int .u64 x186000_1, .int .u64 x186001_1] 26 (0, 0)) (by (with_reducible repeat (first | refine blk_drewN ?_ _ | refine blk_drew ?_ | refine blk_alloc ?_ _)); exact BK185.out) hb)
        have n2_ := aM' (blk_below (g := gb190) (o := .cells #[.int .u64 0, .int .u64 0] 26 (0, 0)) (by (with_reducible repeat (first | refine blk_drewN ?_ _ | refine blk_drew ?_ | refine blk_alloc ?_ _)); exact BK190.out) hb)
        have n3_ := aM' (below_step (by repeat (first | (with_reducible first | exact HB.out | apply below_alloc | apply pw_below_drewN | apply below_drew1 | refine below_set ?_ GE184.out | refine below_set ?_ GE185.out | refine below_set ?_ GE190.out) | exact HB.out)) hb)
        clear BK184
        clear BK185
        clear BK190
        clear HB
        have BK184 := n0_
        have BK185 := n1_
        have BK190 := n2_
        have HB := n3_
        clear n0_ n1_ n2_ n3_
        (try clear hb)
        (try clear hb2)
        (try clear hk)
        (try clear hi)
        refine hK.out _ _ ⟨(blk_cell BK185.out 0).trans rfl, (blk_cell BK185.out 1).trans rfl, ((HB.out.cell (bL' w _ hw186_0)).trans hw186_0), ((HB.out.cell (bL' w _ hw186_1)).trans hw186_1), ((HB.out.cell (bL' w _ hw186_2)).trans hw186_2)⟩ (fun hHeld => ?_)
        clear hK K
        refine norm_ (a' := ?_) ?_ ?_
        rotate_left
        ·
         show Act.put _ (some 21) _ = _
         simp only [Act.put, List.setIfInBounds_toArray, List.set_cons_zero, List.set_cons_succ, i64_w, i32_w]
         rfl
        refine pure_ (i := 7) (N := some 14) (v := ?_) (a' := ?_) #[true, true, true, true, true, true, true, true, false, false, true, false, false] rfl rfl (any_of HT_.out (by kernel_rfl)) (fun _ _ _ h => h) (Or.inl ⟨by rfl, ?_⟩) ?_ ?_
        rotate_left
        ·
         intro w'
         go_simp
         with_reducible rfl
        rotate_left
        ·
         simp only [Act.put, List.setIfInBounds_toArray, List.set_cons_zero, List.set_cons_succ, i64_w, i32_w]
         rfl
        refine pure_ (i := 8) (N := some 22) (v := ?_) (a' := ?_) #[true, true, true, true, true, true, true, true, true, false, true, false, false] rfl rfl (any_of HT_.out (by kernel_rfl)) (fun _ _ _ h => h) (Or.inl ⟨by rfl, ?_⟩) ?_ ?_
        rotate_left
        ·
         intro w'
         go_simp
         with_reducible rfl
        rotate_left
        ·
         simp only [Act.put, List.setIfInBounds_toArray, List.set_cons_zero, List.set_cons_succ, i64_w, i32_w]
         rfl
        refine pure_ (i := 9) (N := some 23) (v := ?_) (a' := ?_) #[true, true, true, true, true, true, true, true, true, true, true, false, false] rfl rfl (any_of HT_.out (by kernel_rfl)) (fun _ _ _ h => h) (Or.inl ⟨by rfl, ?_⟩) ?_ ?_
        rotate_left
        ·
         intro w'
         go_simp
         with_reducible rfl
        rotate_left
        ·
         simp only [Act.put, List.setIfInBounds_toArray, List.set_cons_zero, List.set_cons_succ, i64_w, i32_w]
         rfl
        exact norm_ (by simp only [putAll, Act.put, List.setIfInBounds_toArray, List.set_cons_zero, List.set_cons_succ]) (hCont (gb190) _ ⟨hHeld, (by (with_reducible repeat (first | refine blk_drewN ?_ _ | refine blk_drew ?_ | refine blk_alloc ?_ _)); exact BK184.out), (by (with_reducible repeat (first | refine blk_drewN ?_ _ | refine blk_drew ?_ | refine blk_alloc ?_ _)); exact BK185.out), (by (with_reducible repeat (first | refine blk_drewN ?_ _ | refine blk_drew ?_ | refine blk_alloc ?_ _)); exact BK190.out), GW190.out, GE190.out, NB184_190.out, NB190_184.out, NB185_190.out, NB190_185.out, (by repeat (first | (with_reducible first | exact HB.out | apply below_alloc | apply pw_below_drewN | apply below_drew1 | refine below_set ?_ GE184.out | refine below_set ?_ GE185.out | refine below_set ?_ GE190.out) | exact HB.out))⟩)
      rintro gb190 w11 ⟨hS_, h0_, h1_, h2_, h3_, h4_, h5_, h6_, h7_, h8_, h9_⟩
      have n0_ : Aside0 (w11.heap[gb184]? = some (.cells #[.int .u64 x185000_1, .int .u64 x185001_1] 26 (0, 0))) := ⟨h0_⟩
      have n1_ : Aside0 (w11.heap[gb185]? = some (.cells #[.int .u64 x186000_1, .int .u64 x186001_1] 26 (0, 0))) := ⟨h1_⟩
      have n2_ : Aside0 (w11.heap[gb190]? = some (.cells #[.int .u64 0, .int .u64 0] 26 (0, 0))) := ⟨h2_⟩
      have n3_ : Aside0 (w.heap.size ≤ gb190) := ⟨h3_⟩
      have n4_ : Aside0 (w.heap.size ≤ gb190) := ⟨h4_⟩
      have n5_ : Aside0 (gb184 ≠ gb190) := ⟨h5_⟩
      have n6_ : Aside0 (gb190 ≠ gb184) := ⟨h6_⟩
      have n7_ : Aside0 (gb185 ≠ gb190) := ⟨h7_⟩
      have n8_ : Aside0 (gb190 ≠ gb185) := ⟨h8_⟩
      have n9_ : Aside0 (Below w.heap.size w w11) := ⟨h9_⟩
      clear BK184
      clear BK185
      clear HB
      clear h0_ h1_ h2_ h3_ h4_ h5_ h6_ h7_ h8_ h9_
      have BK184 := n0_
      have BK185 := n1_
      have BK190 := n2_
      have GW190 := n3_
      have GE190 := n4_
      have NB184_190 := n5_
      have NB190_184 := n6_
      have NB185_190 := n7_
      have NB190_185 := n8_
      have HB := n9_
      clear n0_ n1_ n2_ n3_ n4_ n5_ n6_ n7_ n8_ n9_
      have hHeld : w11.cell? ⟨gb185, 0, none⟩ = some (.int .u64 x186000_1) ∧ w11.cell? ⟨gb185, 1, none⟩ = some (.int .u64 x186001_1) ∧ w11.cell? (ad186.add ((x5_1).toNat * 3)) = some (.string ((rd_TNode l0 x5_1).f0)) ∧ w11.cell? ⟨(ad186.add ((x5_1).toNat * 3)).block, (ad186.add ((x5_1).toNat * 3)).off + 1, none⟩ = some (.int .u64 ((rd_TNode l0 x5_1).f1.f0)) ∧ w11.cell? ⟨(ad186.add ((x5_1).toNat * 3)).block, (ad186.add ((x5_1).toNat * 3)).off + 2, none⟩ = some (.int .u64 ((rd_TNode l0 x5_1).f1.f1)) := hS_
      refine norm_ (a' := ?_) ?_ ?_
      rotate_left
      ·
       simp only [putAll, Act.put, List.setIfInBounds_toArray, List.set_cons_zero, List.set_cons_succ]
       rfl
      refine one_ (i := 11) (N := none) #[true, true, true, true, true, true, true, true, true, true, true, true, false] rfl rfl (one_of HT_.out (by kernel_rfl)) (by decide) (fun K hK => ?_)
      have hs12 : w11.cell? ⟨gb190, 0, none⟩ = some (.int .u64 0) := (blk_cell BK190.out 0).trans rfl
      have hfs12 := blk_frozen BK190.out 0
      have hns12_0 := NB184_190.out
      have hns12_1 := NB185_190.out
      have hms12_0 := NB190_184.out
      have hms12_1 := NB190_185.out
      have hs13 : w11.cell? ⟨gb190, 1, none⟩ = some (.int .u64 0) := (blk_cell BK190.out 1).trans rfl
      have hfs13 := blk_frozen BK190.out 1
      have hns13_0 := NB184_190.out
      have hns13_1 := NB185_190.out
      have hms13_0 := NB190_184.out
      have hms13_1 := NB190_185.out
      refine skip_ (w1 := ?_) (by rfl) rfl ?_ ?_
      rotate_left
      ·
       go_simp
       rfl
      refine hK.out _ _ ⟨((cell_far (p := ⟨gb190, _, none⟩) NB185_190.out _).trans (((cell_far (p := ⟨gb190, _, none⟩) NB185_190.out _).trans (hHeld.1)))), ((cell_far (p := ⟨gb190, _, none⟩) NB185_190.out _).trans (((cell_far (p := ⟨gb190, _, none⟩) NB185_190.out _).trans (hHeld.2.1)))), ((cell_far (p := ⟨gb190, _, none⟩) (by first | exact Nat.ne_of_lt (lL' (by have := bL' _ _ hw186_0; first | rwa [add_block] at this | exact this) GW190.out) | (rw [add_block]; exact Nat.ne_of_lt (lL' (by have := bL' _ _ hw186_0; first | rwa [add_block] at this | exact this) GW190.out)) | (show (Addr.add _ _).block ≠ _; rw [add_block]; exact Nat.ne_of_lt (lL' (by have := bL' _ _ hw186_0; first | rwa [add_block] at this | exact this) GW190.out)) | (dsimp only; exact Nat.ne_of_lt (lL' (by have := bL' _ _ hw186_0; first | rwa [add_block] at this | exact this) GW190.out))) _).trans (((cell_far (p := ⟨gb190, _, none⟩) (by first | exact Nat.ne_of_lt (lL' (by have := bL' _ _ hw186_0; first | rwa [add_block] at this | exact this) GW190.out) | (rw [add_block]; exact Nat.ne_of_lt (lL' (by have := bL' _ _ hw186_0; first | rwa [add_block] at this | exact this) GW190.out)) | (show (Addr.add _ _).block ≠ _; rw [add_block]; exact Nat.ne_of_lt (lL' (by have := bL' _ _ hw186_0; first | rwa [add_block] at this | exact this) GW190.out)) | (dsimp only; exact Nat.ne_of_lt (lL' (by have := bL' _ _ hw186_0; first | rwa [add_block] at this | exact this) GW190.out))) _).trans (hHeld.2.2.1)))), ((cell_far (p := ⟨gb190, _, none⟩) (by first | exact Nat.ne_of_lt (lL' (by have := bL' _ _ hw186_1; first | rwa [add_block] at this | exact this) GW190.out) | (rw [add_block]; exact Nat.ne_of_lt (lL' (by have := bL' _ _ hw186_1; first | rwa [add_block] at this | exact this) GW190.out)) | (show (Addr.add _ _).block ≠ _; rw [add_block]; exact Nat.ne_of_lt (lL' (by have := bL' _ _ hw186_1; first | rwa [add_block] at this | exact this) GW190.out)) | (dsimp only; exact Nat.ne_of_lt (lL' (by have := bL' _ _ hw186_1; first | rwa [add_block] at this | exact this) GW190.out))) _).trans (((cell_far (p := ⟨gb190, _, none⟩) (by first | exact Nat.ne_of_lt (lL' (by have := bL' _ _ hw186_1; first | rwa [add_block] at this | exact this) GW190.out) | (rw [add_block]; exact Nat.ne_of_lt (lL' (by have := bL' _ _ hw186_1; first | rwa [add_block] at this | exact this) GW190.out)) | (show (Addr.add _ _).block ≠ _; rw [add_block]; exact Nat.ne_of_lt (lL' (by have := bL' _ _ hw186_1; first | rwa [add_block] at this | exact this) GW190.out)) | (dsimp only; exact Nat.ne_of_lt (lL' (by have := bL' _ _ hw186_1; first | rwa [add_block] at this | exact this) GW190.out))) _).trans (hHeld.2.2.2.1)))), ((cell_far (p := ⟨gb190, _, none⟩) (by first | exact Nat.ne_of_lt (lL' (by have := bL' _ _ hw186_2; first | rwa [add_block] at this | exact this) GW190.out) | (rw [add_block]; exact Nat.ne_of_lt (lL' (by have := bL' _ _ hw186_2; first | rwa [add_block] at this | exact this) GW190.out)) | (show (Addr.add _ _).block ≠ _; rw [add_block]; exact Nat.ne_of_lt (lL' (by have := bL' _ _ hw186_2; first | rwa [add_block] at this | exact this) GW190.out)) | (dsimp only; exact Nat.ne_of_lt (lL' (by have := bL' _ _ hw186_2; first | rwa [add_block] at this | exact this) GW190.out))) _).trans (((cell_far (p := ⟨gb190, _, none⟩) (by first | exact Nat.ne_of_lt (lL' (by have := bL' _ _ hw186_2; first | rwa [add_block] at this | exact this) GW190.out) | (rw [add_block]; exact Nat.ne_of_lt (lL' (by have := bL' _ _ hw186_2; first | rwa [add_block] at this | exact this) GW190.out)) | (show (Addr.add _ _).block ≠ _; rw [add_block]; exact Nat.ne_of_lt (lL' (by have := bL' _ _ hw186_2; first | rwa [add_block] at this | exact this) GW190.out)) | (dsimp only; exact Nat.ne_of_lt (lL' (by have := bL' _ _ hw186_2; first | rwa [add_block] at this | exact this) GW190.out))) _).trans (hHeld.2.2.2.2))))⟩ (fun hHeld => ?_)
      clear hK K
      refine pure_ (i := 12) (N := some 7) (v := ?_) (a' := ?_) #[true, true, true, true, true, true, true, true, true, true, true, true, true] rfl rfl (any_of HT_.out (by kernel_rfl)) (fun _ _ _ h => h) (Or.inl ⟨by rfl, ?_⟩) ?_ ?_
      rotate_left
      ·
       intro w'
       go_simp
       with_reducible rfl
      rotate_left
      ·
       simp only [Act.put, List.setIfInBounds_toArray, List.set_cons_zero, List.set_cons_succ, i64_w, i32_w]
       rfl
      refine done_ (done_of HT_.out (by kernel_rfl)) ?_
      have hnb14 := NB190_184.out
      have hnc14 := NB184_190.out
      have hnb15 := NB190_185.out
      have hnc15 := NB185_190.out
      have hcz16_0 : w11.cell? ⟨gb190, 0, none⟩ = some (.int .u64 0) := (blk_cell BK190.out 0).trans rfl
      have hcz16_1 : w11.cell? ⟨gb190, 1, none⟩ = some (.int .u64 0) := (blk_cell BK190.out 1).trans rfl
      have hfz16_0 := blk_frozen BK190.out 0
      have hfz16_1 := blk_frozen BK190.out 1
      have hnb17 := NB185_184.out
      have hnc17 := NB184_185.out
      have hcz18_0 : w11.cell? ⟨gb185, 0, none⟩ = some (.int .u64 x186000_1) := (blk_cell BK185.out 0).trans rfl
      have hcz18_1 : w11.cell? ⟨gb185, 1, none⟩ = some (.int .u64 x186001_1) := (blk_cell BK185.out 1).trans rfl
      have hfz18_0 := blk_frozen BK185.out 0
      have hfz18_1 := blk_frozen BK185.out 1
      try go_wp2
      go_roundg k1
      case measure => have := HK1.out; omega
      case rel => exact ⟨(wrap64 (x5_1 + 1)), (x185000_1), (x185001_1), (t187), (t188), (by first | rfl | (simp; done) | (simp [*]; done)), H', ⟨by have := HK1.out; omega⟩, ⟨by (with_reducible repeat (first | refine blk_drewN ?_ _ | refine blk_drew ?_ | refine blk_alloc ?_ _)); refine blk_far ?_ NB184_185.out _; (with_reducible repeat (first | refine blk_drewN ?_ _ | refine blk_drew ?_ | refine blk_alloc ?_ _)); refine blk_far ?_ NB184_185.out _; (with_reducible repeat (first | refine blk_drewN ?_ _ | refine blk_drew ?_ | refine blk_alloc ?_ _)); refine blk_far ?_ NB184_190.out _; (with_reducible repeat (first | refine blk_drewN ?_ _ | refine blk_drew ?_ | refine blk_alloc ?_ _)); refine blk_far ?_ NB184_190.out _; (with_reducible repeat (first | refine blk_drewN ?_ _ | refine blk_drew ?_ | refine blk_alloc ?_ _)); exact BK184.out⟩, ⟨by (with_reducible repeat (first | refine blk_drewN ?_ _ | refine blk_drew ?_ | refine blk_alloc ?_ _)); refine blk_put (cs := #[.int .u64 t187, .int .u64 x186001_1]) ?_ 1 _ rfl; (with_reducible repeat (first | refine blk_drewN ?_ _ | refine blk_drew ?_ | refine blk_alloc ?_ _)); refine blk_put (cs := #[.int .u64 x186000_1, .int .u64 x186001_1]) ?_ 0 _ rfl; (with_reducible repeat (first | refine blk_drewN ?_ _ | refine blk_drew ?_ | refine blk_alloc ?_ _)); refine blk_far ?_ NB185_190.out _; (with_reducible repeat (first | refine blk_drewN ?_ _ | refine blk_drew ?_ | refine blk_alloc ?_ _)); refine blk_far ?_ NB185_190.out _; (with_reducible repeat (first | refine blk_drewN ?_ _ | refine blk_drew ?_ | refine blk_alloc ?_ _)); exact BK185.out⟩, ⟨by repeat (first | (with_reducible first | exact HB.out | apply below_alloc | apply pw_below_drewN | apply below_drew1 | refine below_set ?_ GE184.out | refine below_set ?_ GE185.out | refine below_set ?_ GE190.out) | exact HB.out)⟩⟩
     ·
      rw [if_neg c7] at H
      have c7b0 : (t189 == 0) = false := beq_eq_false_iff_ne.mpr c7
      have c7b1 : (t189 != 0) = true := bne_iff_ne.mpr c7
      simp only [Option.some.injEq, Prod.mk.injEq] at H
      obtain ⟨rfl, rfl, rfl⟩ := H
      try go_wp2
      have n0_ := aM' (blk_drew BK184.out)
      have n1_ := aM' (blk_drew BK185.out)
      have n2_ := aM' (below_drew1 HB.out)
      clear BK184
      clear BK185
      clear HB
      have BK184 := n0_
      have BK185 := n1_
      have HB := n2_
      clear n0_ n1_ n2_
      have p186 : 0 ≤ (x5_1 : Int) := of_decide_eq_true (by first | (with_reducible assumption) | assumption)
      have q186 : x5_1 < (l0.length : Int) := of_decide_eq_true (by first | (with_reducible assumption) | assumption)
      obtain ⟨ad186, e186, hx186_0, hx186_1, hx186_2⟩ := at_TNode HR0.out x5_1 p186 q186
      have hw186_2 := hx186_2
      have hw186_1 := hx186_1
      have hw186_0 := hx186_0
      cases e186
      replace hx186_0 := (HB.out.cell (bL' w _ hx186_0)).trans hx186_0
      replace hx186_1 := (HB.out.cell (bL' w _ hx186_1)).trans hx186_1
      replace hx186_2 := (HB.out.cell (bL' w _ hx186_2)).trans hx186_2
      replace p186 := eq_true p186
      replace q186 := eq_true q186
      refine start_ (n := 13) (S := fun w' => w'.cell? ⟨gb185, 0, none⟩ = some (.int .u64 x186000_1) ∧ w'.cell? ⟨gb185, 1, none⟩ = some (.int .u64 x186001_1) ∧ w'.cell? (ad186.add ((x5_1).toNat * 3)) = some (.string ((rd_TNode l0 x5_1).f0)) ∧ w'.cell? ⟨(ad186.add ((x5_1).toNat * 3)).block, (ad186.add ((x5_1).toNat * 3)).off + 1, none⟩ = some (.int .u64 ((rd_TNode l0 x5_1).f1.f0)) ∧ w'.cell? ⟨(ad186.add ((x5_1).toNat * 3)).block, (ad186.add ((x5_1).toNat * 3)).off + 2, none⟩ = some (.int .u64 ((rd_TNode l0 x5_1).f1.f1))) (ds := []) #[false, false, false, false, false, false, false, false, false, false, false, false, false] (by kernel_rfl) rfl rfl ⟨(blk_cell BK185.out 0).trans rfl, (blk_cell BK185.out 1).trans rfl, ((HB.out.cell (bL' w _ hw186_0)).trans hw186_0), ((HB.out.cell (bL' w _ hw186_1)).trans hw186_1), ((HB.out.cell (bL' w _ hw186_2)).trans hw186_2)⟩ (fun hHeld => ?_); refine with_tabW paymasterlaw14_sums.tab5 paymasterlaw14_sums.bits5 (fun HT_ HW_ => ?_)
      generalize wr.drew = w19 at BK184 BK185 HB hx186_0 hx186_1 hx186_2 hHeld ⊢
      refine pure_ (i := 1) (N := some 16) (v := ?_) (a' := ?_) #[false, true, false, false, false, false, false, false, false, false, false, false, false] rfl rfl (any_of HT_.out (by kernel_rfl)) (fun _ _ _ h => h) (Or.inl ⟨by rfl, ?_⟩) ?_ ?_
      rotate_left
      ·
       intro w'
       go_simp
       with_reducible rfl
      rotate_left
      ·
       simp only [Act.put, List.setIfInBounds_toArray, List.set_cons_zero, List.set_cons_succ, i64_w, i32_w]
       rfl
      refine pure_ (i := 2) (N := some 17) (v := ?_) (a' := ?_) #[false, true, true, false, false, false, false, false, false, false, false, false, false] rfl rfl (any_of HT_.out (by kernel_rfl)) (fun _ _ _ h => h) (Or.inl ⟨by rfl, ?_⟩) ?_ ?_
      rotate_left
      ·
       intro w'
       go_simp
       with_reducible rfl
      rotate_left
      ·
       simp only [Act.put, List.setIfInBounds_toArray, List.set_cons_zero, List.set_cons_succ, i64_w, i32_w]
       rfl
      refine pure_ (i := 3) (N := some 18) (v := ?_) (a' := ?_) #[false, true, true, true, false, false, false, false, false, false, false, false, false] rfl rfl (any_of HT_.out (by kernel_rfl)) (fun _ _ _ h => h) (Or.inl ⟨by rfl, ?_⟩) ?_ ?_
      rotate_left
      ·
       intro w'
       go_simp
       with_reducible rfl
      rotate_left
      ·
       simp only [Act.put, List.setIfInBounds_toArray, List.set_cons_zero, List.set_cons_succ, i64_w, i32_w]
       rfl
      refine pure_ (i := 4) (N := some 19) (v := ?_) (a' := ?_) #[false, true, true, true, true, false, false, false, false, false, false, false, false] rfl rfl (any_of HT_.out (by kernel_rfl)) (fun _ _ _ h => h) (Or.inl ⟨by rfl, ?_⟩) ?_ ?_
      rotate_left
      ·
       intro w'
       go_simp
       with_reducible rfl
      rotate_left
      ·
       simp only [Act.put, List.setIfInBounds_toArray, List.set_cons_zero, List.set_cons_succ, i64_w, i32_w]
       rfl
      refine take_ (i := 0) (N := some 15) (v := ?_) (a' := ?_) #[true, true, true, true, true, false, false, false, false, false, false, false, false] rfl rfl (take_ofW HT_.out HW_.out (by kernel_rfl)) (fun _ _ _ h => h) (Or.inl ⟨by rfl, ?_⟩) hHeld ?_ ?_
      rotate_left
      ·
       rintro w' ⟨s0, s1, s2, s3, s4⟩
       go_simp
       with_reducible rfl
      rotate_left
      ·
       simp only [Act.put, List.setIfInBounds_toArray, List.set_cons_zero, List.set_cons_succ, i64_w, i32_w]
       rfl
      refine take_ (i := 5) (N := some 20) (v := ?_) (a' := ?_) #[true, true, true, true, true, true, false, false, false, false, false, false, false] rfl rfl (take_ofW HT_.out HW_.out (by kernel_rfl)) (fun _ _ _ h => h) (Or.inl ⟨by rfl, ?_⟩) hHeld ?_ ?_
      rotate_left
      ·
       rintro w' ⟨s0, s1, s2, s3, s4⟩
       go_simp
       with_reducible rfl
      rotate_left
      ·
       simp only [Act.put, List.setIfInBounds_toArray, List.set_cons_zero, List.set_cons_succ, i64_w, i32_w]
       rfl
      refine join_ (σ := Nat) 2 #[true, true, true, true, true, true, true, true, true, true, true, false, false] (fun s_ => [(21, .tuple #[.agg #[.int .u64 t187, .int .u64 t188], .int .i64 t189]), (6, .pointer (some ⟨s_, 0, none⟩)), (14, .tuple #[.agg #[.int .u64 t187, .int .u64 t188], .int .i64 t189]), (22, .agg #[.int .u64 t187, .int .u64 t188]), (23, .int .i64 t189)]) (fun s_ w' => (w'.cell? ⟨gb185, 0, none⟩ = some (.int .u64 x186000_1) ∧ w'.cell? ⟨gb185, 1, none⟩ = some (.int .u64 x186001_1) ∧ w'.cell? (ad186.add ((x5_1).toNat * 3)) = some (.string ((rd_TNode l0 x5_1).f0)) ∧ w'.cell? ⟨(ad186.add ((x5_1).toNat * 3)).block, (ad186.add ((x5_1).toNat * 3)).off + 1, none⟩ = some (.int .u64 ((rd_TNode l0 x5_1).f1.f0)) ∧ w'.cell? ⟨(ad186.add ((x5_1).toNat * 3)).block, (ad186.add ((x5_1).toNat * 3)).off + 2, none⟩ = some (.int .u64 ((rd_TNode l0 x5_1).f1.f1))) ∧ (w'.heap[gb184]? = some (.cells #[.int .u64 x185000_1, .int .u64 x185001_1] 26 (0, 0))) ∧ (w'.heap[gb185]? = some (.cells #[.int .u64 x186000_1, .int .u64 x186001_1] 26 (0, 0))) ∧ (w'.heap[s_]? = some (.cells #[.int .u64 0, .int .u64 0] 26 (0, 0))) ∧ (w.heap.size ≤ s_) ∧ (w.heap.size ≤ s_) ∧ (gb184 ≠ s_) ∧ (s_ ≠ gb184) ∧ (gb185 ≠ s_) ∧ (s_ ≠ gb185) ∧ (Below w.heap.size w w')) ?_ ?_
      rotate_left
      ·
       intro hCont
       refine two_ (i := 6) (j := 10) (Ni := some 21) (Nj := some 6) #[true, true, true, true, true, true, true, false, false, false, false, false, false] #[true, true, true, true, true, true, false, false, false, false, true, false, false] rfl rfl rfl rfl (two_of HT_.out (by kernel_rfl)) (by decide) (by decide) (fun K hK => ?_) (fun K hK => ?_)
       ·
        skip
        refine goes_ Tryd.func61 (by kernel_rfl) rfl #[.agg #[.int .u64 x186000_1, .int .u64 x186001_1], .agg #[.int .u64 ((rd_TNode l0 x5_1).f1.f0), .int .u64 ((rd_TNode l0 x5_1).f1.f1)]] (by rfl) rfl rfl (by (try simp only [List.map_toArray, List.map_cons, List.map_nil]); first | done | rfl | (simp only [List.length_drop, List.length_take]; rfl)) ?_
        with_reducible refine (u128_Add.calls x186000_1 x186001_1 ((rd_TNode l0 x5_1).f1.f0) ((rd_TNode l0 x5_1).f1.f1) t187 t188 t189 _ A6.out).mono ?_
        rintro e w20 ⟨rfl, hb⟩
        refine ⟨_, rfl, ?_⟩
        have n0_ := aM' (blk_below (g := gb184) (o := .cells #[.int .u64 x185000_1, .int .u64 x185001_1] 26 (0, 0)) (by (with_reducible repeat (first | refine blk_drewN ?_ _ | refine blk_drew ?_ | refine blk_alloc ?_ _)); exact BK184.out) hb)
        have n1_ := aM' (blk_below (g := gb185) (o := .cells #[.int .u64 x186000_1, .int .u64 x186001_1] 26 (0, 0)) (by (with_reducible repeat (first | refine blk_drewN ?_ _ | refine blk_drew ?_ | refine blk_alloc ?_ _)); exact BK185.out) hb)
        have n2_ := aM' (below_step (by repeat (first | (with_reducible first | exact HB.out | apply below_alloc | apply pw_below_drewN | apply below_drew1 | refine below_set ?_ GE184.out | refine below_set ?_ GE185.out) | exact HB.out)) hb)
        clear BK184
        clear BK185
        clear HB
        have BK184 := n0_
        have BK185 := n1_
        have HB := n2_
        clear n0_ n1_ n2_
        (try clear hb)
        (try clear hb2)
        (try clear hk)
        (try clear hi)
        refine hK.out _ _ ⟨(blk_cell BK185.out 0).trans rfl, (blk_cell BK185.out 1).trans rfl, ((HB.out.cell (bL' w _ hw186_0)).trans hw186_0), ((HB.out.cell (bL' w _ hw186_1)).trans hw186_1), ((HB.out.cell (bL' w _ hw186_2)).trans hw186_2)⟩ (fun hHeld => ?_)
        clear hK K
        refine norm_ (a' := ?_) ?_ ?_
        rotate_left
        ·
         show Act.put _ (some 21) _ = _
         simp only [Act.put, List.setIfInBounds_toArray, List.set_cons_zero, List.set_cons_succ, i64_w, i32_w]
         rfl
        refine pure_ (i := 7) (N := some 14) (v := ?_) (a' := ?_) #[true, true, true, true, true, true, true, true, false, false, false, false, false] rfl rfl (any_of HT_.out (by kernel_rfl)) (fun _ _ _ h => h) (Or.inl ⟨by rfl, ?_⟩) ?_ ?_
        rotate_left
        ·
         intro w'
         go_simp
         with_reducible rfl
        rotate_left
        ·
         simp only [Act.put, List.setIfInBounds_toArray, List.set_cons_zero, List.set_cons_succ, i64_w, i32_w]
         rfl
        refine pure_ (i := 8) (N := some 22) (v := ?_) (a' := ?_) #[true, true, true, true, true, true, true, true, true, false, false, false, false] rfl rfl (any_of HT_.out (by kernel_rfl)) (fun _ _ _ h => h) (Or.inl ⟨by rfl, ?_⟩) ?_ ?_
        rotate_left
        ·
         intro w'
         go_simp
         with_reducible rfl
        rotate_left
        ·
         simp only [Act.put, List.setIfInBounds_toArray, List.set_cons_zero, List.set_cons_succ, i64_w, i32_w]
         rfl
        refine pure_ (i := 9) (N := some 23) (v := ?_) (a' := ?_) #[true, true, true, true, true, true, true, true, true, true, false, false, false] rfl rfl (any_of HT_.out (by kernel_rfl)) (fun _ _ _ h => h) (Or.inl ⟨by rfl, ?_⟩) ?_ ?_
        rotate_left
        ·
         intro w'
         go_simp
         with_reducible rfl
        rotate_left
        ·
         simp only [Act.put, List.setIfInBounds_toArray, List.set_cons_zero, List.set_cons_succ, i64_w, i32_w]
         rfl
        refine one_ (i := 10) (N := some 6) #[true, true, true, true, true, true, true, true, true, true, true, false, false] rfl rfl (one_of HT_.out (by kernel_rfl)) (by decide) (fun K hK => ?_)
        refine box_step ?hg (N := 6) ?hd (cs := #[.int .u64 0, .int .u64 0]) (t := 26) ?hr ?_; (case hd => rfl); (case hg => rfl); (case hr => first | (go_simp; done) | (go_simp; rfl))
        intro gb190 hg w21 hbox hb
        have n0_ := aM' (blk_below (g := gb184) (o := .cells #[.int .u64 x185000_1, .int .u64 x185001_1] 26 (0, 0)) (by (with_reducible repeat (first | refine blk_drewN ?_ _ | refine blk_drew ?_ | refine blk_alloc ?_ _)); exact BK184.out) hb)
        have n1_ := aM' (blk_below (g := gb185) (o := .cells #[.int .u64 x186000_1, .int .u64 x186001_1] 26 (0, 0)) (by (with_reducible repeat (first | refine blk_drewN ?_ _ | refine blk_drew ?_ | refine blk_alloc ?_ _)); exact BK185.out) hb)
        have n2_ := aM' (below_step (by repeat (first | (with_reducible first | exact HB.out | apply below_alloc | apply pw_below_drewN | apply below_drew1 | refine below_set ?_ GE184.out | refine below_set ?_ GE185.out) | exact HB.out)) hb)
        have n3_ := aM' (hbox)
        have n4_ := aM' ((by rw [hg]; exact (below_size (by repeat (first | (with_reducible first | exact HB.out | apply below_alloc | apply pw_below_drewN | apply below_drew1 | refine below_set ?_ GE184.out | refine below_set ?_ GE185.out) | exact HB.out))) : w.heap.size ≤ gb190))
        have n5_ := aM' ((by rw [hg]; exact (below_size (by repeat (first | (with_reducible first | exact HB.out | apply below_alloc | apply pw_below_drewN | apply below_drew1 | refine below_set ?_ GE184.out | refine below_set ?_ GE185.out) | exact HB.out))) : w.heap.size ≤ gb190))
        have n6_ := aM' ((by rw [hg]; exact Nat.ne_of_lt (blk_lt (g := gb184) (o := .cells #[.int .u64 x185000_1, .int .u64 x185001_1] 26 (0, 0)) (by (with_reducible repeat (first | refine blk_drewN ?_ _ | refine blk_drew ?_ | refine blk_alloc ?_ _)); exact BK184.out)) : gb184 ≠ gb190))
        have n7_ := aM' ((by rw [hg]; exact Nat.ne_of_gt (blk_lt (g := gb184) (o := .cells #[.int .u64 x185000_1, .int .u64 x185001_1] 26 (0, 0)) (by (with_reducible repeat (first | refine blk_drewN ?_ _ | refine blk_drew ?_ | refine blk_alloc ?_ _)); exact BK184.out)) : gb190 ≠ gb184))
        have n8_ := aM' ((by rw [hg]; exact Nat.ne_of_lt (blk_lt (g := gb185) (o := .cells #[.int .u64 x186000_1, .int .u64 x186001_1] 26 (0, 0)) (by (with_reducible repeat (first | refine blk_drewN ?_ _ | refine blk_drew ?_ | refine blk_alloc ?_ _)); exact BK185.out)) : gb185 ≠ gb190))
        have n9_ := aM' ((by rw [hg]; exact Nat.ne_of_gt (blk_lt (g := gb185) (o := .cells #[.int .u64 x186000_1, .int .u64 x186001_1] 26 (0, 0)) (by (with_reducible repeat (first | refine blk_drewN ?_ _ | refine blk_drew ?_ | refine blk_alloc ?_ _)); exact BK185.out)) : gb190 ≠ gb185))
        clear BK184
        clear BK185
        clear HB
        have BK184 := n0_
        have BK185 := n1_
        have HB := n2_
        have BK190 := n3_
        have GW190 := n4_
        have GE190 := n5_
        have NB184_190 := n6_
        have NB190_184 := n7_
        have NB185_190 := n8_
        have NB190_185 := n9_
        clear n0_ n1_ n2_ n3_ n4_ n5_ n6_ n7_ n8_ n9_
        clear hb hbox hg
        refine hK.out _ _ ⟨(blk_cell BK185.out 0).trans rfl, (blk_cell BK185.out 1).trans rfl, ((HB.out.cell (bL' w _ hw186_0)).trans hw186_0), ((HB.out.cell (bL' w _ hw186_1)).trans hw186_1), ((HB.out.cell (bL' w _ hw186_2)).trans hw186_2)⟩ (fun hHeld => ?_)
        clear hK K
        refine norm_ (a' := ?_) ?_ ?_
        rotate_left
        ·
         show Act.put _ (some 6) _ = _
         simp only [Act.put, List.setIfInBounds_toArray, List.set_cons_zero, List.set_cons_succ, i64_w, i32_w]
         rfl
        exact norm_ (by simp only [putAll, Act.put, List.setIfInBounds_toArray, List.set_cons_zero, List.set_cons_succ]) (hCont (gb190) _ ⟨hHeld, (by (with_reducible repeat (first | refine blk_drewN ?_ _ | refine blk_drew ?_ | refine blk_alloc ?_ _)); exact BK184.out), (by (with_reducible repeat (first | refine blk_drewN ?_ _ | refine blk_drew ?_ | refine blk_alloc ?_ _)); exact BK185.out), (by (with_reducible repeat (first | refine blk_drewN ?_ _ | refine blk_drew ?_ | refine blk_alloc ?_ _)); exact BK190.out), GW190.out, GE190.out, NB184_190.out, NB190_184.out, NB185_190.out, NB190_185.out, (by repeat (first | (with_reducible first | exact HB.out | apply below_alloc | apply pw_below_drewN | apply below_drew1 | refine below_set ?_ GE184.out | refine below_set ?_ GE185.out | refine below_set ?_ GE190.out) | exact HB.out))⟩)
       ·
        skip
        refine box_step ?hg (N := 6) ?hd (cs := #[.int .u64 0, .int .u64 0]) (t := 26) ?hr ?_; (case hd => rfl); (case hg => rfl); (case hr => first | (go_simp; done) | (go_simp; rfl))
        intro gb190 hg w20 hbox hb
        have n0_ := aM' (blk_below (g := gb184) (o := .cells #[.int .u64 x185000_1, .int .u64 x185001_1] 26 (0, 0)) (by (with_reducible repeat (first | refine blk_drewN ?_ _ | refine blk_drew ?_ | refine blk_alloc ?_ _)); exact BK184.out) hb)
        have n1_ := aM' (blk_below (g := gb185) (o := .cells #[.int .u64 x186000_1, .int .u64 x186001_1] 26 (0, 0)) (by (with_reducible repeat (first | refine blk_drewN ?_ _ | refine blk_drew ?_ | refine blk_alloc ?_ _)); exact BK185.out) hb)
        have n2_ := aM' (below_step (by repeat (first | (with_reducible first | exact HB.out | apply below_alloc | apply pw_below_drewN | apply below_drew1 | refine below_set ?_ GE184.out | refine below_set ?_ GE185.out) | exact HB.out)) hb)
        have n3_ := aM' (hbox)
        have n4_ := aM' ((by rw [hg]; exact (below_size (by repeat (first | (with_reducible first | exact HB.out | apply below_alloc | apply pw_below_drewN | apply below_drew1 | refine below_set ?_ GE184.out | refine below_set ?_ GE185.out) | exact HB.out))) : w.heap.size ≤ gb190))
        have n5_ := aM' ((by rw [hg]; exact (below_size (by repeat (first | (with_reducible first | exact HB.out | apply below_alloc | apply pw_below_drewN | apply below_drew1 | refine below_set ?_ GE184.out | refine below_set ?_ GE185.out) | exact HB.out))) : w.heap.size ≤ gb190))
        have n6_ := aM' ((by rw [hg]; exact Nat.ne_of_lt (blk_lt (g := gb184) (o := .cells #[.int .u64 x185000_1, .int .u64 x185001_1] 26 (0, 0)) (by (with_reducible repeat (first | refine blk_drewN ?_ _ | refine blk_drew ?_ | refine blk_alloc ?_ _)); exact BK184.out)) : gb184 ≠ gb190))
        have n7_ := aM' ((by rw [hg]; exact Nat.ne_of_gt (blk_lt (g := gb184) (o := .cells #[.int .u64 x185000_1, .int .u64 x185001_1] 26 (0, 0)) (by (with_reducible repeat (first | refine blk_drewN ?_ _ | refine blk_drew ?_ | refine blk_alloc ?_ _)); exact BK184.out)) : gb190 ≠ gb184))
        have n8_ := aM' ((by rw [hg]; exact Nat.ne_of_lt (blk_lt (g := gb185) (o := .cells #[.int .u64 x186000_1, .int .u64 x186001_1] 26 (0, 0)) (by (with_reducible repeat (first | refine blk_drewN ?_ _ | refine blk_drew ?_ | refine blk_alloc ?_ _)); exact BK185.out)) : gb185 ≠ gb190))
        have n9_ := aM' ((by rw [hg]; exact Nat.ne_of_gt (blk_lt (g := gb185) (o := .cells #[.int .u64 x186000_1, .int .u64 x186001_1] 26 (0, 0)) (by (with_reducible repeat (first | refine blk_drewN ?_ _ | refine blk_drew ?_ | refine blk_alloc ?_ _)); exact BK185.out)) : gb190 ≠ gb185))
        clear BK184
        clear BK185
        clear HB
        have BK184 := n0_
        have BK185 := n1_
        have HB := n2_
        have BK190 := n3_
        have GW190 := n4_
        have GE190 := n5_
        have NB184_190 := n6_
        have NB190_184 := n7_
        have NB185_190 := n8_
        have NB190_185 := n9_
        clear n0_ n1_ n2_ n3_ n4_ n5_ n6_ n7_ n8_ n9_
        clear hb hbox hg
        refine hK.out _ _ ⟨(blk_cell BK185.out 0).trans rfl, (blk_cell BK185.out 1).trans rfl, ((HB.out.cell (bL' w _ hw186_0)).trans hw186_0), ((HB.out.cell (bL' w _ hw186_1)).trans hw186_1), ((HB.out.cell (bL' w _ hw186_2)).trans hw186_2)⟩ (fun hHeld => ?_)
        clear hK K
        refine norm_ (a' := ?_) ?_ ?_
        rotate_left
        ·
         show Act.put _ (some 6) _ = _
         simp only [Act.put, List.setIfInBounds_toArray, List.set_cons_zero, List.set_cons_succ, i64_w, i32_w]
         rfl
        refine one_ (i := 6) (N := some 21) #[true, true, true, true, true, true, true, false, false, false, true, false, false] rfl rfl (one_of HT_.out (by kernel_rfl)) (by decide) (fun K hK => ?_)
        refine goes_ Tryd.func61 (by kernel_rfl) rfl #[.agg #[.int .u64 x186000_1, .int .u64 x186001_1], .agg #[.int .u64 ((rd_TNode l0 x5_1).f1.f0), .int .u64 ((rd_TNode l0 x5_1).f1.f1)]] (by rfl) rfl rfl (by (try simp only [List.map_toArray, List.map_cons, List.map_nil]); first | done | rfl | (simp only [List.length_drop, List.length_take]; rfl)) ?_
        with_reducible refine (u128_Add.calls x186000_1 x186001_1 ((rd_TNode l0 x5_1).f1.f0) ((rd_TNode l0 x5_1).f1.f1) t187 t188 t189 _ A6.out).mono ?_
        rintro e w21 ⟨rfl, hb⟩
        refine ⟨_, rfl, ?_⟩
        have n0_ := aM' (blk_below (g := gb184) (o := .cells #[.int .u64 x185000_1, .int .u64 x185001_1] 26 (0, 0)) (by (with_reducible repeat (first | refine blk_drewN ?_ _ | refine blk_drew ?_ | refine blk_alloc ?_ _)); exact BK184.out) hb)
        have n1_ := aM' (blk_below (g := gb185) (o := .cells #[.int .u64 x186000_1, .int .u64 x186001_1] 26 (0, 0)) (by (with_reducible repeat (first | refine blk_drewN ?_ _ | refine blk_drew ?_ | refine blk_alloc ?_ _)); exact BK185.out) hb)
        have n2_ := aM' (blk_below (g := gb190) (o := .cells #[.int .u64 0, .int .u64 0] 26 (0, 0)) (by (with_reducible repeat (first | refine blk_drewN ?_ _ | refine blk_drew ?_ | refine blk_alloc ?_ _)); exact BK190.out) hb)
        have n3_ := aM' (below_step (by repeat (first | (with_reducible first | exact HB.out | apply below_alloc | apply pw_below_drewN | apply below_drew1 | refine below_set ?_ GE184.out | refine below_set ?_ GE185.out | refine below_set ?_ GE190.out) | exact HB.out)) hb)
        clear BK184
        clear BK185
        clear BK190
        clear HB
        have BK184 := n0_
        have BK185 := n1_
        have BK190 := n2_
        have HB := n3_
        clear n0_ n1_ n2_ n3_
        (try clear hb)
        (try clear hb2)
        (try clear hk)
        (try clear hi)
        refine hK.out _ _ ⟨(blk_cell BK185.out 0).trans rfl, (blk_cell BK185.out 1).trans rfl, ((HB.out.cell (bL' w _ hw186_0)).trans hw186_0), ((HB.out.cell (bL' w _ hw186_1)).trans hw186_1), ((HB.out.cell (bL' w _ hw186_2)).trans hw186_2)⟩ (fun hHeld => ?_)
        clear hK K
        refine norm_ (a' := ?_) ?_ ?_
        rotate_left
        ·
         show Act.put _ (some 21) _ = _
         simp only [Act.put, List.setIfInBounds_toArray, List.set_cons_zero, List.set_cons_succ, i64_w, i32_w]
         rfl
        refine pure_ (i := 7) (N := some 14) (v := ?_) (a' := ?_) #[true, true, true, true, true, true, true, true, false, false, true, false, false] rfl rfl (any_of HT_.out (by kernel_rfl)) (fun _ _ _ h => h) (Or.inl ⟨by rfl, ?_⟩) ?_ ?_
        rotate_left
        ·
         intro w'
         go_simp
         with_reducible rfl
        rotate_left
        ·
         simp only [Act.put, List.setIfInBounds_toArray, List.set_cons_zero, List.set_cons_succ, i64_w, i32_w]
         rfl
        refine pure_ (i := 8) (N := some 22) (v := ?_) (a' := ?_) #[true, true, true, true, true, true, true, true, true, false, true, false, false] rfl rfl (any_of HT_.out (by kernel_rfl)) (fun _ _ _ h => h) (Or.inl ⟨by rfl, ?_⟩) ?_ ?_
        rotate_left
        ·
         intro w'
         go_simp
         with_reducible rfl
        rotate_left
        ·
         simp only [Act.put, List.setIfInBounds_toArray, List.set_cons_zero, List.set_cons_succ, i64_w, i32_w]
         rfl
        refine pure_ (i := 9) (N := some 23) (v := ?_) (a' := ?_) #[true, true, true, true, true, true, true, true, true, true, true, false, false] rfl rfl (any_of HT_.out (by kernel_rfl)) (fun _ _ _ h => h) (Or.inl ⟨by rfl, ?_⟩) ?_ ?_
        rotate_left
        ·
         intro w'
         go_simp
         with_reducible rfl
        rotate_left
        ·
         simp only [Act.put, List.setIfInBounds_toArray, List.set_cons_zero, List.set_cons_succ, i64_w, i32_w]
         rfl
        exact norm_ (by simp only [putAll, Act.put, List.setIfInBounds_toArray, List.set_cons_zero, List.set_cons_succ]) (hCont (gb190) _ ⟨hHeld, (by (with_reducible repeat (first | refine blk_drewN ?_ _ | refine blk_drew ?_ | refine blk_alloc ?_ _)); exact BK184.out), (by (with_reducible repeat (first | refine blk_drewN ?_ _ | refine blk_drew ?_ | refine blk_alloc ?_ _)); exact BK185.out), (by (with_reducible repeat (first | refine blk_drewN ?_ _ | refine blk_drew ?_ | refine blk_alloc ?_ _)); exact BK190.out), GW190.out, GE190.out, NB184_190.out, NB190_184.out, NB185_190.out, NB190_185.out, (by repeat (first | (with_reducible first | exact HB.out | apply below_alloc | apply pw_below_drewN | apply below_drew1 | refine below_set ?_ GE184.out | refine below_set ?_ GE185.out | refine below_set ?_ GE190.out) | exact HB.out))⟩)
      rintro gb190 w22 ⟨hS_, h0_, h1_, h2_, h3_, h4_, h5_, h6_, h7_, h8_, h9_⟩
      have n0_ : Aside0 (w22.heap[gb184]? = some (.cells #[.int .u64 x185000_1, .int .u64 x185001_1] 26 (0, 0))) := ⟨h0_⟩
      have n1_ : Aside0 (w22.heap[gb185]? = some (.cells #[.int .u64 x186000_1, .int .u64 x186001_1] 26 (0, 0))) := ⟨h1_⟩
      have n2_ : Aside0 (w22.heap[gb190]? = some (.cells #[.int .u64 0, .int .u64 0] 26 (0, 0))) := ⟨h2_⟩
      have n3_ : Aside0 (w.heap.size ≤ gb190) := ⟨h3_⟩
      have n4_ : Aside0 (w.heap.size ≤ gb190) := ⟨h4_⟩
      have n5_ : Aside0 (gb184 ≠ gb190) := ⟨h5_⟩
      have n6_ : Aside0 (gb190 ≠ gb184) := ⟨h6_⟩
      have n7_ : Aside0 (gb185 ≠ gb190) := ⟨h7_⟩
      have n8_ : Aside0 (gb190 ≠ gb185) := ⟨h8_⟩
      have n9_ : Aside0 (Below w.heap.size w w22) := ⟨h9_⟩
      clear BK184
      clear BK185
      clear HB
      clear h0_ h1_ h2_ h3_ h4_ h5_ h6_ h7_ h8_ h9_
      have BK184 := n0_
      have BK185 := n1_
      have BK190 := n2_
      have GW190 := n3_
      have GE190 := n4_
      have NB184_190 := n5_
      have NB190_184 := n6_
      have NB185_190 := n7_
      have NB190_185 := n8_
      have HB := n9_
      clear n0_ n1_ n2_ n3_ n4_ n5_ n6_ n7_ n8_ n9_
      have hHeld : w22.cell? ⟨gb185, 0, none⟩ = some (.int .u64 x186000_1) ∧ w22.cell? ⟨gb185, 1, none⟩ = some (.int .u64 x186001_1) ∧ w22.cell? (ad186.add ((x5_1).toNat * 3)) = some (.string ((rd_TNode l0 x5_1).f0)) ∧ w22.cell? ⟨(ad186.add ((x5_1).toNat * 3)).block, (ad186.add ((x5_1).toNat * 3)).off + 1, none⟩ = some (.int .u64 ((rd_TNode l0 x5_1).f1.f0)) ∧ w22.cell? ⟨(ad186.add ((x5_1).toNat * 3)).block, (ad186.add ((x5_1).toNat * 3)).off + 2, none⟩ = some (.int .u64 ((rd_TNode l0 x5_1).f1.f1)) := hS_
      refine norm_ (a' := ?_) ?_ ?_
      rotate_left
      ·
       simp only [putAll, Act.put, List.setIfInBounds_toArray, List.set_cons_zero, List.set_cons_succ]
       rfl
      refine one_ (i := 11) (N := none) #[true, true, true, true, true, true, true, true, true, true, true, true, false] rfl rfl (one_of HT_.out (by kernel_rfl)) (by decide) (fun K hK => ?_)
      have hs23 : w22.cell? ⟨gb190, 0, none⟩ = some (.int .u64 0) := (blk_cell BK190.out 0).trans rfl
      have hfs23 := blk_frozen BK190.out 0
      have hns23_0 := NB184_190.out
      have hns23_1 := NB185_190.out
      have hms23_0 := NB190_184.out
      have hms23_1 := NB190_185.out
      have hs24 : w22.cell? ⟨gb190, 1, none⟩ = some (.int .u64 0) := (blk_cell BK190.out 1).trans rfl
      have hfs24 := blk_frozen BK190.out 1
      have hns24_0 := NB184_190.out
      have hns24_1 := NB185_190.out
      have hms24_0 := NB190_184.out
      have hms24_1 := NB190_185.out
      refine skip_ (w1 := ?_) (by rfl) rfl ?_ ?_
      rotate_left
      ·
       go_simp
       rfl
      refine hK.out _ _ ⟨((cell_far (p := ⟨gb190, _, none⟩) NB185_190.out _).trans (((cell_far (p := ⟨gb190, _, none⟩) NB185_190.out _).trans (hHeld.1)))), ((cell_far (p := ⟨gb190, _, none⟩) NB185_190.out _).trans (((cell_far (p := ⟨gb190, _, none⟩) NB185_190.out _).trans (hHeld.2.1)))), ((cell_far (p := ⟨gb190, _, none⟩) (by first | exact Nat.ne_of_lt (lL' (by have := bL' _ _ hw186_0; first | rwa [add_block] at this | exact this) GW190.out) | (rw [add_block]; exact Nat.ne_of_lt (lL' (by have := bL' _ _ hw186_0; first | rwa [add_block] at this | exact this) GW190.out)) | (show (Addr.add _ _).block ≠ _; rw [add_block]; exact Nat.ne_of_lt (lL' (by have := bL' _ _ hw186_0; first | rwa [add_block] at this | exact this) GW190.out)) | (dsimp only; exact Nat.ne_of_lt (lL' (by have := bL' _ _ hw186_0; first | rwa [add_block] at this | exact this) GW190.out))) _).trans (((cell_far (p := ⟨gb190, _, none⟩) (by first | exact Nat.ne_of_lt (lL' (by have := bL' _ _ hw186_0; first | rwa [add_block] at this | exact this) GW190.out) | (rw [add_block]; exact Nat.ne_of_lt (lL' (by have := bL' _ _ hw186_0; first | rwa [add_block] at this | exact this) GW190.out)) | (show (Addr.add _ _).block ≠ _; rw [add_block]; exact Nat.ne_of_lt (lL' (by have := bL' _ _ hw186_0; first | rwa [add_block] at this | exact this) GW190.out)) | (dsimp only; exact Nat.ne_of_lt (lL' (by have := bL' _ _ hw186_0; first | rwa [add_block] at this | exact this) GW190.out))) _).trans (hHeld.2.2.1)))), ((cell_far (p := ⟨gb190, _, none⟩) (by first | exact Nat.ne_of_lt (lL' (by have := bL' _ _ hw186_1; first | rwa [add_block] at this | exact this) GW190.out) | (rw [add_block]; exact Nat.ne_of_lt (lL' (by have := bL' _ _ hw186_1; first | rwa [add_block] at this | exact this) GW190.out)) | (show (Addr.add _ _).block ≠ _; rw [add_block]; exact Nat.ne_of_lt (lL' (by have := bL' _ _ hw186_1; first | rwa [add_block] at this | exact this) GW190.out)) | (dsimp only; exact Nat.ne_of_lt (lL' (by have := bL' _ _ hw186_1; first | rwa [add_block] at this | exact this) GW190.out))) _).trans (((cell_far (p := ⟨gb190, _, none⟩) (by first | exact Nat.ne_of_lt (lL' (by have := bL' _ _ hw186_1; first | rwa [add_block] at this | exact this) GW190.out) | (rw [add_block]; exact Nat.ne_of_lt (lL' (by have := bL' _ _ hw186_1; first | rwa [add_block] at this | exact this) GW190.out)) | (show (Addr.add _ _).block ≠ _; rw [add_block]; exact Nat.ne_of_lt (lL' (by have := bL' _ _ hw186_1; first | rwa [add_block] at this | exact this) GW190.out)) | (dsimp only; exact Nat.ne_of_lt (lL' (by have := bL' _ _ hw186_1; first | rwa [add_block] at this | exact this) GW190.out))) _).trans (hHeld.2.2.2.1)))), ((cell_far (p := ⟨gb190, _, none⟩) (by first | exact Nat.ne_of_lt (lL' (by have := bL' _ _ hw186_2; first | rwa [add_block] at this | exact this) GW190.out) | (rw [add_block]; exact Nat.ne_of_lt (lL' (by have := bL' _ _ hw186_2; first | rwa [add_block] at this | exact this) GW190.out)) | (show (Addr.add _ _).block ≠ _; rw [add_block]; exact Nat.ne_of_lt (lL' (by have := bL' _ _ hw186_2; first | rwa [add_block] at this | exact this) GW190.out)) | (dsimp only; exact Nat.ne_of_lt (lL' (by have := bL' _ _ hw186_2; first | rwa [add_block] at this | exact this) GW190.out))) _).trans (((cell_far (p := ⟨gb190, _, none⟩) (by first | exact Nat.ne_of_lt (lL' (by have := bL' _ _ hw186_2; first | rwa [add_block] at this | exact this) GW190.out) | (rw [add_block]; exact Nat.ne_of_lt (lL' (by have := bL' _ _ hw186_2; first | rwa [add_block] at this | exact this) GW190.out)) | (show (Addr.add _ _).block ≠ _; rw [add_block]; exact Nat.ne_of_lt (lL' (by have := bL' _ _ hw186_2; first | rwa [add_block] at this | exact this) GW190.out)) | (dsimp only; exact Nat.ne_of_lt (lL' (by have := bL' _ _ hw186_2; first | rwa [add_block] at this | exact this) GW190.out))) _).trans (hHeld.2.2.2.2))))⟩ (fun hHeld => ?_)
      clear hK K
      refine pure_ (i := 12) (N := some 7) (v := ?_) (a' := ?_) #[true, true, true, true, true, true, true, true, true, true, true, true, true] rfl rfl (any_of HT_.out (by kernel_rfl)) (fun _ _ _ h => h) (Or.inl ⟨by rfl, ?_⟩) ?_ ?_
      rotate_left
      ·
       intro w'
       go_simp
       with_reducible rfl
      rotate_left
      ·
       simp only [Act.put, List.setIfInBounds_toArray, List.set_cons_zero, List.set_cons_succ, i64_w, i32_w]
       rfl
      refine done_ (done_of HT_.out (by kernel_rfl)) ?_
      have hnb25 := NB184_185.out
      have hnc25 := NB185_184.out
      have hnb26 := NB184_190.out
      have hnc26 := NB190_184.out
      have hcz27_0 : w22.cell? ⟨gb184, 0, none⟩ = some (.int .u64 x185000_1) := (blk_cell BK184.out 0).trans rfl
      have hcz27_1 : w22.cell? ⟨gb184, 1, none⟩ = some (.int .u64 x185001_1) := (blk_cell BK184.out 1).trans rfl
      have hfz27_0 := blk_frozen BK184.out 0
      have hfz27_1 := blk_frozen BK184.out 1
      try go_wp2
      refine bodyPost_ret (results_ct rfl _ _ gb184 26 #[.int .u64 0, .int .u64 0] (0, 0) _ rfl (by (with_reducible repeat (first | refine blk_drewN ?_ _ | refine blk_drew ?_ | refine blk_alloc ?_ _)); refine blk_put (cs := #[.int .u64 0, .int .u64 x185001_1]) ?_ 1 _ rfl; (with_reducible repeat (first | refine blk_drewN ?_ _ | refine blk_drew ?_ | refine blk_alloc ?_ _)); refine blk_put (cs := #[.int .u64 x185000_1, .int .u64 x185001_1]) ?_ 0 _ rfl; (with_reducible repeat (first | refine blk_drewN ?_ _ | refine blk_drew ?_ | refine blk_alloc ?_ _)); refine blk_far ?_ NB184_190.out _; (with_reducible repeat (first | refine blk_drewN ?_ _ | refine blk_drew ?_ | refine blk_alloc ?_ _)); refine blk_far ?_ NB184_190.out _; (with_reducible repeat (first | refine blk_drewN ?_ _ | refine blk_drew ?_ | refine blk_alloc ?_ _)); exact BK184.out) Tryd.underlying26 rfl (by kernel_rfl)) rfl ?_
      exact ⟨by first | rfl | (simp [errW_none, errW_some] <;> rfl) | (simp [*, errW_none, errW_some] <;> rfl), by repeat (first | (with_reducible first | exact HB.out | apply below_alloc | apply pw_below_drewN | apply below_drew1 | refine below_set ?_ GE184.out | refine below_set ?_ GE185.out | refine below_set ?_ GE190.out) | exact HB.out)⟩
    ·
     rw [if_neg c5] at H
     exact absurd H (by simp)
   ·
    rw [if_neg c4] at H
    have c4b0 : decide (x5_1 < (l0.length : Int)) = false := decide_eq_false c4
    clear c4
    simp only [Option.some.injEq, Prod.mk.injEq] at H
    obtain ⟨rfl, rfl, rfl⟩ := H
    have hnb28 := NB185_184.out
    have hnc28 := NB184_185.out
    have hcz29_0 : wr.cell? ⟨gb185, 0, none⟩ = some (.int .u64 x186000_1) := (blk_cell BK185.out 0).trans rfl
    have hcz29_1 : wr.cell? ⟨gb185, 1, none⟩ = some (.int .u64 x186001_1) := (blk_cell BK185.out 1).trans rfl
    have hfz29_0 := blk_frozen BK185.out 0
    have hfz29_1 := blk_frozen BK185.out 1
    have hcz30_0 : wr.cell? ⟨gb184, 0, none⟩ = some (.int .u64 x185000_1) := (blk_cell BK184.out 0).trans rfl
    have hcz30_1 : wr.cell? ⟨gb184, 1, none⟩ = some (.int .u64 x185001_1) := (blk_cell BK184.out 1).trans rfl
    have hfz30_0 := blk_frozen BK184.out 0
    have hfz30_1 := blk_frozen BK184.out 1
    go_wp2
    refine bodyPost_ret (results_ct rfl _ _ gb184 26 #[.int .u64 x186000_1, .int .u64 x186001_1] (0, 0) _ rfl (by (with_reducible repeat (first | refine blk_drewN ?_ _ | refine blk_drew ?_ | refine blk_alloc ?_ _)); refine blk_put (cs := #[.int .u64 x186000_1, .int .u64 x185001_1]) ?_ 1 _ rfl; (with_reducible repeat (first | refine blk_drewN ?_ _ | refine blk_drew ?_ | refine blk_alloc ?_ _)); refine blk_put (cs := #[.int .u64 x185000_1, .int .u64 x185001_1]) ?_ 0 _ rfl; (with_reducible repeat (first | refine blk_drewN ?_ _ | refine blk_drew ?_ | refine blk_alloc ?_ _)); exact BK184.out) Tryd.underlying26 rfl (by kernel_rfl)) rfl ?_
    exact ⟨by first | rfl | (simp [errW_none, errW_some] <;> rfl) | (simp [*, errW_none, errW_some] <;> rfl), by repeat (first | (with_reducible first | exact HB.out | apply below_alloc | apply pw_below_drewN | apply below_drew1 | refine below_set ?_ GE184.out | refine below_set ?_ GE185.out) | exact HB.out)⟩
end Go.Proofs.YtijfifphcchbbaaDoor.P
