/- PROVED HERE: the Go function paymasterlaw14.NodePlaces returns true for every input that the given statement speaks of, and each argument reads behind the call as it read before. Conditions: none beyond the given statement's own (the laid table of constants, tied by the card). -/
-- Several texts of this workplace as one.
import Derived.Test.YtijfifphcchbbaaDoorZNodePlaces1
import Derived.Test.YtijfifphcchbbaaDoorProg
import Derived.Deep.OwnRows
import Derived.Laws.Rows
import Derived.Test.YtijfifphcchbbaaDoorRows
import Derived.Test.YtijfifphcchbbaaDoorCards
import Derived.Test.YtijfifphcchbbaaDoorTie
namespace Go.Proofs.YtijfifphcchbbaaDoor.P
open Go.RowKit Go.Proofs.YtijfifphcchbbaaDoorW.PrintWords Go.Proofs.YtijfifphcchbbaaDoorW.PrintLast Go.Proofs.YtijfifphcchbbaaDoorW.PrintMore
set_option linter.unusedVariables false
set_option linter.unusedSimpArgs false
set_option linter.unnecessarySimpa false
attribute [local go_sem] Oper.semAt_some sel_true
theorem nodeInfo : (Tryd.prog.info? 28).map (fun i => (i.zero, i.size, i.bytes)) = some (some (.agg #[(.string ⟨#[]⟩), (.int .u64 0), (.int .u64 0)]), 3, 32) := by kernel_rfl
def cellsN : List SNode → List Value
  | [] => []
  | x :: l => .string x.f0 :: .int .u64 x.f1.f0 :: .int .u64 x.f1.f1 :: cellsN l
theorem cellsN_len : ∀ l, (cellsN l).length = l.length * 3
  | [] => rfl
  | x :: l => by simp [cellsN, cellsN_len l]; omega
theorem cellsN_append : ∀ a b, cellsN (a ++ b) = cellsN a ++ cellsN b
  | [], _ => rfl
  | x :: a, b => by rw [List.cons_append, cellsN, cellsN_append a b]; rfl
theorem cellsN_get : ∀ (l : List SNode) (j i : Nat) (p : SNode), l[j]? = some p → i < 3 → (cellsN l)[j * 3 + i]? = [Value.string p.f0, .int .u64 p.f1.f0, .int .u64 p.f1.f1][i]?
  | [], j, i, p, h, _ => by simp at h
  | x :: l, 0, i, p, h, hi => by
    obtain rfl := Option.some.inj h
    rw [cellsN, Nat.zero_mul, Nat.zero_add]
    match i, hi with
    | 0, _ => rfl
    | 1, _ => rfl
    | 2, _ => rfl
  | x :: l, j + 1, i, p, h, hi => by
    have h' : l[j]? = some p := by simpa using h
    rw [cellsN, show (j + 1) * 3 + i = (j * 3 + i) + 3 by omega]
    simp only [List.getElem?_cons_succ]
    exact cellsN_get l j i p h' hi
theorem addr_at (g n : Nat) : (⟨g, 0, none⟩ : Addr).add n = ⟨g, n, none⟩ := by unfold Addr.add; split <;> simp_all
theorem ownNodes_C {w : World} {base g n cap : Nat} {xs : List SNode} (h : w.ownsRow base 28 3 (.slice (some ⟨g, 0, none⟩) n cap) n (cellsN xs)) : xs.length = n ∧ n ≤ cap ∧ Kd.C kNode w (some ⟨g, 0, none⟩) n xs := by
  obtain ⟨hlen, h⟩ := h
  rw [cellsN_len] at hlen
  have hl : xs.length = n := by omega
  rcases h with ⟨h, _⟩ | ⟨g', cap', cur, hv, hb, hg, hcap, hmax, hsz, htk⟩
  · cases h
  · simp only [Value.slice.injEq, Option.some.injEq, Addr.mk.injEq] at hv
    obtain ⟨⟨rfl, -⟩, -, rfl⟩ := hv
    refine ⟨hl, hcap, hl, by unfold maxLen at hmax; omega, fun h0 => ⟨_, rfl, fun j p hj => ?_⟩⟩
    refine ⟨_, rfl, kNode_mk w p, fun i u hu => ?_⟩
    have hi : i < 3 := by
      rcases Nat.lt_or_ge i 3 with h | h
      · exact h
      · simp [h] at hu
    have hjn : j < xs.length := (List.getElem?_eq_some_iff.1 hj).1
    have e : kNode.sz = 3 := rfl
    rw [e, addr_at, blk_cell hg]
    have h1 := cellsN_get xs j i p hj hi
    rw [← htk, List.getElem?_take, if_pos (by omega)] at h1
    rw [hu] at h1
    simpa using h1
theorem two_at {W : World} {ad : Addr} {l : List SNode} (h : Kd.C kNode W (some ad) l.length l) (j : Nat) (hj : 2 * j + 1 < l.length) :
    ((W.cell? (ad.add (2 * j * 3)) = some (.string (l[2 * j]'(by omega)).f0) ∧ W.cell? ⟨(ad.add (2 * j * 3)).block, (ad.add (2 * j * 3)).off + 1, none⟩ = some (.int .u64 (l[2 * j]'(by omega)).f1.f0) ∧ W.cell? ⟨(ad.add (2 * j * 3)).block, (ad.add (2 * j * 3)).off + 2, none⟩ = some (.int .u64 (l[2 * j]'(by omega)).f1.f1)) ∧
     (W.cell? ((ad.add (2 * j * 3)).add 3) = some (.string l[2 * j + 1].f0) ∧ W.cell? ⟨((ad.add (2 * j * 3)).add 3).block, ((ad.add (2 * j * 3)).add 3).off + 1, none⟩ = some (.int .u64 l[2 * j + 1].f1.f0) ∧ W.cell? ⟨((ad.add (2 * j * 3)).add 3).block, ((ad.add (2 * j * 3)).add 3).off + 2, none⟩ = some (.int .u64 l[2 * j + 1].f1.f1))) := by
  obtain ⟨a1, e1, p0, p1, p2⟩ := at_TNode h ((2 * j : Nat) : Int) (by omega) (by omega)
  obtain ⟨a2, e2, q0, q1, q2⟩ := at_TNode h ((2 * j + 1 : Nat) : Int) (by omega) (by omega)
  cases e1; cases e2
  rw [rdNode_nat l (2 * j) (by omega), Int.toNat_natCast] at p0 p1 p2
  rw [rdNode_nat l (2 * j + 1) hj, Int.toNat_natCast] at q0 q1 q2
  have e3 : (ad.add (2 * j * 3)).add 3 = ad.add ((2 * j + 1) * 3) := by rw [Addr.add_add]; congr 1; omega
  rw [e3]
  exact ⟨⟨p0, p1, p2⟩, q0, q1, q2⟩
theorem make_nodes (m : Nat) (h : m ≤ 1000000) : ∃ cur : Array Value, cur.size = m * 3 ∧ ∀ W : World, (Instr.makeSlice 22 (.int .i64 0) (.int .i64 (m : Int))).run Tryd.prog W = .ok (.slice (some ⟨W.heap.size, 0, none⟩) 0 m) (W.alloc (.cells cur 28)) := by
  obtain ⟨i0, hi, hz0, hz1, hz2⟩ := info_parts nodeInfo
  refine ⟨madeCells (Value.agg #[(.string ⟨#[]⟩), (.int .u64 0), (.int .u64 0)]).cells (m * 3), ?_, fun W => ?_⟩
  · exact size_madeCells _ _
  · have hr := run_make (P := Tryd.prog) W 22 28 i0 _ Tryd.underlying22 hi hz0 .i64 .i64 0 (m : Int) (Int.le_refl _) (by omega) (by rw [hz2]; omega) (by omega)
    rw [hz1] at hr
    simpa using hr
theorem two_at' {W : World} {ad : Addr} {l : List SNode} (h : Kd.C kNode W (some ad) l.length l) (j : Nat) (hj : 2 * j + 1 < l.length) (a b : SNode) (ha : a = l.getD (2 * j) zeroN) (hb : b = l.getD (2 * j + 1) zeroN) (ap : Addr) (hap : ap = ad.add (2 * j * 3)) :
    ((W.cell? ap = some (.string a.f0) ∧ W.cell? ⟨ap.block, ap.off + 1, none⟩ = some (.int .u64 a.f1.f0) ∧ W.cell? ⟨ap.block, ap.off + 2, none⟩ = some (.int .u64 a.f1.f1)) ∧
     (W.cell? ⟨ap.block, ap.off + 3, none⟩ = some (.string b.f0) ∧ W.cell? ⟨ap.block, ap.off + 3 + 1, none⟩ = some (.int .u64 b.f1.f0) ∧ W.cell? ⟨ap.block, ap.off + 3 + 2, none⟩ = some (.int .u64 b.f1.f1))) := by
  have h1 : l.getD (2 * j) zeroN = l[2 * j]'(by omega) := by simp [List.getD_eq_getElem?_getD, show 2 * j < l.length by omega]
  have h2 : l.getD (2 * j + 1) zeroN = l[2 * j + 1] := by simp [List.getD_eq_getElem?_getD, hj]
  subst ha hb hap
  rw [h1, h2]
  obtain ⟨p, q0, q1, q2⟩ := two_at h j hj
  have e3 : (ad.add (2 * j * 3)).add 3 = ⟨(ad.add (2 * j * 3)).block, (ad.add (2 * j * 3)).off + 3, none⟩ := rfl
  rw [e3] at q0 q1 q2
  exact ⟨p, q0, q1, q2⟩
structure Pr4 (W0 W : World) (x : SNode) (l : Nat → Bool) (γ : Nat) : Prop where
  hB : Below W0.heap.size W0 W
  hg : l 11 = true → W0.heap.size ≤ γ ∧ W.heap[γ]? = some (.cells (if l 12 = true then nodeA x else #[.string ⟨#[]⟩, .int .u64 0, .int .u64 0]) 28 (0, 0))
  ho : l 12 = true → l 11 = true
theorem Pr4.other {W0 W W' : World} {x : SNode} {l : Nat → Bool} {γ : Nat} (h : Pr4 W0 W x l γ) (i : Nat) (hi : i ≠ 11) (hi2 : i ≠ 12) (hb : Below W.heap.size W W') : Pr4 W0 W' x (upd l i) γ := by
  have e1 : upd l i 11 = l 11 := by unfold upd; rw [if_neg (fun e => hi e.symm)]
  have e2 : upd l i 12 = l 12 := by unfold upd; rw [if_neg (fun e => hi2 e.symm)]
  refine ⟨h.hB.trans (hb.mono h.hB.size), ?_, ?_⟩
  · rw [e1, e2]; exact fun hl => ⟨(h.hg hl).1, blk_below (h.hg hl).2 hb⟩
  · rw [e1, e2]; exact h.ho
theorem Pr4.alloc {W0 W : World} {x : SNode} {l : Nat → Bool} {γ : Nat} (h : Pr4 W0 W x l γ) (hl : l 11 = false) : Pr4 W0 (W.alloc (.cells #[.string ⟨#[]⟩, .int .u64 0, .int .u64 0] 28 (0, 0))) x (upd l 11) W.heap.size := by
  have h12 : l 12 = false := by
    cases hx : l 12 with
    | false => rfl
    | true => rw [h.ho hx] at hl; cases hl
  have e1 : upd l 11 11 = true := rfl
  have e2 : upd l 11 12 = l 12 := rfl
  refine ⟨below_alloc h.hB _, ?_, ?_⟩
  · rw [e1, e2, h12]; exact fun _ => ⟨h.hB.size, blk_new W _⟩
  · rw [e1]; exact fun _ => rfl
theorem Pr4.store {W0 W : World} {x : SNode} {l : Nat → Bool} {γ : Nat} (h : Pr4 W0 W x l γ) (ha : l 11 = true) (hl : l 12 = false) : Pr4 W0 (((W.setCell ⟨γ, 0, none⟩ (.string x.f0)).setCell ⟨γ, 1, none⟩ (.int .u64 x.f1.f0)).setCell ⟨γ, 2, none⟩ (.int .u64 x.f1.f1)) x (upd l 12) γ := by
  have e1 : upd l 12 11 = l 11 := rfl
  have e2 : upd l 12 12 = true := rfl
  obtain ⟨h1, h2⟩ := h.hg ha
  rw [hl, if_neg (by decide)] at h2
  refine ⟨below_set (below_set (below_set h.hB h1) h1) h1, ?_, ?_⟩
  · rw [e1, e2, if_pos rfl]; exact fun _ => ⟨h1, put3 (z := ⟨⟨#[]⟩, ⟨0, 0⟩⟩) h2 x⟩
  · rw [e1]; exact fun _ => ha
abbrev closV (B : Nat) : Value := .func (.func 58) #[] #[.pointer (some ⟨B, 0, none⟩)]
structure PrS (w : World) (B m b3 b4 b5 bx b6 : Nat) (done : List SNode) (r4 : Value) (r5 : Int) (W : World) : Prop where
  n3 : b3 = w.heap.size
  n4 : b4 = w.heap.size + 1
  n5 : b5 = w.heap.size + 2
  nx : bx = w.heap.size + 3
  n6 : b6 = w.heap.size + 4
  h3 : W.heap[b3]? = some (.cells #[closV B] 111 (0, 0))
  h4 : W.heap[b4]? = some (.cells #[r4] 22 (0, 0))
  h5 : W.heap[b5]? = some (.cells #[.int .i64 r5] 29 (0, 0))
  own : W.ownsRow w.heap.size 28 3 (.slice (some ⟨bx, 0, none⟩) done.length m) done.length (cellsN done)
  h6 : W.heap[b6]? = some (.cells #[.slice (some ⟨bx, 0, none⟩) done.length m] 22 (0, 0))
  hB : Below w.heap.size w W
theorem PrS.lt {w W : World} {B m b3 b4 b5 bx b6 : Nat} {done : List SNode} {r4 : Value} {r5 : Int} (h : PrS w B m b3 b4 b5 bx b6 done r4 r5 W) : w.heap.size + 4 < W.heap.size := by have := blk_lt h.h6; rw [h.n6] at this; exact this
theorem own_keep {w w' : World} {base n m g : Nat} {xs : List Value} {e : TypeId} {size : Nat} (h : w.ownsRow base e size (.slice (some ⟨g, 0, none⟩) n m) n xs) (hk : w'.heap[g]? = w.heap[g]?) : w'.ownsRow base e size (.slice (some ⟨g, 0, none⟩) n m) n xs := by
  obtain ⟨hlen, h⟩ := h
  refine ⟨hlen, ?_⟩
  rcases h with ⟨h, _⟩ | ⟨g', cap', cur, hv, hb, hg, hr⟩
  · cases h
  · have e : g' = g := by simp only [Value.slice.injEq, Option.some.injEq, Addr.mk.injEq] at hv; exact hv.1.1.symm
    subst e
    exact .inr ⟨_, cap', cur, hv, hb, hk.trans hg, hr⟩
theorem PrS.keep {w W W' : World} {B m b3 b4 b5 bx b6 : Nat} {done : List SNode} {r4 : Value} {r5 : Int} (h : PrS w B m b3 b4 b5 bx b6 done r4 r5 W) (hk : ∀ k, k ≤ w.heap.size + 4 → W'.heap[k]? = W.heap[k]?) (hB : Below w.heap.size w W') : PrS w B m b3 b4 b5 bx b6 done r4 r5 W' :=
  ⟨h.n3, h.n4, h.n5, h.nx, h.n6, (hk _ (by have := h.n3; omega)).trans h.h3, (hk _ (by have := h.n4; omega)).trans h.h4, (hk _ (by have := h.n5; omega)).trans h.h5, own_keep h.own (hk _ (by have := h.nx; omega)), (hk _ (by have := h.n6; omega)).trans h.h6, hB⟩
theorem PrS.below {w W W' : World} {B m b3 b4 b5 bx b6 : Nat} {done : List SNode} {r4 : Value} {r5 : Int} (h : PrS w B m b3 b4 b5 bx b6 done r4 r5 W) (hb : Below W.heap.size W W') : PrS w B m b3 b4 b5 bx b6 done r4 r5 W' :=
  h.keep (fun k h2 => hb.block k (by have := h.lt; omega)) (h.hB.trans (hb.mono h.hB.size))
theorem PrS.grown {w X Y : World} {B m b3 b4 b5 bx b6 C : Nat} {done : List SNode} {r4 : Value} {r5 : Int} {row : Option Nat} (h : PrS w B m b3 b4 b5 bx b6 done r4 r5 X) (hg : X.grownBy Y row) (hlt : w.heap.size + 4 < C) (hr : ∀ r, row = some r → C ≤ r) : PrS w B m b3 b4 b5 bx b6 done r4 r5 Y := by
  have hl := h.lt
  have hk : ∀ k, k ≤ w.heap.size + 4 → Y.heap[k]? = X.heap[k]? := fun k hk => hg.block k (by omega) (fun e => by have := hr k e.symm; omega)
  exact h.keep hk ⟨hg.os.trans h.hB.os, hg.tape.trans h.hB.tape, hg.output.trans h.hB.output, Nat.le_trans h.hB.size hg.size, fun i hi => (hk i (by omega)).trans (h.hB.block i hi)⟩
theorem PrS.more {w W W' : World} {B m b3 b4 b5 bx b6 : Nat} {done : List SNode} {r4 : Value} {r5 : Int} (x : SNode) (h : PrS w B m b3 b4 b5 bx b6 done r4 r5 W) (hg : W.grownBy W' (some bx)) (hown : W'.ownsRow w.heap.size 28 3 (.slice (some ⟨bx, 0, none⟩) (done.length + 1) m) (done.length + 1) (cellsN done ++ [.string x.f0, .int .u64 x.f1.f0, .int .u64 x.f1.f1])) :
    PrS w B m b3 b4 b5 bx b6 (done ++ [x]) r4 r5 (W'.setCell ⟨b6, 0, none⟩ (.slice (some ⟨bx, 0, none⟩) (done.length + 1) m)) := by
  have hl := h.lt
  have n3 := h.n3; have n4 := h.n4; have n5 := h.n5; have nx := h.nx; have n6 := h.n6
  have hk : ∀ k, k ≤ w.heap.size + 4 → k ≠ bx → W'.heap[k]? = W.heap[k]? := fun k hk hn => hg.block k (by omega) (fun e => hn (Option.some.inj e))
  have hlen : (done ++ [x]).length = done.length + 1 := by simp
  refine ⟨n3, n4, n5, nx, n6, blk_far ((hk _ (by omega) (by omega)).trans h.h3) (by (try dsimp only); omega) _, blk_far ((hk _ (by omega) (by omega)).trans h.h4) (by (try dsimp only); omega) _, blk_far ((hk _ (by omega) (by omega)).trans h.h5) (by (try dsimp only); omega) _, ?_, ?_, ?_⟩
  · rw [hlen, cellsN_append]
    exact own_keep hown (Below.heap_setCell _ _ _ _ (by (try dsimp only); omega))
  · rw [hlen]
    exact blk_put ((hk _ (by omega) (by omega)).trans h.h6) 0 _ rfl
  · have hB : Below w.heap.size w W' := ⟨hg.os.trans h.hB.os, hg.tape.trans h.hB.tape, hg.output.trans h.hB.output, Nat.le_trans h.hB.size hg.size, fun i hi => (hk i (by omega) (by omega)).trans (h.hB.block i hi)⟩
    exact below_set hB (by (try dsimp only); omega)
theorem PrS.put {w W : World} {B m b3 b4 b5 bx b6 : Nat} {done : List SNode} {r4 : Value} {r5 : Int} (h : PrS w B m b3 b4 b5 bx b6 done r4 r5 W) (v : Value) (e : Int) : PrS w B m b3 b4 b5 bx b6 done v e ((W.setCell ⟨b4, 0, none⟩ v).setCell ⟨b5, 0, none⟩ (.int .i64 e)) := by
  have n3 := h.n3; have n4 := h.n4; have n5 := h.n5; have nx := h.nx; have n6 := h.n6
  exact ⟨n3, n4, n5, nx, n6, blk_far (blk_far h.h3 (by (try dsimp only); omega) _) (by (try dsimp only); omega) _, blk_far (blk_put h.h4 0 _ rfl) (by (try dsimp only); omega) _, blk_put (blk_far h.h5 (by (try dsimp only); omega) _) 0 _ rfl,
    own_keep (own_keep h.own (Below.heap_setCell _ _ _ _ (by (try dsimp only); omega))) (Below.heap_setCell _ _ _ _ (by (try dsimp only); omega)), blk_far (blk_far h.h6 (by (try dsimp only); omega) _) (by (try dsimp only); omega) _, below_set (below_set h.hB (by (try dsimp only); omega)) (by (try dsimp only); omega)⟩
theorem pairs_results (tmps : Array Value) (W : World) (g2 g3 : Nat) (v e : Value) (h4 : tmps.getD 4 undef = .pointer (some ⟨g2, 0, none⟩)) (h5 : tmps.getD 5 undef = .pointer (some ⟨g3, 0, none⟩)) (hg2 : W.heap[g2]? = some (.cells #[v] 22 (0, 0))) (hg3 : W.heap[g3]? = some (.cells #[e] 29 (0, 0))) :
    (results Tryd.f57 tmps).run Tryd.prog W = .ok (.tuple #[v, e]) W := by
  have h4' : tmps[4]?.getD undef = .pointer (some ⟨g2, 0, none⟩) := by simpa using h4
  have h5' : tmps[5]?.getD undef = .pointer (some ⟨g3, 0, none⟩) := by simpa using h5
  have hr : Tryd.f57.results = #[.cell 4 22, .cell 5 29] := rfl
  have hc : W.cell? ⟨g3, 0, none⟩ = some e := blk_cell hg3 0
  have hd : W.cell? ⟨g2, 0, none⟩ = some v := blk_cell hg2 0
  have hu := Tryd.underlying29
  have hu2 := Tryd.underlying22
  have h1 : (loadVar 22 ⟨g2, 0, none⟩).run Tryd.prog W = .ok v W := by go_simp
  have h2 : (loadVar 29 ⟨g3, 0, none⟩).run Tryd.prog W = .ok e W := by go_simp
  simp [results, hr, h4', h5', asAddr, h1, h2]
theorem pairs_retD {w W : World} {B m b3 b4 b5 bx b6 D : Nat} {done : List SNode} {r4 : Value} {r5 : Int} {tmps : Array Value} {R : Ending → World → Prop} (h : PrS w B m b3 b4 b5 bx b6 done r4 r5 W) (hD : w.heap.size + 4 < D) (hdf : W.heap[D]? = some (.deferred (some []))) (h4 : tmps.getD 4 undef = .pointer (some ⟨b4, 0, none⟩)) (h5 : tmps.getD 5 undef = .pointer (some ⟨b5, 0, none⟩))
    (hR : ∀ W', PrS w B m b3 b4 b5 bx b6 done r4 r5 W' → R (.returned (.tuple #[r4, .int .i64 r5])) W') : bodyPostM Fence.wide 3 Tryd.prog Tryd.f57 R .ret { tmps := tmps, defers := [{ target := .collected D, args := #[] }] } W := by
  have n4 := h.n4; have n5 := h.n5
  refine ⟨by simp, .inl ⟨_, _, rfl, run_takeDeferred hdf, ?_⟩⟩
  refine ⟨_, pairs_results _ _ _ _ _ _ h4 h5 ((World.putObj_heap_other (by omega)).trans h.h4) ((World.putObj_heap_other (by omega)).trans h.h5), hR _ ?_⟩
  exact h.keep (fun k hk => World.putObj_heap_other (by omega)) ⟨h.hB.os, h.hB.tape, h.hB.output, by simpa using h.hB.size, fun i hi => (World.putObj_heap_other (by omega)).trans (h.hB.block i hi)⟩
set_option maxRecDepth 100000 in
set_option maxHeartbeats 4000000 in
theorem pairs.calls (wd : Int) (B : Nat) (ad : Addr) (c m : Nat) (xl : List SNode) (w : World) (hK : Laid w) (hB : w.heap[B]? = some (.cells #[.int .i64 wd] 3 (0, 0))) (hl : xl.length = 2 * m) (hm1 : 1 ≤ m) (hm : m ≤ 1000000) (hc : xl.length ≤ c) (hr : Kd.C kNode w (some ad) xl.length xl) (hk : ∀ x ∈ xl, NodeK wd x) :
    Calls Tryd.prog 57 #[.slice (some ad) xl.length c, closV B] w fun e w' => Below w.heap.size w w' ∧
      ((pairsOk xl = true ∧ ∃ g cap, e = .returned (.tuple #[.slice (some ⟨g, 0, none⟩) m cap, .int .i64 0]) ∧ m ≤ cap ∧ Kd.C kNode w' (some ⟨g, 0, none⟩) m (pairsV wd xl)) ∨ (pairsOk xl = false ∧ e = .returned (.tuple #[.slice none 0 0, .int .i64 10]))) := by
  have HR := aM' hr
  have HK := aM' hK
  have HBX := aM' hB
  have HKN := aM' hk
  have HLL := aM' hl
  have HM1 := aM' hm1
  have HM := aM' hm
  have HC := aM' hc
  obtain ⟨i0, hi, hz0, hz1, hz2⟩ := info_parts nodeInfo
  have hhalf : ((xl.length : Int)).tdiv 2 = (m : Int) := by rw [Int.tdiv_eq_ediv_of_nonneg (by omega)]; omega
  have wm : wrap64 (m : Int) = (m : Int) := wrap64_id (by omega) (by omega)
  obtain ⟨cur, hcur, hmk⟩ := make_nodes m hm
  clear hr hK hB hk hl hm1 hm hc
  refine (callsIn_wide (n := 3)).1 ?_
  refine callsIn_of_wp_marks Tryd.func57 rfl trivial ?_ rfl
  simp only [Tryd.ntmps57, List.size_toArray, List.length_cons, List.length_nil, Nat.reduceAdd, Nat.reduceSub, Array.replicate_succ, Array.replicate_zero, List.push_toArray, List.append_toArray, List.nil_append, List.cons_append]
  gi_wp2_with fail
  have hP2 : PrS w B m w.heap.size (w.heap.size + 1) (w.heap.size + 1 + 1) (w.heap.size + 1 + 1 + 1) (w.heap.size + 1 + 1 + 1 + 1) [] (.slice none 0 0) 0 (((((w.alloc (.cells #[closV B] 111)).alloc (.cells #[.slice none 0 0] 22)).alloc (.cells #[.int .i64 0] 29)).alloc (.cells cur 28)).alloc (.cells #[.slice (some ⟨w.heap.size + 1 + 1 + 1, 0, none⟩) 0 m] 22)) := by
    refine ⟨rfl, rfl, rfl, rfl, rfl, blk_alloc (blk_alloc (blk_alloc (blk_alloc (blk_new w _) _) _) _) _, blk_alloc (blk_alloc (blk_alloc ?_ _) _) _, blk_alloc (blk_alloc ?_ _) _, own_keep (w := (((w.alloc (.cells #[closV B] 111)).alloc (.cells #[.slice none 0 0] 22)).alloc (.cells #[.int .i64 0] 29)).alloc (.cells cur 28)) ?_ (Below.heap_alloc _ _ _ (by simp)), ?_, below_alloc (below_alloc (below_alloc (below_alloc (below_alloc (Below.refl _ _) _) _) _) _) _⟩
    · have := blk_new (w.alloc (.cells #[closV B] 111)) (.cells #[.slice none 0 0] 22); rwa [World.size_alloc] at this
    · have := blk_new ((w.alloc (.cells #[closV B] 111)).alloc (.cells #[.slice none 0 0] 22)) (.cells #[.int .i64 0] 29); rwa [World.size_alloc, World.size_alloc] at this
    · have := World.ownsRow_made (base := w.heap.size) (e := 28) (size := 3) (((w.alloc (.cells #[closV B] 111)).alloc (.cells #[.slice none 0 0] 22)).alloc (.cells #[.int .i64 0] 29)) cur m (by simp; omega) (by have := HM.out; unfold maxLen; omega) hcur
      rw [World.size_alloc, World.size_alloc, World.size_alloc] at this
      exact this
    · have := blk_new ((((w.alloc (.cells #[closV B] 111)).alloc (.cells #[.slice none 0 0] 22)).alloc (.cells #[.int .i64 0] 29)).alloc (.cells cur 28)) (.cells #[.slice (some ⟨w.heap.size + 1 + 1 + 1, 0, none⟩) 0 m] 22); rwa [World.size_alloc, World.size_alloc, World.size_alloc, World.size_alloc] at this
  generalize (((((w.alloc (.cells #[closV B] 111)).alloc (.cells #[.slice none 0 0] 22)).alloc (.cells #[.int .i64 0] 29)).alloc (.cells cur 28)).alloc (.cells #[.slice (some ⟨w.heap.size + 1 + 1 + 1, 0, none⟩) 0 m] 22)) = w2 at hP2 ⊢
  clear hmk hcur
  have hnum := hP2.n6
  generalize w.heap.size + 1 + 1 + 1 + 1 = b6 at hP2 ⊢
  generalize w.heap.size + 1 + 1 + 1 = bx at hP2 ⊢
  generalize w.heap.size + 1 + 1 = b5 at hP2 ⊢
  generalize w.heap.size + 1 = b4 at hP2 ⊢
  generalize hb3 : w.heap.size = b3 at hP2 ⊢
  refine ⟨trivial, ?_⟩
  refine (callsIn_wide.2 (chunk.calls (some ad) xl.length c w2)).mono ?_
  rintro e w3 ⟨rfl, hw3⟩
  have hS : w3.heap[w2.heap.size]? = some (.cells #[.slice (some ad) xl.length c] 22 (0, 0)) := by rw [hw3]; exact blk_alloc (blk_new w2 _) _
  have hN : w3.heap[w2.heap.size + 1]? = some (.cells #[.int .i64 2] 3 (0, 0)) := by
    rw [hw3]
    have := blk_new (w2.alloc (.cells #[.slice (some ad) xl.length c] 22)) (.cells #[.int .i64 2] 3)
    rwa [World.size_alloc] at this
  have hP3 : PrS w B m b3 b4 b5 bx b6 [] (.slice none 0 0) 0 w3 := by rw [hw3]; exact hP2.below (below_alloc (below_alloc (Below.refl _ _) _) _)
  have hz3 : w3.heap.size = w2.heap.size + 2 := by rw [hw3]; simp
  have HL2 := aM' hP2.lt
  have HS := aM' hS
  have HN := aM' hN
  have HP3 := aM' hP3
  have HZ := aM' hz3
  have HB3 := aM' hb3
  clear hw3 hS hN hP3 hz3 hP2 hb3 hnum
  gi_wp2_with fail
  refine wpIn_rangeFunc_ownH (α := { j : Nat // j < m }) (n := 3) rfl (by omega) (gf := 133) (lb := #[.pointer (some ⟨w2.heap.size, 0, none⟩), .pointer (some ⟨w2.heap.size + 1, 0, none⟩)]) rfl trivial (enters_of Tryd.func133 (by kernel_rfl) rfl) (encs := fun x => #[chunkV ad x.1]) (Kp := KeepS (fun k => k = w2.heap.size ∨ k = w2.heap.size + 1))
    (S := fun xs => xs.map Subtype.val = List.range m) (Sp := fun pre => True) (N := m) (w0 := w3) ?hseq (fun h k => KeepS.trans h k) ?hKb (Below.refl _ _) (fun _ => rfl)
    (fun pre W => (∀ x ∈ pre, twoOk xl x.1) ∧ PrS w B m b3 b4 b5 bx b6 (pre.map fun x => twoV wd xl x.1) (.slice none 0 0) 0 W ∧ w3.heap.size ≤ W.heap.size)
    (fun c pre W => c = .ret ∧ (∃ x ∈ pre, ¬ twoOk xl x.1) ∧ ∃ done, PrS w B m b3 b4 b5 bx b6 done (.slice none 0 0) 10 W)
    ?hI ?hIx ⟨fun x hx => absurd hx (List.not_mem_nil), HP3.out, Nat.le_refl _⟩
    (fun x a' W => a' = ({ tmps := #[.slice (some ad) xl.length c, closV B, undef, .pointer (some ⟨b3, 0, none⟩), .pointer (some ⟨b4, 0, none⟩), .pointer (some ⟨b5, 0, none⟩), .pointer (some ⟨b6, 0, none⟩), chunkV ad x.1, undef, undef, .slice (some ad) xl.length c, .int .i64 (xl.length : Int), .int .i64 (m : Int), .slice (some ⟨bx, 0, none⟩) 0 m, .slice (some ad) xl.length c, .func (.func 133) #[] #[.pointer (some ⟨w2.heap.size, 0, none⟩), .pointer (some ⟨w2.heap.size + 1, 0, none⟩)], chunkV ad x.1, undef, undef, undef, undef, undef, undef, undef, undef, undef, undef, undef, undef, undef, undef, undef, undef, undef, undef, undef], defers := [] } : Act)) ?hAx ?assign ?body ?done ?stop
  case hKb =>
    intro W l2 o o' hl2 ho hc hw k hk
    have := HZ.out
    exact World.putObj_heap_other (by rcases hk with rfl | rfl <;> omega)
  case hI =>
    rintro s X Y row ⟨h1, h2, h3⟩ hg hr
    exact ⟨h1, h2.grown hg (by rw [HZ.out]; have := HL2.out; omega) (fun r e => (hr r e).1), Nat.le_trans h3 hg.size⟩
  case hIx =>
    rintro c2 s X Y row ⟨rfl, h1, dn, h2⟩ hg hr
    exact ⟨rfl, h1, dn, h2.grown hg (by rw [HZ.out]; have := HL2.out; omega) (fun r e => (hr r e).1)⟩
  case hAx =>
    rintro x a' s X Y row h hg hr
    exact h
  case hseq =>
    intro l2 J Jx W hW hJ hJx hY h0
    refine (chunk1_in 2 (by omega) l2 w2.heap.size (w2.heap.size + 1) W.heap.size ad m xl.length c HLL.out HM.out HC.out (fun k => k = w2.heap.size ∨ k = w2.heap.size + 1) (.inl rfl) (.inr rfl)
      (fun pre W => ∃ pre' : List { j : Nat // j < m }, pre'.map Subtype.val = pre ∧ J pre' W) (fun pre W => ∃ pre' : List { j : Nat // j < m }, pre'.map Subtype.val = pre ∧ Jx pre' W)
      (fun s X Y row ⟨pre', e, h⟩ hg hr => ⟨pre', e, hJ _ _ _ row h hg hr⟩) ?_ W (blk_below HS.out hW) (blk_below HN.out hW) ⟨[], rfl, h0⟩).mono ?_
    · rintro j W1 ⟨pre', e1, hj⟩ hlt
      have hpl : pre'.length = j := by have := congrArg List.length e1; simpa using this
      obtain ⟨fn, tmps, asg, bd, hy, hR⟩ := hY pre' ⟨j, hlt⟩ W1 hj (by omega)
      refine ⟨fn, tmps, asg, bd, hy, hR.mono ?_⟩
      rintro e W2 (⟨rfl, h1, h2⟩ | ⟨rfl, h1⟩)
      · exact .inl ⟨rfl, ⟨_, by rw [List.map_append, e1, List.range_succ]; rfl, h1⟩, h2⟩
      · exact .inr ⟨rfl, ⟨_, by rw [List.map_append, e1, List.range_succ]; rfl, h1⟩⟩
    · rintro e W2 ⟨hv, ⟨ys', e1, h1⟩ | ⟨j, hj, pre', e1, h1⟩⟩
      · exact ⟨hv, .inl ⟨ys', e1, h1⟩⟩
      · exact ⟨hv, .inr ⟨pre', trivial, h1⟩⟩
  case assign =>
    rintro l2 pre x W K hI hK
    gi_wp2
    exact hK _ _ (KeepsFrom.refl _ _) (fun k hk => rfl) hI rfl
  case body =>
    rintro l2 pre ⟨j, hj⟩ a' Wb hl2 - ⟨hok, hP, hz⟩ rfl hlen
    have hjl : 2 * j + 1 < xl.length := by have := HLL.out; omega
    obtain ⟨na, ha⟩ : ∃ na, na = xl.getD (2 * j) zeroN := ⟨_, rfl⟩
    obtain ⟨nb, hb⟩ : ∃ nb, nb = xl.getD (2 * j + 1) zeroN := ⟨_, rfl⟩
    obtain ⟨ap, hap⟩ : ∃ ap, ap = ad.add (2 * j * 3) := ⟨_, rfl⟩
    have hka : NodeK wd na := HKN.out _ (by rw [ha]; have h1 : xl.getD (2 * j) zeroN = xl[2 * j]'(by omega) := (by simp [List.getD_eq_getElem?_getD, show 2 * j < xl.length by omega]); rw [h1]; exact List.getElem_mem _)
    have hkb : NodeK wd nb := HKN.out _ (by rw [hb]; have h1 : xl.getD (2 * j + 1) zeroN = xl[2 * j + 1] := (by simp [List.getD_eq_getElem?_getD, hjl]); rw [h1]; exact List.getElem_mem _)
    have htw : twoV wd xl j = joinV wd na nb := by rw [ha, hb]; rfl
    have hto : twoOk xl j ↔ valU na.f1 + valU nb.f1 < 340282366920938463463374607431768211456 := by rw [ha, hb]; rfl
    have HT := fun (V : World) (hV : Below w.heap.size w V) => two_at' (Kd.C_below HR.out hV) j hjl na nb ha hb ap hap
    have hch : chunkV ad j = .slice (some ap) 2 2 := by rw [hap]; rfl
    have HT := aM' HT
    have HKA := aM' hka
    have HKB := aM' hkb
    have HTW := aM' htw
    have HTO := aM' hto
    have HOK := aM' hok
    have HP := aM' hP
    have HZZ := aM' hz
    have HLEN := aM' hlen
    dsimp only
    rw [hch]
    clear ha hb hap hka hkb htw hto hok hP hz hlen hch hjl
    rcases hjn : joinI wd na nb with ⟨r1, r2, r3, r4⟩
    have HJN := aM' hjn
    clear hjn
    gi_wp2
    refine region_invIn (fun l a W => ∃ γ : Nat, a = ({ tmps := #[.slice (some ad) xl.length c, closV B, undef, .pointer (some ⟨b3, 0, none⟩), .pointer (some ⟨b4, 0, none⟩), .pointer (some ⟨b5, 0, none⟩), .pointer (some ⟨b6, 0, none⟩), .slice (some ap) 2 2, sel (l 11) (.pointer (some ⟨γ, 0, none⟩)) (undef), sel (l 13) (.int .i64 r4) (undef), .slice (some ad) xl.length c, .int .i64 (xl.length : Int), .int .i64 (m : Int), .slice (some ⟨bx, 0, none⟩) 0 m, .slice (some ad) xl.length c, .func (.func 133) #[] #[.pointer (some ⟨w2.heap.size, 0, none⟩), .pointer (some ⟨w2.heap.size + 1, 0, none⟩)], .slice (some ap) 2 2, sel (l 8) (.tuple #[.agg #[.string r1, .int .u64 r2, .int .u64 r3], .int .i64 r4]) (undef), sel (l 0) (closV B) (undef), sel (l 1) (.slice (some ap) 2 2) (undef), sel (l 2) (.pointer (some ap)) (undef), sel (l 3) (.agg #[.string na.f0, .int .u64 na.f1.f0, .int .u64 na.f1.f1]) (undef), sel (l 4) (.slice (some ap) 2 2) (undef), sel (l 5) (.pointer (some (ap.add 3))) (undef), sel (l 6) (.agg #[.string nb.f0, .int .u64 nb.f1.f0, .int .u64 nb.f1.f1]) (undef), sel (l 7) (.tuple #[.agg #[.string r1, .int .u64 r2, .int .u64 r3], .int .i64 r4]) (undef), sel (l 9) (.agg #[.string r1, .int .u64 r2, .int .u64 r3]) (undef), sel (l 10) (.int .i64 r4) (undef), undef, undef, undef, undef, undef, undef, undef, undef], defers := [] } : Act) ∧ Pr4 Wb W ⟨r1, ⟨r2, r3⟩⟩ l γ) 14 rfl rfl (by kernel_rfl) ?h0 ?hend ?hstep
    case h0 => exact ⟨0, rfl, below_drew (Below.refl _ _), (fun h => by cases h), (fun h => by cases h)⟩
    case hstep =>
      refine rg_cons (rg_cons (rg_cons (rg_cons (rg_cons (rg_cons (rg_cons (rg_cons (rg_cons (rg_cons (rg_cons (rg_cons (rg_cons (rg_cons (rg_nil) ?s0) ?s1) ?s2) ?s3) ?s4) ?s5) ?s6) ?s7) ?s8) ?s9) ?s10) ?s11) ?s12) ?s13
      case s0 =>
        refine rgi_step rfl ?_
        rintro l a W ⟨γ, rfl, hI⟩ hl hd
        clear hd
        have x0 := blk_cell ((HP.out.below hI.hB).h3) 0
        simp at x0
        refine rgi_val (v := closV B) (w' := W) (fun _ => trivial) rfl (fun _ h => by cases h) (by go_simp) ?_
        refine ⟨γ, ?_, ?_⟩
        · simp only [Act.put, List.setIfInBounds_toArray, List.set_cons_zero, List.set_cons_succ]; rfl
        · exact hI.other _ (by decide) (by decide) (Below.refl _ _)
      case s1 =>
        refine rgi_step rfl ?_
        rintro l a W ⟨γ, rfl, hI⟩ hl hd
        clear hd
        refine rgi_val (v := .slice (some ap) 2 2) (w' := W) (fun _ => trivial) rfl (fun _ h => by cases h) (by go_simp) ?_
        refine ⟨γ, ?_, ?_⟩
        · simp only [Act.put, List.setIfInBounds_toArray, List.set_cons_zero, List.set_cons_succ]; rfl
        · exact hI.other _ (by decide) (by decide) (Below.refl _ _)
      case s2 =>
        refine rgi_step rfl ?_
        rintro l a W ⟨γ, rfl, hI⟩ hl hd
        have d1 := hd 1 (by decide)
        clear hd
        refine rgi_val (v := .pointer (some ap)) (w' := W) (fun _ => trivial) rfl (fun _ h => by cases h) (by go_simp) ?_
        refine ⟨γ, ?_, ?_⟩
        · simp only [Act.put, List.setIfInBounds_toArray, List.set_cons_zero, List.set_cons_succ]; rfl
        · exact hI.other _ (by decide) (by decide) (Below.refl _ _)
      case s3 =>
        refine rgi_step rfl ?_
        rintro l a W ⟨γ, rfl, hI⟩ hl hd
        have d2 := hd 2 (by decide)
        clear hd
        obtain ⟨⟨x0, x1, x2⟩, y0, y1, y2⟩ := HT.out W (HP.out.hB.trans (hI.hB.mono HP.out.hB.size))
        refine rgi_val (v := .agg #[.string na.f0, .int .u64 na.f1.f0, .int .u64 na.f1.f1]) (w' := W) (fun _ => trivial) rfl (fun _ h => by cases h) (by go_simp) ?_
        refine ⟨γ, ?_, ?_⟩
        · simp only [Act.put, List.setIfInBounds_toArray, List.set_cons_zero, List.set_cons_succ]; rfl
        · exact hI.other _ (by decide) (by decide) (Below.refl _ _)
      case s4 =>
        refine rgi_step rfl ?_
        rintro l a W ⟨γ, rfl, hI⟩ hl hd
        clear hd
        refine rgi_val (v := .slice (some ap) 2 2) (w' := W) (fun _ => trivial) rfl (fun _ h => by cases h) (by go_simp) ?_
        refine ⟨γ, ?_, ?_⟩
        · simp only [Act.put, List.setIfInBounds_toArray, List.set_cons_zero, List.set_cons_succ]; rfl
        · exact hI.other _ (by decide) (by decide) (Below.refl _ _)
      case s5 =>
        refine rgi_step rfl ?_
        rintro l a W ⟨γ, rfl, hI⟩ hl hd
        have d4 := hd 4 (by decide)
        clear hd
        refine rgi_val (v := .pointer (some (ap.add 3))) (w' := W) (fun _ => trivial) rfl (fun _ h => by cases h) (by go_simp) ?_
        refine ⟨γ, ?_, ?_⟩
        · simp only [Act.put, List.setIfInBounds_toArray, List.set_cons_zero, List.set_cons_succ]; rfl
        · exact hI.other _ (by decide) (by decide) (Below.refl _ _)
      case s6 =>
        refine rgi_step rfl ?_
        rintro l a W ⟨γ, rfl, hI⟩ hl hd
        have d5 := hd 5 (by decide)
        clear hd
        obtain ⟨⟨x0, x1, x2⟩, y0, y1, y2⟩ := HT.out W (HP.out.hB.trans (hI.hB.mono HP.out.hB.size))
        refine rgi_val (v := .agg #[.string nb.f0, .int .u64 nb.f1.f0, .int .u64 nb.f1.f1]) (w' := W) (fun _ => trivial) rfl (fun _ h => by cases h) (by go_simp) ?_
        refine ⟨γ, ?_, ?_⟩
        · simp only [Act.put, List.setIfInBounds_toArray, List.set_cons_zero, List.set_cons_succ]; rfl
        · exact hI.other _ (by decide) (by decide) (Below.refl _ _)
      case s7 =>
        refine rgi_step rfl ?_
        rintro l a W ⟨γ, rfl, hI⟩ hl hd
        have d0 := hd 0 (by decide)
        have d3 := hd 3 (by decide)
        have d6 := hd 6 (by decide)
        clear hd
        refine rgi_call (fun _ => trivial) rfl rfl (fun _ h => by cases h) (by go_simp; exact ⟨rfl, rfl⟩) ?_
        refine (CallsIn.inRound l2 (callsIn_wide.2 (fold1.calls wd B na nb W (blk_below HBX.out (HP.out.hB.trans (hI.hB.mono HP.out.hB.size))) (HK.out.below (HP.out.hB.trans (hI.hB.mono HP.out.hB.size))) HKA.out.u HKB.out.u))).mono ?_
        rintro x W' ⟨rfl, hb⟩
        rw [HJN.out]
        refine ⟨_, rfl, γ, ?_, ?_⟩
        · simp only [Act.put, List.setIfInBounds_toArray, List.set_cons_zero, List.set_cons_succ]; rfl
        · exact hI.other 7 (by decide) (by decide) hb
      case s8 =>
        refine rgi_step rfl ?_
        rintro l a W ⟨γ, rfl, hI⟩ hl hd
        have d7 := hd 7 (by decide)
        clear hd
        refine rgi_val (v := .tuple #[.agg #[.string r1, .int .u64 r2, .int .u64 r3], .int .i64 r4]) (w' := W) (fun _ => trivial) rfl (fun _ h => by cases h) (by go_simp) ?_
        refine ⟨γ, ?_, ?_⟩
        · simp only [Act.put, List.setIfInBounds_toArray, List.set_cons_zero, List.set_cons_succ]; rfl
        · exact hI.other _ (by decide) (by decide) (Below.refl _ _)
      case s9 =>
        refine rgi_step rfl ?_
        rintro l a W ⟨γ, rfl, hI⟩ hl hd
        have d8 := hd 8 (by decide)
        clear hd
        refine rgi_val (v := .agg #[.string r1, .int .u64 r2, .int .u64 r3]) (w' := W) (fun _ => trivial) rfl (fun _ h => by cases h) (by go_simp) ?_
        refine ⟨γ, ?_, ?_⟩
        · simp only [Act.put, List.setIfInBounds_toArray, List.set_cons_zero, List.set_cons_succ]; rfl
        · exact hI.other _ (by decide) (by decide) (Below.refl _ _)
      case s10 =>
        refine rgi_step rfl ?_
        rintro l a W ⟨γ, rfl, hI⟩ hl hd
        have d8 := hd 8 (by decide)
        clear hd
        refine rgi_val (v := .int .i64 r4) (w' := W) (fun _ => trivial) rfl (fun _ h => by cases h) (by go_simp) ?_
        refine ⟨γ, ?_, ?_⟩
        · simp only [Act.put, List.setIfInBounds_toArray, List.set_cons_zero, List.set_cons_succ]; rfl
        · exact hI.other _ (by decide) (by decide) (Below.refl _ _)
      case s11 =>
        refine rgi_step rfl ?_
        rintro l a W ⟨γ, rfl, hI⟩ hl hd
        clear hd
        refine rgi_val (v := .pointer (some ⟨W.heap.size, 0, none⟩)) (w' := W.alloc (.cells #[.string ⟨#[]⟩, .int .u64 0, .int .u64 0] 28 (0, 0))) (fun _ => trivial) rfl (fun _ h => by cases h) (by go_simp) ?_
        refine ⟨W.heap.size, ?_, ?_⟩
        · simp only [Act.put, List.setIfInBounds_toArray, List.set_cons_zero, List.set_cons_succ]; rfl
        · exact hI.alloc hl
      case s12 =>
        refine rgi_step rfl ?_
        rintro l a W ⟨γ, rfl, hI⟩ hl hd
        have d11 := hd 11 (by decide)
        have d9 := hd 9 (by decide)
        clear hd
        have hg := (hI.hg d11).2
        rw [show l 12 = false from hl, if_neg (by decide)] at hg
        have y0 := blk_cell hg 0
        have y1 := blk_cell hg 1
        have y2 := blk_cell hg 2
        have yf := fun i => blk_frozen hg i
        simp at y0 y1 y2
        refine rgi_skip (fun _ => trivial) rfl (fun _ h => by cases h) (by go_simp; rfl) ?_
        refine ⟨γ, ?_, ?_⟩
        · simp only [Act.put, List.setIfInBounds_toArray, List.set_cons_zero, List.set_cons_succ]; rfl
        · exact hI.store d11 hl
      case s13 =>
        refine rgi_step rfl ?_
        rintro l a W ⟨γ, rfl, hI⟩ hl hd
        have d10 := hd 10 (by decide)
        clear hd
        refine rgi_val (v := .int .i64 r4) (w' := W) (fun _ => trivial) rfl (fun _ h => by cases h) (by go_simp) ?_
        refine ⟨γ, ?_, ?_⟩
        · simp only [Act.put, List.setIfInBounds_toArray, List.set_cons_zero, List.set_cons_succ]; rfl
        · exact hI.other _ (by decide) (by decide) (Below.refl _ _)
    case hend =>
      rintro l a W ⟨γ, rfl, hI⟩ hall
      have e0 := hall 0 (by decide)
      have e1 := hall 1 (by decide)
      have e2 := hall 2 (by decide)
      have e3 := hall 3 (by decide)
      have e4 := hall 4 (by decide)
      have e5 := hall 5 (by decide)
      have e6 := hall 6 (by decide)
      have e7 := hall 7 (by decide)
      have e8 := hall 8 (by decide)
      have e9 := hall 9 (by decide)
      have e10 := hall 10 (by decide)
      have e11 := hall 11 (by decide)
      have e12 := hall 12 (by decide)
      have e13 := hall 13 (by decide)
      clear hall
      have hD := hI.hg e11
      rw [if_pos e12] at hD
      obtain ⟨hγ, hγc⟩ := hD
      have hBb := hI.hB
      have hP5 := HP.out.below hBb
      have HBb := aM' hBb
      have HP5 := aM' hP5
      have HG := aM' hγ
      have HGC := aM' hγc
      clear hI hγ hγc hBb hP5 HP
      simp only [e0, e1, e2, e3, e4, e5, e6, e7, e8, e9, e10, e11, e12, e13, sel_true]
      clear e0 e1 e2 e3 e4 e5 e6 e7 e8 e9 e10 e11 e12 e13
      obtain ⟨dn, hdn⟩ : ∃ dn, (pre.map fun x => twoV wd xl x.1) = dn := ⟨_, rfl⟩
      rw [hdn] at HP5
      have hdl : dn.length = pre.length := by rw [← hdn]; simp
      have HDN := aM' hdn
      have HDL := aM' hdl
      have hnx := HP5.out.nx
      have hn6 := HP5.out.n6
      have hn4 := HP5.out.n4
      have hn5 := HP5.out.n5
      have hlt := HP5.out.lt
      have hl2 := HL2.out
      have hbz := HBb.out.size
      have hzz := HZZ.out
      have hz2 := HZ.out
      have hfar : ∀ k, (k = w2.heap.size ∨ k = w2.heap.size + 1) → k < Wb.heap.size ∧ k ≠ bx ∧ k ≠ b6 ∧ k ≠ b4 ∧ k ≠ b5 := by rintro k (rfl | rfl) <;> omega
      have HFAR := aM' hfar
      have HNX := aM' (show bx < w3.heap.size ∧ b6 < w3.heap.size ∧ b4 < w3.heap.size ∧ b5 < w3.heap.size ∧ bx < W.heap.size ∧ b6 < W.heap.size ∧ b6 ≠ bx from ⟨by omega, by omega, by omega, by omega, by omega, by omega, by omega⟩)
      have y6 : W.cell? ⟨b6, 0, none⟩ = some (.slice (some ⟨bx, 0, none⟩) dn.length m) := blk_cell HP5.out.h6 0
      have y0 : W.cell? ⟨γ, 0, none⟩ = some (.string r1) := blk_cell HGC.out 0
      have y1 : W.cell? ⟨γ, 1, none⟩ = some (.int .u64 r2) := blk_cell HGC.out 1
      have y2 : W.cell? ⟨γ, 2, none⟩ = some (.int .u64 r3) := blk_cell HGC.out 2
      clear hnx hn6 hn4 hn5 hlt hl2 hbz hzz hz2 hfar hdn hdl
      by_cases h0 : r4 = 0
      · subst h0
        have hroom : valU na.f1 + valU nb.f1 < 340282366920938463463374607431768211456 := by
          rcases Int.lt_or_le (valU na.f1 + valU nb.f1) 340282366920938463463374607431768211456 with h | h
          · exact h
          · have := joinI_full HKA.out HKB.out (by omega)
            rw [HJN.out] at this
            simp at this
        have hjv : (⟨r1, ⟨r2, r3⟩⟩ : SNode) = joinV wd na nb := by
          have := joinI_room HKA.out HKB.out hroom
          rw [HJN.out] at this
          simp only [Prod.mk.injEq] at this
          obtain ⟨e1, e2, e3, -⟩ := this
          rw [e1, e2, e3]
        have HRM := aM' hroom
        have HJV := aM' hjv
        clear hroom hjv
        gi_upto_region 7 with (fail)
        refine wpIn_region_list ?_
        refine li_val (v := .slice (some ⟨bx, 0, none⟩) dn.length m) (w' := W) rfl (fun _ => trivial) (fun _ h => by cases h) (by go_simp; done) ?_
        refine li_val (v := .agg #[.string r1, .int .u64 r2, .int .u64 r3]) (w' := W) rfl (fun _ => trivial) (fun _ h => by cases h) (by go_simp; done) ?_
        refine li_val (v := .slice (some ⟨W.heap.size, 0, none⟩) 1 1) (w' := W.alloc (.cells #[.string r1, .int .u64 r2, .int .u64 r3] 28 (0, 0))) rfl (fun _ => trivial) (fun _ h => by cases h) (by go_simp; done) ?_
        refine wpListIn_append_fits _ rfl _ _ 22 rfl w.heap.size 28 i0 3 Tryd.underlying22 hi hz1 bx dn.length m (cellsN dn) rfl ?own ⟨W.heap.size, 0, none⟩ 1 1 [.string r1, .int .u64 r2, .int .u64 r3] rfl rfl ?cells ?one ?room ?_
        (case own => exact own_keep HP5.out.own (Below.heap_alloc _ _ _ HNX.out.2.2.2.2.1))
        (case cells => exact World.news_of_block (blk_new W _))
        (case one => intro u hu; simp at hu; rcases hu with rfl | rfl | rfl <;> rfl)
        (case room => have h1 := HLEN.out; have h2 := HDL.out; omega)
        intro w7 hown hgr
        have HOWN := aM' hown
        have HGR := aM' hgr
        have hz6 := (hgr.block b6 (by rw [World.size_alloc]; exact Nat.lt_succ_of_lt HNX.out.2.2.2.2.2.1) (fun e => HNX.out.2.2.2.2.2.2 (Option.some.inj e))).trans (blk_alloc HP5.out.h6 _)
        have z6 : w7.cell? ⟨b6, 0, none⟩ = some (.slice (some ⟨bx, 0, none⟩) dn.length m) := blk_cell hz6 0
        have zf : ∀ i, w7.frozen? ⟨b6, i, none⟩ = false := fun i => blk_frozen hz6 i
        clear hown hgr hz6
        refine li_skip (w' := w7.setCell ⟨b6, 0, none⟩ (.slice (some ⟨bx, 0, none⟩) (dn.length + 1) m)) rfl (fun _ => trivial) (fun _ h => by cases h) (by go_simp; first | done | rfl) ?_
        gi_wp2
        have hend := bar_trans (bar_alloc (bar_below HBb.out bx) (.cells #[.string r1, .int .u64 r2, .int .u64 r3] 28)) HGR.out
        refine ⟨(KeepsFrom.of_grownBy hend (fun j e => by have := Option.some.inj e; have := HNX.out; omega)).trans (KeepsFrom.of_grownBy (grownBy_setCell' _ b6 _) (fun j e => by have := Option.some.inj e; have := HNX.out; omega)), ?_, ?_, ?_, ?_⟩
        · intro k hk
          have hf := HFAR.out k hk
          exact (Below.heap_setCell _ _ _ _ hf.2.2.1).trans (hend.block k hf.1 (fun e => hf.2.1 (Option.some.inj e)))
        · intro y hy
          rcases List.mem_append.1 hy with hy | hy
          · exact HOK.out y hy
          · obtain rfl := List.mem_singleton.1 hy
            exact HTO.out.2 HRM.out
        · have hm := (HP5.out.below (below_alloc (Below.refl _ _) (.cells #[.string r1, .int .u64 r2, .int .u64 r3] 28))).more ⟨r1, ⟨r2, r3⟩⟩ HGR.out HOWN.out
          rw [List.map_append, HDN.out]
          have hx : (List.map (fun x : { j : Nat // j < m } => twoV wd xl x.1) [⟨j, hj⟩]) = [⟨r1, ⟨r2, r3⟩⟩] := by rw [HJV.out, ← HTW.out]; rfl
          rw [hx]
          exact hm
        · exact Nat.le_trans HZZ.out (Nat.le_trans hend.size (by simp))
      · have b1 : (r4 != 0) = true := by simp [h0]
        have hroom : ¬ valU na.f1 + valU nb.f1 < 340282366920938463463374607431768211456 := fun h => by
          have := joinI_room HKA.out HKB.out h
          rw [HJN.out] at this
          simp only [Prod.mk.injEq] at this
          exact h0 this.2.2.2
        have h10 : r4 = 10 := by
          have := joinI_full HKA.out HKB.out hroom
          rw [HJN.out] at this
          simp only [Prod.mk.injEq] at this
          exact this.2.2.2
        have HRM := aM' hroom
        clear hroom
        have y4 : W.cell? ⟨b4, 0, none⟩ = some (.slice none 0 0) := blk_cell HP5.out.h4 0
        have f4 : ∀ i, W.frozen? ⟨b4, i, none⟩ = false := fun i => blk_frozen HP5.out.h4 i
        have y5 : W.cell? ⟨b5, 0, none⟩ = some (.int .i64 0) := blk_cell HP5.out.h5 0
        have f5 : ∀ i, W.frozen? ⟨b5, i, none⟩ = false := fun i => blk_frozen HP5.out.h5 i
        have n45 : b5 ≠ b4 := by have h1 := HP5.out.n4; have h2 := HP5.out.n5; omega
        gi_wp2
        refine ⟨(KeepsFrom.of_grownBy (bar_set (bar_below HBb.out b4) (a := ⟨b4, 0, none⟩) (.inl rfl)) (fun j e => by have := Option.some.inj e; have := HNX.out; omega)).trans (KeepsFrom.of_grownBy (grownBy_setCell' _ b5 _) (fun j e => by have := Option.some.inj e; have := HNX.out; omega)), rfl, ⟨j, ⟨hj, by simp⟩, fun h => absurd (HTO.out.1 h) (by have := HRM.out; omega)⟩, dn, by first | exact HP5.out.put _ 10 | (rw [h10]; exact HP5.out.put _ 10)⟩
  case done =>
    rintro D xs W hD hxs ⟨hok, hP, hz⟩ hdf
    have hdn : (xs.map fun x => twoV wd xl x.1) = pairsV wd xl := by
      rw [pairsV_range wd m xl HLL.out, ← hxs, List.map_map]; rfl
    have hpo : pairsOk xl = true := (pairsOk_range m xl HLL.out).2 (fun j hj => by
      have h1 : j ∈ xs.map Subtype.val := by rw [hxs]; exact List.mem_range.2 hj
      obtain ⟨x, hx, rfl⟩ := List.mem_map.1 h1
      exact hok x hx)
    rw [hdn] at hP
    have hlen : (pairsV wd xl).length = m := pairsV_len wd m xl HLL.out
    obtain ⟨dn, hdd⟩ : ∃ dn, pairsV wd xl = dn := ⟨_, rfl⟩
    rw [hdd] at hP hlen
    have HDD := aM' hdd
    clear hdd
    have y6 : W.cell? ⟨b6, 0, none⟩ = some (.slice (some ⟨bx, 0, none⟩) dn.length m) := blk_cell hP.h6 0
    have y4 : W.cell? ⟨b4, 0, none⟩ = some (.slice none 0 0) := blk_cell hP.h4 0
    have f4 : ∀ i, W.frozen? ⟨b4, i, none⟩ = false := fun i => blk_frozen hP.h4 i
    have y5 : W.cell? ⟨b5, 0, none⟩ = some (.int .i64 0) := blk_cell hP.h5 0
    have f5 : ∀ i, W.frozen? ⟨b5, i, none⟩ = false := fun i => blk_frozen hP.h5 i
    have h4 := hP.n4
    have h5 := hP.n5
    have n45 : b5 ≠ b4 := by omega
    have hDn : w.heap.size + 4 < D := by have := HZ.out; have := HL2.out; omega
    have HP := aM' hP
    have HDF := aM' hdf
    have HPO := aM' hpo
    have HLEN := aM' hlen
    have HDN := aM' hDn
    have H45 := aM' (show D ≠ b4 ∧ D ≠ b5 from ⟨by omega, by omega⟩)
    clear hok hP hz hdf hdn hpo hxs hD hlen h4 h5 hDn
    gi_wp2
    refine pairs_retD (HP.out.put (.slice (some ⟨bx, 0, none⟩) dn.length m) 0) HDN.out ((Below.heap_setCell _ _ _ _ H45.out.2).trans ((Below.heap_setCell _ _ _ _ H45.out.1).trans HDF.out)) rfl rfl (fun W' h => ⟨h.hB, .inl ⟨HPO.out, bx, m, ?_, Nat.le_refl _, ?_⟩⟩)
    · rw [HLEN.out]
    · have := (ownNodes_C h.own).2.2
      rw [HLEN.out] at this
      rw [HDD.out]
      exact this
  case stop =>
    rintro D c2 pre W hD - ⟨rfl, ⟨x, hx, hno⟩, dn, hP⟩ hdf
    have hpo : pairsOk xl = false := by
      cases h : pairsOk xl with
      | false => rfl
      | true => exact absurd ((pairsOk_range m xl HLL.out).1 h x.1 x.2) hno
    have hDn : w.heap.size + 4 < D := by have := HZ.out; have := HL2.out; omega
    have HP := aM' hP
    have HDF := aM' hdf
    have HPO := aM' hpo
    have HDN := aM' hDn
    clear hno hP hdf hpo hDn
    gi_wp2
    exact pairs_retD HP.out HDN.out HDF.out rfl rfl (fun W' h => ⟨h.hB, .inr ⟨HPO.out, rfl⟩⟩)
end Go.Proofs.YtijfifphcchbbaaDoor.P
namespace Go.Proofs.YtijfifphcchbbaaDoor.P
open Go.RowKit Go.Proofs.YtijfifphcchbbaaDoorW.PrintWords Go.Proofs.YtijfifphcchbbaaDoorW.PrintLast Go.Proofs.YtijfifphcchbbaaDoorW.PrintMore
set_option linter.unusedVariables false
set_option linter.unusedSimpArgs false
set_option linter.unnecessarySimpa false
def onesI (a0 : Int) : Int := (Go.bits .and .i64 (wrap64 (IntKind.u64.wrap ((IntKind.u64.wrap ((IntKind.u64.wrap ((Go.bits .and .u64 (IntKind.u64.wrap (((IntKind.u64.wrap ((Go.bits .and .u64 ((IntKind.u64.wrap ((Go.bits .and .u64 (a0 / 2) 6148914691236517205) + (Go.bits .and .u64 a0 6148914691236517205))) / 4) 3689348814741910323) + (Go.bits .and .u64 (IntKind.u64.wrap ((Go.bits .and .u64 (a0 / 2) 6148914691236517205) + (Go.bits .and .u64 a0 6148914691236517205))) 3689348814741910323))) / 16) + (IntKind.u64.wrap ((Go.bits .and .u64 ((IntKind.u64.wrap ((Go.bits .and .u64 (a0 / 2) 6148914691236517205) + (Go.bits .and .u64 a0 6148914691236517205))) / 4) 3689348814741910323) + (Go.bits .and .u64 (IntKind.u64.wrap ((Go.bits .and .u64 (a0 / 2) 6148914691236517205) + (Go.bits .and .u64 a0 6148914691236517205))) 3689348814741910323))))) 1085102592571150095) + ((Go.bits .and .u64 (IntKind.u64.wrap (((IntKind.u64.wrap ((Go.bits .and .u64 ((IntKind.u64.wrap ((Go.bits .and .u64 (a0 / 2) 6148914691236517205) + (Go.bits .and .u64 a0 6148914691236517205))) / 4) 3689348814741910323) + (Go.bits .and .u64 (IntKind.u64.wrap ((Go.bits .and .u64 (a0 / 2) 6148914691236517205) + (Go.bits .and .u64 a0 6148914691236517205))) 3689348814741910323))) / 16) + (IntKind.u64.wrap ((Go.bits .and .u64 ((IntKind.u64.wrap ((Go.bits .and .u64 (a0 / 2) 6148914691236517205) + (Go.bits .and .u64 a0 6148914691236517205))) / 4) 3689348814741910323) + (Go.bits .and .u64 (IntKind.u64.wrap ((Go.bits .and .u64 (a0 / 2) 6148914691236517205) + (Go.bits .and .u64 a0 6148914691236517205))) 3689348814741910323))))) 1085102592571150095) / 256))) + ((IntKind.u64.wrap ((Go.bits .and .u64 (IntKind.u64.wrap (((IntKind.u64.wrap ((Go.bits .and .u64 ((IntKind.u64.wrap ((Go.bits .and .u64 (a0 / 2) 6148914691236517205) + (Go.bits .and .u64 a0 6148914691236517205))) / 4) 3689348814741910323) + (Go.bits .and .u64 (IntKind.u64.wrap ((Go.bits .and .u64 (a0 / 2) 6148914691236517205) + (Go.bits .and .u64 a0 6148914691236517205))) 3689348814741910323))) / 16) + (IntKind.u64.wrap ((Go.bits .and .u64 ((IntKind.u64.wrap ((Go.bits .and .u64 (a0 / 2) 6148914691236517205) + (Go.bits .and .u64 a0 6148914691236517205))) / 4) 3689348814741910323) + (Go.bits .and .u64 (IntKind.u64.wrap ((Go.bits .and .u64 (a0 / 2) 6148914691236517205) + (Go.bits .and .u64 a0 6148914691236517205))) 3689348814741910323))))) 1085102592571150095) + ((Go.bits .and .u64 (IntKind.u64.wrap (((IntKind.u64.wrap ((Go.bits .and .u64 ((IntKind.u64.wrap ((Go.bits .and .u64 (a0 / 2) 6148914691236517205) + (Go.bits .and .u64 a0 6148914691236517205))) / 4) 3689348814741910323) + (Go.bits .and .u64 (IntKind.u64.wrap ((Go.bits .and .u64 (a0 / 2) 6148914691236517205) + (Go.bits .and .u64 a0 6148914691236517205))) 3689348814741910323))) / 16) + (IntKind.u64.wrap ((Go.bits .and .u64 ((IntKind.u64.wrap ((Go.bits .and .u64 (a0 / 2) 6148914691236517205) + (Go.bits .and .u64 a0 6148914691236517205))) / 4) 3689348814741910323) + (Go.bits .and .u64 (IntKind.u64.wrap ((Go.bits .and .u64 (a0 / 2) 6148914691236517205) + (Go.bits .and .u64 a0 6148914691236517205))) 3689348814741910323))))) 1085102592571150095) / 256))) / 65536))) + ((IntKind.u64.wrap ((IntKind.u64.wrap ((Go.bits .and .u64 (IntKind.u64.wrap (((IntKind.u64.wrap ((Go.bits .and .u64 ((IntKind.u64.wrap ((Go.bits .and .u64 (a0 / 2) 6148914691236517205) + (Go.bits .and .u64 a0 6148914691236517205))) / 4) 3689348814741910323) + (Go.bits .and .u64 (IntKind.u64.wrap ((Go.bits .and .u64 (a0 / 2) 6148914691236517205) + (Go.bits .and .u64 a0 6148914691236517205))) 3689348814741910323))) / 16) + (IntKind.u64.wrap ((Go.bits .and .u64 ((IntKind.u64.wrap ((Go.bits .and .u64 (a0 / 2) 6148914691236517205) + (Go.bits .and .u64 a0 6148914691236517205))) / 4) 3689348814741910323) + (Go.bits .and .u64 (IntKind.u64.wrap ((Go.bits .and .u64 (a0 / 2) 6148914691236517205) + (Go.bits .and .u64 a0 6148914691236517205))) 3689348814741910323))))) 1085102592571150095) + ((Go.bits .and .u64 (IntKind.u64.wrap (((IntKind.u64.wrap ((Go.bits .and .u64 ((IntKind.u64.wrap ((Go.bits .and .u64 (a0 / 2) 6148914691236517205) + (Go.bits .and .u64 a0 6148914691236517205))) / 4) 3689348814741910323) + (Go.bits .and .u64 (IntKind.u64.wrap ((Go.bits .and .u64 (a0 / 2) 6148914691236517205) + (Go.bits .and .u64 a0 6148914691236517205))) 3689348814741910323))) / 16) + (IntKind.u64.wrap ((Go.bits .and .u64 ((IntKind.u64.wrap ((Go.bits .and .u64 (a0 / 2) 6148914691236517205) + (Go.bits .and .u64 a0 6148914691236517205))) / 4) 3689348814741910323) + (Go.bits .and .u64 (IntKind.u64.wrap ((Go.bits .and .u64 (a0 / 2) 6148914691236517205) + (Go.bits .and .u64 a0 6148914691236517205))) 3689348814741910323))))) 1085102592571150095) / 256))) + ((IntKind.u64.wrap ((Go.bits .and .u64 (IntKind.u64.wrap (((IntKind.u64.wrap ((Go.bits .and .u64 ((IntKind.u64.wrap ((Go.bits .and .u64 (a0 / 2) 6148914691236517205) + (Go.bits .and .u64 a0 6148914691236517205))) / 4) 3689348814741910323) + (Go.bits .and .u64 (IntKind.u64.wrap ((Go.bits .and .u64 (a0 / 2) 6148914691236517205) + (Go.bits .and .u64 a0 6148914691236517205))) 3689348814741910323))) / 16) + (IntKind.u64.wrap ((Go.bits .and .u64 ((IntKind.u64.wrap ((Go.bits .and .u64 (a0 / 2) 6148914691236517205) + (Go.bits .and .u64 a0 6148914691236517205))) / 4) 3689348814741910323) + (Go.bits .and .u64 (IntKind.u64.wrap ((Go.bits .and .u64 (a0 / 2) 6148914691236517205) + (Go.bits .and .u64 a0 6148914691236517205))) 3689348814741910323))))) 1085102592571150095) + ((Go.bits .and .u64 (IntKind.u64.wrap (((IntKind.u64.wrap ((Go.bits .and .u64 ((IntKind.u64.wrap ((Go.bits .and .u64 (a0 / 2) 6148914691236517205) + (Go.bits .and .u64 a0 6148914691236517205))) / 4) 3689348814741910323) + (Go.bits .and .u64 (IntKind.u64.wrap ((Go.bits .and .u64 (a0 / 2) 6148914691236517205) + (Go.bits .and .u64 a0 6148914691236517205))) 3689348814741910323))) / 16) + (IntKind.u64.wrap ((Go.bits .and .u64 ((IntKind.u64.wrap ((Go.bits .and .u64 (a0 / 2) 6148914691236517205) + (Go.bits .and .u64 a0 6148914691236517205))) / 4) 3689348814741910323) + (Go.bits .and .u64 (IntKind.u64.wrap ((Go.bits .and .u64 (a0 / 2) 6148914691236517205) + (Go.bits .and .u64 a0 6148914691236517205))) 3689348814741910323))))) 1085102592571150095) / 256))) / 65536))) / 4294967296)))) 127)
set_option maxHeartbeats 8000000 in
set_option maxRecDepth 100000 in
theorem ones64.calls (a0 : Int) (w : World) : Calls Tryd.prog 100 #[.int .u64 a0] w fun e w' => e = .returned (.int .i64 (onesI a0)) ∧ Drawn0 w w' := by
 unfold onesI
 go_enter Tryd.func100, Tryd.ntmps100
 go_wp2
 go_ret
 exact ⟨by first | rfl | (simp; done) | (simp [*]; done), by repeat (first | exact Drawn0.refl _ | apply Drawn0.step)⟩
theorem ones.calls (a0 : Int) (w : World) : Calls Tryd.prog 56 #[.int .u64 a0] w fun e w' => e = .returned (.int .i64 (onesI a0)) ∧ Drawn0 w w' := by
 obtain ⟨r, hr⟩ : ∃ r, onesI a0 = r := ⟨_, rfl⟩
 rw [hr]
 go_enter Tryd.func56, Tryd.ntmps56
 go_wp2_with fail
 refine (ones64.calls a0 _).mono ?_
 rw [hr]
 rintro e w1 ⟨rfl, hb⟩
 go_wp2
 go_ret
 exact ⟨rfl, hb⟩
theorem ones_all : ∀ n ∈ List.range 301, (onesI (n : Int) != 1) = !isPow n := by decide +kernel
theorem ones_pow (n : Nat) (h : n ≤ 300) : (onesI (n : Int) != 1) = !isPow n := ones_all n (List.mem_range.2 (by omega))
end Go.Proofs.YtijfifphcchbbaaDoor.P
namespace Go.Proofs.YtijfifphcchbbaaDoor.P
open Go.RowKit Go.Proofs.YtijfifphcchbbaaDoorW.PrintWords Go.Proofs.YtijfifphcchbbaaDoorW.PrintLast Go.Proofs.YtijfifphcchbbaaDoorW.PrintMore
set_option linter.unusedVariables false
set_option linter.unusedSimpArgs false
set_option linter.unnecessarySimpa false
theorem rightS_mod (p : Int) (hp : 0 ≤ p) (h64 : p < 18446744073709551616) (k : Nat) : rightS p k = decide (p / 2 ^ k % 2 = 0) := by
 have h1 : 0 ≤ p / 2 ^ k := Int.ediv_nonneg hp (Int.le_of_lt (Int.pow_pos (by decide)))
 have h2 : p / 2 ^ k < 18446744073709551616 := Int.lt_of_le_of_lt (Int.ediv_le_self _ hp) h64
 unfold rightS
 rw [Lib.u64_and1 _ h1 h2, Bool.eq_iff_iff, beq_iff_eq, decide_eq_true_eq]
end Go.Proofs.YtijfifphcchbbaaDoor.P
namespace Go.Proofs.YtijfifphcchbbaaDoor.P
open Go.RowKit Go.Proofs.YtijfifphcchbbaaDoorW.PrintWords Go.Proofs.YtijfifphcchbbaaDoorW.PrintLast Go.Proofs.YtijfifphcchbbaaDoorW.PrintMore
set_option linter.unusedVariables false
set_option linter.unusedSimpArgs false
set_option linter.unnecessarySimpa false
def stepV (w : Int) (n : SNode) (x : SNode × Bool) : SNode := if x.2 then joinV w n x.1 else joinV w x.1 n
def climbV (w : Int) : SNode → List (SNode × Bool) → SNode
 | n, [] => n
 | n, x :: xs => climbV w (stepV w n x) xs
theorem stepV_val (w : Int) (n : SNode) (x : SNode × Bool) : valU (stepV w n x).f1 = valU n.f1 + valU x.1.f1 := by
 unfold stepV; split <;> rw [joinV_val]; omega
theorem stepV_k {w : Int} {n : SNode} {x : SNode × Bool} (hn : NodeK w n) (hx : NodeK w x.1) (h : valU n.f1 + valU x.1.f1 < 340282366920938463463374607431768211456) : NodeK w (stepV w n x) := by
 unfold stepV; split
 ·
  exact joinV_k hn hx h
 ·
  exact joinV_k hx hn (by omega)
theorem stepI_room {w : Int} {n : SNode} {x : SNode × Bool} (hn : NodeK w n) (hx : NodeK w x.1) (h : valU n.f1 + valU x.1.f1 < 340282366920938463463374607431768211456) : stepI w n x = ((stepV w n x).f0, (stepV w n x).f1.f0, (stepV w n x).f1.f1, 0) := by
 unfold stepI stepV; split
 ·
  exact joinI_room hn hx h
 ·
  exact joinI_room hx hn (by omega)
def totX (xs : List (SNode × Bool)) : Int := totL (xs.map (·.1))
theorem totX_cons (x : SNode × Bool) (xs) : totX (x :: xs) = valU x.1.f1 + totX xs := rfl
theorem totX_nn {w : Int} {xs : List (SNode × Bool)} (h : ∀ x ∈ xs, NodeK w x.1) : 0 ≤ totX xs := totL_nn fun y hy => by
 obtain ⟨x, hx, rfl⟩ := List.mem_map.1 hy; exact h x hx
theorem climbL_room {w : Int} : ∀ (xs : List (SNode × Bool)) (n : SNode), NodeK w n → (∀ x ∈ xs, NodeK w x.1) → valU n.f1 + totX xs < 340282366920938463463374607431768211456 →
  climbL w n xs = ((climbV w n xs).f0, (climbV w n xs).f1.f0, (climbV w n xs).f1.f1, 0) ∧ NodeK w (climbV w n xs) ∧ valU (climbV w n xs).f1 = valU n.f1 + totX xs
 | [], n, hn, _, _ => ⟨rfl, hn, by simp [climbV, totX, totL]⟩
 | x :: xs, n, hn, hx, h => by
  rw [totX_cons] at h
  have hx1 := hx x (by simp)
  have hxs : ∀ y ∈ xs, NodeK w y.1 := fun y hy => hx y (by simp [hy])
  have h0 := totX_nn hxs
  have hr : valU n.f1 + valU x.1.f1 < 340282366920938463463374607431768211456 := by omega
  have := climbL_room xs (stepV w n x) (stepV_k hn hx1 hr) hxs (by rw [stepV_val]; omega)
  rw [stepV_val] at this
  refine ⟨?_, this.2.1, by rw [climbV, totX_cons]; omega⟩
  rw [climbL, stepI_room hn hx1 hr, if_pos rfl, climbV]
  exact this.1
theorem turnsTo_fst (p : Int) (l : List SNode) : (turnsTo p l l.length).map (·.1) = l := by
 unfold turnsTo
 rw [List.map_map]
 apply List.ext_getElem
 ·
  simp
 ·
  intro i h1 h2
  simp at h1
  simp [List.getD_eq_getElem?_getD, h1]
theorem turnsTo_k {w p : Int} {l : List SNode} (h : ∀ x ∈ l, NodeK w x) : ∀ x ∈ turnsTo p l l.length, NodeK w x.1 := fun x hx => by
 refine h _ ?_
 rw [← turnsTo_fst p l]
 exact List.mem_map.2 ⟨x, hx, rfl⟩
theorem totX_turns (p : Int) (l : List SNode) : totX (turnsTo p l l.length) = totL l := by unfold totX; rw [turnsTo_fst]
theorem climbI_room {w p : Int} {n : SNode} {l : List SNode} (hn : NodeK w n) (hl : ∀ x ∈ l, NodeK w x) (h63 : l.length ≤ 63) (h : valU n.f1 + totL l < 340282366920938463463374607431768211456) :
  climbI w n p l = ((climbV w n (turnsTo p l l.length)).f0, (climbV w n (turnsTo p l l.length)).f1.f0, (climbV w n (turnsTo p l l.length)).f1.f1, 0) ∧ NodeK w (climbV w n (turnsTo p l l.length)) ∧ valU (climbV w n (turnsTo p l l.length)).f1 = valU n.f1 + totL l := by
 have := climbL_room (turnsTo p l l.length) n hn (turnsTo_k hl) (by rw [totX_turns]; exact h)
 rw [totX_turns] at this
 unfold climbI
 rw [if_pos ⟨hn.of, List.all_eq_true.2 fun x hx => (hl x hx).of⟩, if_neg (by omega)]
 exact this
theorem climbV_append (w : Int) : ∀ (a b : List (SNode × Bool)) (n : SNode), climbV w n (a ++ b) = climbV w (climbV w n a) b
 | [], _, _ => rfl
 | x :: a, b, n => by rw [List.cons_append, climbV, climbV, climbV_append w a b]
def blkV (w : Int) (l : List SNode) (j q : Nat) : SNode := treeV w j ((l.drop (q * 2 ^ j)).take (2 ^ j))
theorem blkV_succ (w : Int) (l : List SNode) (j q : Nat) (h : (q + 1) * 2 ^ (j + 1) ≤ l.length) : blkV w l (j + 1) q = joinV w (blkV w l j (2 * q)) (blkV w l j (2 * q + 1)) := by
 have hp : 2 ^ (j + 1) = 2 ^ j + 2 ^ j := by rw [Nat.pow_succ]; omega
 unfold blkV
 rw [treeV, List.take_take, List.drop_take, List.drop_drop, Nat.min_eq_left (by rw [hp]; exact Nat.le_add_right _ _), show 2 ^ (j + 1) - 2 ^ j = 2 ^ j by rw [hp]; exact Nat.add_sub_cancel ..]
 have e1 : q * 2 ^ (j + 1) = 2 * q * 2 ^ j := by rw [Nat.pow_succ, Nat.mul_comm 2 q, Nat.mul_assoc, Nat.mul_comm 2]
 have e2 : (2 * q + 1) * 2 ^ j = q * 2 ^ (j + 1) + 2 ^ j := by rw [Nat.add_mul, Nat.one_mul, e1]
 rw [e2, e1]
def sideV (w : Int) (l : List SNode) (p j : Nat) : SNode := blkV w l j (if (p / 2 ^ j) % 2 = 1 then p / 2 ^ j - 1 else p / 2 ^ j + 1)
theorem totL_take_le {w : Int} {l : List SNode} (h : ∀ x ∈ l, NodeK w x) (a n : Nat) : totL ((l.drop a).take n) ≤ totL l := by
 have h1 := totL_append ((l.drop a).take n) ((l.drop a).drop n)
 rw [List.take_append_drop] at h1
 have h2 := totL_append (l.take a) (l.drop a)
 rw [List.take_append_drop] at h2
 have h3 := totL_nn (w := w) (l := (l.drop a).drop n) fun x hx => h x (List.mem_of_mem_drop (List.mem_of_mem_drop hx))
 have h4 := totL_nn (w := w) (l := l.take a) fun x hx => h x (List.mem_of_mem_take hx)
 omega
theorem blk_len {l : List SNode} {j q k : Nat} (hl : l.length = 2 ^ k) (hj : j ≤ k) (hq : q < 2 ^ (k - j)) : ((l.drop (q * 2 ^ j)).take (2 ^ j)).length = 2 ^ j ∧ (q + 1) * 2 ^ j ≤ l.length := by
 have h1 : (q + 1) * 2 ^ j ≤ 2 ^ (k - j) * 2 ^ j := Nat.mul_le_mul_right _ hq
 rw [← Nat.pow_add, Nat.sub_add_cancel hj] at h1
 have h2 : (q + 1) * 2 ^ j = q * 2 ^ j + 2 ^ j := by rw [Nat.add_mul, Nat.one_mul]
 rw [List.length_take, List.length_drop]
 omega
theorem rightS_nat (p j : Nat) (hp : p < 18446744073709551616) : rightS (p : Int) j = decide (p / 2 ^ j % 2 = 0) := by
 rw [rightS_mod (p : Int) (by omega) (by omega) j, decide_eq_decide]
 have e : ((p : Int) / 2 ^ j) = ((p / 2 ^ j : Nat) : Int) := by simp
 rw [e]
 omega
theorem climbV_place {w : Int} {l : List SNode} {k p : Nat} (hl : l.length = 2 ^ k) (hp : p < 2 ^ k) (h64 : p < 18446744073709551616) : ∀ j, j ≤ k → climbV w (l.getD p zeroN) ((List.range j).map fun i => (sideV w l p i, rightS (p : Int) i)) = blkV w l j (p / 2 ^ j)
 | 0, _ => by
  have h1 : p < l.length := by omega
  have h2 : l.drop p = l[p] :: l.drop (p + 1) := List.drop_eq_getElem_cons h1
  have h3 : l.getD p zeroN = l[p] := by simp [List.getD_eq_getElem?_getD, h1]
  rw [h3]
  unfold blkV treeV
  rw [show p / 2 ^ 0 * 2 ^ 0 = p by simp, h2]
  rfl
 | j + 1, h => by
  have ih := climbV_place (w := w) hl hp h64 j (by omega)
  have hq : p / 2 ^ j < 2 ^ (k - j) := by
   rw [Nat.div_lt_iff_lt_mul (Nat.two_pow_pos j), ← Nat.pow_add, Nat.sub_add_cancel (by omega)]; exact hp
  have hq1 : p / 2 ^ (j + 1) < 2 ^ (k - (j + 1)) := by
   rw [Nat.div_lt_iff_lt_mul (Nat.two_pow_pos _), ← Nat.pow_add, Nat.sub_add_cancel h]; exact hp
  have hd : p / 2 ^ (j + 1) = p / 2 ^ j / 2 := by rw [Nat.pow_succ, Nat.div_div_eq_div_mul]
  rw [List.range_succ, List.map_append, climbV_append, ih, blkV_succ w l j _ (blk_len hl h hq1).2, List.map_cons, List.map_nil, climbV, climbV, stepV, rightS_nat p j h64]
  rw [hd]
  unfold sideV
  generalize p / 2 ^ j = a at *
  by_cases ho : a % 2 = 0
  ·
   rw [decide_eq_true ho, if_pos rfl, if_neg (by omega), show 2 * (a / 2) = a by omega]
  ·
   rw [decide_eq_false ho, if_neg Bool.false_ne_true, if_pos (by omega), show 2 * (a / 2) = a - 1 by omega, show a - 1 + 1 = a by omega]
theorem climbV_val (w : Int) : ∀ (xs : List (SNode × Bool)) (n : SNode), valU (climbV w n xs).f1 = valU n.f1 + totX xs
 | [], n => by simp [climbV, totX, totL]
 | x :: xs, n => by rw [climbV, climbV_val w xs, stepV_val, totX_cons]; omega
theorem sideV_k {w : Int} {l : List SNode} {k p j : Nat} (hl : l.length = 2 ^ k) (hp : p < 2 ^ k) (hk : ∀ x ∈ l, NodeK w x) (ht : totL l < 340282366920938463463374607431768211456) (hj : j < k) : NodeK w (sideV w l p j) ∧
  (let b := if (p / 2 ^ j) % 2 = 1 then p / 2 ^ j - 1 else p / 2 ^ j + 1; (b + 1) * 2 ^ j ≤ l.length ∧ ((l.drop (b * 2 ^ j)).take (2 ^ j)).length = 2 ^ j) := by
 have hq : p / 2 ^ j < 2 ^ (k - j) := by
  rw [Nat.div_lt_iff_lt_mul (Nat.two_pow_pos j), ← Nat.pow_add, Nat.sub_add_cancel (by omega)]; exact hp
 have he : 2 ^ (k - j) = 2 * 2 ^ (k - j - 1) := by rw [← Nat.pow_succ']; congr 1; omega
 have hb : (if (p / 2 ^ j) % 2 = 1 then p / 2 ^ j - 1 else p / 2 ^ j + 1) < 2 ^ (k - j) := by
  generalize 2 ^ (k - j - 1) = z at he
  generalize p / 2 ^ j = y at hq ⊢
  split <;> omega
 obtain ⟨b1, b2⟩ := blk_len (l := l) hl (by omega) hb
 exact ⟨treeV_k j _ b1 (fun x hx => hk x (List.mem_of_mem_drop (List.mem_of_mem_take hx))) (Int.lt_of_le_of_lt (totL_take_le hk _ _) ht), b2, b1⟩
theorem climb_place {w : Int} {l S : List SNode} {k p : Nat} (hl : l.length = 2 ^ k) (hp : p < 2 ^ k) (hk : ∀ x ∈ l, NodeK w x) (ht : totL l < 340282366920938463463374607431768211456) (h63 : k ≤ 63) (hS : S = (List.range k).map (sideV w l p)) :
  climbI w (l.getD p zeroN) (p : Int) S = ((treeV w k l).f0, (treeV w k l).f1.f0, (treeV w k l).f1.f1, 0) := by
 have hn : NodeK w (l.getD p zeroN) := by
  have h1 : p < l.length := by omega
  have : l.getD p zeroN = l[p] := by simp [List.getD_eq_getElem?_getD, h1]
  rw [this]; exact hk _ (List.getElem_mem h1)
 have hlen : S.length = k := by rw [hS]; simp
 have hT : turnsTo (p : Int) S S.length = (List.range k).map fun i => (sideV w l p i, rightS (p : Int) i) := by
  rw [hlen, hS]
  unfold turnsTo
  refine List.map_congr_left fun i hi => ?_
  have := List.mem_range.1 hi
  simp [List.getD_eq_getElem?_getD, this]
 have h64 : p < 18446744073709551616 := Nat.lt_trans (lL' hp (Nat.pow_le_pow_right (by decide) h63)) (by decide)
 have hV := climbV_place (w := w) hl hp h64 k (Nat.le_refl _)
 rw [show p / 2 ^ k = 0 from Nat.div_eq_of_lt hp] at hV
 have hB : blkV w l k 0 = treeV w k l := by
  unfold blkV
  rw [Nat.zero_mul, List.drop_zero, ← hl, List.take_length]
 have hv := climbV_val w (turnsTo (p : Int) S S.length) (l.getD p zeroN)
 rw [totX_turns, hT, hV, hB, treeV_val k l hl] at hv
 have hSk : ∀ x ∈ S, NodeK w x := fun x hx => by
  rw [hS] at hx
  obtain ⟨i, hi, rfl⟩ := List.mem_map.1 hx
  exact (sideV_k hl hp hk ht (List.mem_range.1 hi)).1
 have := (climbI_room (p := (p : Int)) hn hSk (by omega) (by omega)).1
 rw [hT, hV, hB] at this
 exact this
end Go.Proofs.YtijfifphcchbbaaDoor.P
namespace Go.Proofs.YtijfifphcchbbaaDoor.P
open Go.RowKit Go.Proofs.YtijfifphcchbbaaDoorW.PrintWords Go.Proofs.YtijfifphcchbbaaDoorW.PrintLast Go.Proofs.YtijfifphcchbbaaDoorW.PrintMore
set_option linter.unusedVariables false
set_option linter.unusedSimpArgs false
set_option linter.unnecessarySimpa false
def lenV : Value → Nat
 | .slice _ n _ => n
 | _ => 0
structure FoS (w : World) (wd : Int) (W : World) : Prop where
 h2 : W.heap[w.heap.size]? = some (.cells #[.int .i64 wd] 3 (0, 0))
 h4 : W.heap[w.heap.size + 1]? = some (.cells #[.string ⟨#[]⟩, .int .u64 0, .int .u64 0] 28 (0, 0))
 hB : Below w.heap.size w W
theorem FoS.below {w W W' : World} {wd : Int} (h : FoS w wd W) (hb : Below W.heap.size W W') : FoS w wd W' := ⟨blk_below h.h2 hb, blk_below h.h4 hb, h.hB.trans (hb.mono h.hB.size)⟩
theorem first_at {W : World} {ad : Addr} {l : List SNode} (h : Kd.C kNode W (some ad) l.length l) (h1 : l.length = 1) : W.cell? ad = some (.string (l.headD zeroN).f0) ∧ W.cell? ⟨ad.block, ad.off + 1, none⟩ = some (.int .u64 (l.headD zeroN).f1.f0) ∧ W.cell? ⟨ad.block, ad.off + 2, none⟩ = some (.int .u64 (l.headD zeroN).f1.f1) := by
 obtain ⟨a1, e1, p0, p1, p2⟩ := at_TNode h 0 (by omega) (by omega)
 cases e1
 match l, h1 with
 | [x], _ => exact ⟨p0, p1, p2⟩
set_option maxRecDepth 100000 in
set_option maxHeartbeats 4000000 in
theorem fold.calls (wd : Int) (A : Option Addr) (c : Nat) (l : List SNode) (w : World) (hK : Laid w) (hr : Kd.C kNode w A l.length l) (hc : l.length ≤ c) (h300 : l.length ≤ 300) (ul : ∀ x ∈ l, OkU x.f1) :
  Calls Tryd.prog 14 #[.int .i64 wd, .slice A l.length c] w fun e w' => e = .returned (.tuple #[nodeV (nodeJ (foldI wd l)), .int .i64 (foldI wd l).2.2.2]) ∧ Below w.heap.size w w' := by
 have hu := Tryd.underlying28
 have HR := aM' hr
 have HK := aM' hK
 have HC := aM' hc
 have H3 := aM' h300
 have UL := aM' ul
 clear hr hK hc h300 ul
 go_enter Tryd.func14, Tryd.ntmps14
 go_wp2_with fail
 have hs0 : FoS w wd ((w.alloc (.cells #[.int .i64 wd] 3)).alloc (.cells #[.string ⟨#[]⟩, .int .u64 0, .int .u64 0] 28)) :=
  ⟨blk_alloc (blk_new w _) _, by have := blk_new (w.alloc (.cells #[.int .i64 wd] 3)) (.cells #[.string ⟨#[]⟩, .int .u64 0, .int .u64 0] 28); rwa [World.size_alloc] at this, below_alloc (below_alloc (Below.refl _ _) _) _⟩
 refine (all.calls wd A c l _ (Kd.C_below HR.out hs0.hB)).mono ?_
 rintro e w1 ⟨rfl, hb⟩
 have hs1 := hs0.below hb
 have HS1 := aM' hs1
 clear hs0 hb
 have y0 : w1.cell? ⟨w.heap.size + 1, 0, none⟩ = some (.string ⟨#[]⟩) := blk_cell hs1.h4 0
 have y1 : w1.cell? ⟨w.heap.size + 1, 1, none⟩ = some (.int .u64 0) := blk_cell hs1.h4 1
 have y2 : w1.cell? ⟨w.heap.size + 1, 2, none⟩ = some (.int .u64 0) := blk_cell hs1.h4 2
 have yf : ∀ i, w1.frozen? ⟨w.heap.size + 1, i, none⟩ = false := fun i => blk_frozen hs1.h4 i
 clear hs1
 by_cases hal : 1 ≤ wd ∧ wd ≤ 32 ∧ l.all (nodeOf wd) = true
 ·
  have hb1 : (decide (1 ≤ wd) && (decide (wd ≤ 32) && l.all (nodeOf wd))) = true := by simp [hal]
  rw [hb1]
  have HAL := aM' hal
  clear hal hb1
  go_wp2_with fail
  refine (ones.calls _ _).mono ?_
  rintro e w2 ⟨rfl, ⟨⟨nd, rfl⟩⟩⟩
  have hop := ones_pow l.length H3.out
  rw [← wrapu64_id (x := (l.length : Int)) (by omega) (by have := H3.out; omega)] at hop
  generalize onesI (IntKind.u64.wrap (l.length : Int)) = pv at hop ⊢
  cases hp : isPow l.length with
  | false =>
   rw [hp] at hop
   have HI := aM' (show foldI wd l = (⟨#[]⟩, 0, 0, 2) by unfold foldI; rw [if_pos HAL.out, if_neg (by rw [hp]; decide)])
   go_wp2
   refine bodyPost_ret (v := .tuple #[.agg #[.string ⟨#[]⟩, .int .u64 0, .int .u64 0], .int .i64 2]) ?_ rfl ⟨by rw [HI.out], ?_⟩
   ·
    simp [results, Tryd.results14, go_sem, hu, y0, y1, y2]
   ·
    exact below_set (below_set (below_set (pw_below_drewN HS1.out.hB _) (by (try dsimp only); omega)) (by (try dsimp only); omega)) (by (try dsimp only); omega)
  | true =>
   rw [hp] at hop
   obtain ⟨K, hK2⟩ := isPow_spec hp
   have hk : ∀ x ∈ l, NodeK wd x := allK HAL.out.2.2 UL.out
   have HI := aM' (foldI_pow HAL.out.1 HAL.out.2.1 hK2 HAL.out.2.2)
   have hA : ∃ ad, A = some ad := by
    obtain ⟨_, _, h3⟩ := HR.out
    obtain ⟨a, ha, _⟩ := h3 (by rw [hK2]; exact Nat.two_pow_pos K)
    exact ⟨a, ha⟩
   obtain ⟨ad0, rfl⟩ := hA
   have HS2 := aM' (HS1.out.below (pw_below_drewN (Below.refl _ _) nd))
   have HK2 := aM' hK2
   have HKK := aM' hk
   clear hK2 hk hp
   go_wp2
   go_loopw [1] (fun v wr => ∃ (ad : Addr) (cc : Nat) (cur : List SNode), v = .slice (some ad) cur.length cc ∧ Aside0 (cur.length ≤ cc ∧ cur.length ≤ 300) ∧ Aside0 (∃ k, cur.length = 2 ^ k ∧ treeV wd k cur = treeV wd K l) ∧ Aside0 (totL cur = totL l) ∧ Aside0 (∀ x ∈ cur, NodeK wd x) ∧ Aside0 (Kd.C kNode wr (some ad) cur.length cur) ∧ Aside0 (FoS w wd wr)) (fun v _ => lenV v)
   case atStart => exact ⟨ad0, c, l, rfl, ⟨HC.out, H3.out⟩, ⟨K, HK2.out, rfl⟩, ⟨rfl⟩, HKK, ⟨Kd.C_below HR.out HS2.out.hB⟩, HS2⟩
   case round =>
    obtain ⟨ad, cc, cur, rfl, HCC, HT, HTT, HN, HCR, HS⟩ := hrel
    by_cases hlt : 1 < cur.length
    ·
     have b1 : decide ((1 : Int) < (cur.length : Int)) = true := decide_eq_true (by omega)
     obtain ⟨k, hk1, hk2⟩ := HT.out
     obtain ⟨k, rfl⟩ : ∃ k', k = k' + 1 := by
      cases k with
      | zero => rw [hk1] at hlt; simp at hlt
      | succ k => exact ⟨k, rfl⟩
     have hm2 : cur.length = 2 * 2 ^ k := by rw [hk1, Nat.pow_succ, Nat.mul_comm]
     have hm1 : 1 ≤ 2 ^ k := Nat.two_pow_pos k
     have HK1 := aM' hk1
     have HK2' := aM' hk2
     have HM2 := aM' hm2
     have HM1 := aM' hm1
     clear hk1 hk2 hm2 hm1
     go_wp2_with fail
     refine (pairs.calls wd w.heap.size ad cc (2 ^ k) cur wr (HK.out.below HS.out.hB) HS.out.h2 HM2.out HM1.out (by have := HCC.out; have := HM2.out; omega) HCC.out.1 HCR.out HN.out).mono ?_
     rintro e w3 ⟨hb, h⟩
     have HS3 := aM' (HS.out.below hb)
     clear hb
     obtain ⟨hpo, g, cap, rfl, hcap, hC⟩ | ⟨hpo, rfl⟩ := h
     ·
      have hl3 : (pairsV wd cur).length = 2 ^ k := pairsV_len wd _ _ HM2.out
      have HT3 := aM' (show ∃ k, (pairsV wd cur).length = 2 ^ k ∧ treeV wd k (pairsV wd cur) = treeV wd K l from ⟨k, hl3, by rw [← treeV_pairs wd k cur HK1.out]; exact HK2'.out⟩)
      have HTT3 := aM' ((pairsV_tot wd _ _ HM2.out).trans HTT.out)
      have HN3 := aM' (pairsV_k _ _ HM2.out HN.out hpo)
      rw [← hl3] at hC hcap ⊢
      have hlt3 : (pairsV wd cur).length < cur.length := by rw [hl3]; have := HM2.out; have := HM1.out; omega
      generalize pairsV wd cur = nx at hl3 HT3 HTT3 HN3 hC hcap hlt3 ⊢
      have HC3 := aM' hC
      have HCC3 := aM' (show nx.length ≤ cap ∧ nx.length ≤ 300 from ⟨hcap, by have := HCC.out; omega⟩)
      have HLT3 := aM' hlt3
      clear hl3 hC hcap hpo hlt3
      go_wp2
      go_roundw
      case rel => exact ⟨⟨g, 0, none⟩, cap, nx, rfl, HCC3, HT3, HTT3, HN3, HC3, HS3⟩
      case measure => exact HLT3.out
     ·
      have hno : ¬ totL l < 340282366920938463463374607431768211456 := by rw [← HTT.out]; exact pairsOk_tot _ _ HM2.out HN.out hpo
      have HI2 := aM' (show foldI wd l = (⟨#[]⟩, 0, 0, 10) by rw [HI.out, if_neg hno])
      have z0 : w3.cell? ⟨w.heap.size + 1, 0, none⟩ = some (.string ⟨#[]⟩) := blk_cell HS3.out.h4 0
      have z1 : w3.cell? ⟨w.heap.size + 1, 1, none⟩ = some (.int .u64 0) := blk_cell HS3.out.h4 1
      have z2 : w3.cell? ⟨w.heap.size + 1, 2, none⟩ = some (.int .u64 0) := blk_cell HS3.out.h4 2
      have zf : ∀ i, w3.frozen? ⟨w.heap.size + 1, i, none⟩ = false := fun i => blk_frozen HS3.out.h4 i
      clear hno y0 y1 y2 yf hpo
      go_wp2
      refine bodyPost_ret (v := .tuple #[.agg #[.string ⟨#[]⟩, .int .u64 0, .int .u64 0], .int .i64 10]) ?_ rfl ⟨by rw [HI2.out], ?_⟩
      ·
       simp [results, Tryd.results14, go_sem, hu, z0, z1, z2]
      ·
       exact below_set (below_set (below_set HS3.out.hB (by (try dsimp only); omega)) (by (try dsimp only); omega)) (by (try dsimp only); omega)
    ·
     have b1 : decide ((1 : Int) < (cur.length : Int)) = false := decide_eq_false (by omega)
     obtain ⟨k, hk1, hk2⟩ := HT.out
     have hk0 : k = 0 := by
      rcases Nat.eq_zero_or_pos k with h | h
      ·
       exact h
      ·
       have := Nat.pow_lt_pow_right (a := 2) (by decide) h
       omega
     subst hk0
     have h1 : cur.length = 1 := hk1
     obtain ⟨p0, p1, p2⟩ := first_at HCR.out h1
     have g1 : (0 : Int) < (cur.length : Int) := by omega
     have hx : cur.headD zeroN = treeV wd K l := by rw [← hk2]; rfl
     rw [hx] at p0 p1 p2
     have htot : totL l < 340282366920938463463374607431768211456 := by
      rw [← HTT.out]
      match cur, h1, HN.out with
      | [x], _, hn => have := valU_lt (hn x (by simp)).u; simp [totL]; exact this
     have HI2 := aM' (show foldI wd l = ((treeV wd K l).f0, (treeV wd K l).f1.f0, (treeV wd K l).f1.f1, 0) by rw [HI.out, if_pos htot])
     have z0 : wr.cell? ⟨w.heap.size + 1, 0, none⟩ = some (.string ⟨#[]⟩) := blk_cell HS.out.h4 0
     have z1 : wr.cell? ⟨w.heap.size + 1, 1, none⟩ = some (.int .u64 0) := blk_cell HS.out.h4 1
     have z2 : wr.cell? ⟨w.heap.size + 1, 2, none⟩ = some (.int .u64 0) := blk_cell HS.out.h4 2
     have zf : ∀ i, wr.frozen? ⟨w.heap.size + 1, i, none⟩ = false := fun i => blk_frozen HS.out.h4 i
     clear hk1 hk2 hx htot y0 y1 y2 yf
     go_wp2
     refine bodyPost_ret (v := .tuple #[.agg #[.string (treeV wd K l).f0, .int .u64 (treeV wd K l).f1.f0, .int .u64 (treeV wd K l).f1.f1], .int .i64 0]) ?_ rfl ⟨by rw [HI2.out], ?_⟩
     ·
      simp [results, Tryd.results14, go_sem, hu, z0, z1, z2]
     ·
      exact below_set (below_set (below_set HS.out.hB (by (try dsimp only); omega)) (by (try dsimp only); omega)) (by (try dsimp only); omega)
 ·
  have hb1 : (decide (1 ≤ wd) && (decide (wd ≤ 32) && l.all (nodeOf wd))) = false := by
   cases h : (decide (1 ≤ wd) && (decide (wd ≤ 32) && l.all (nodeOf wd))) with
   | false => rfl
   | true => simp only [Bool.and_eq_true, decide_eq_true_eq] at h; exact absurd h hal
  rw [hb1]
  have HI := aM' (show foldI wd l = (⟨#[]⟩, 0, 0, 70) by unfold foldI; rw [if_neg hal])
  clear hal hb1
  go_wp2
  refine bodyPost_ret (v := .tuple #[.agg #[.string ⟨#[]⟩, .int .u64 0, .int .u64 0], .int .i64 70]) ?_ rfl ⟨by rw [HI.out], ?_⟩
  ·
   simp [results, Tryd.results14, go_sem, hu, y0, y1, y2]
  ·
   exact below_set (below_set (below_set HS1.out.hB (by (try dsimp only); omega)) (by (try dsimp only); omega)) (by (try dsimp only); omega)
def node_Fold.f (x0 : Int) (l : List SNode) : Option (ByteArray × Int × Int × Int) :=
 if l.length ≤ 300 ∧ ∀ x ∈ l, (0 ≤ x.f1.f0 ∧ x.f1.f0 < 18446744073709551616) ∧ (0 ≤ x.f1.f1 ∧ x.f1.f1 < 18446744073709551616) then some (foldI x0 l) else none
theorem node_Fold.calls (x0 : Int) (A : Option Addr) (c : Nat) (l : List SNode) (r1 : ByteArray) (r2 r3 r4 : Int) (w : World) (hK : Laid w) (hr : Kd.C kNode w A l.length l) (hc : l.length ≤ c) (h : node_Fold.f x0 l = some (r1, r2, r3, r4)) :
  Calls Tryd.prog 14 #[.int .i64 x0, .slice A l.length c] w fun e w' => e = .returned (.tuple #[.agg #[.string r1, .int .u64 r2, .int .u64 r3], .int .i64 r4]) ∧ Below w.heap.size w w' := by
 unfold node_Fold.f at h
 split at h
 ·
  rename_i hh
  have h2 := Option.some.inj h
  refine (fold.calls x0 A c l w hK hr hc hh.1 (fun x hx => ⟨(hh.2 x hx).1, (hh.2 x hx).2⟩)).mono ?_
  rintro e w' ⟨rfl, hb⟩
  rw [h2]
  exact ⟨rfl, hb⟩
 ·
  cases h
end Go.Proofs.YtijfifphcchbbaaDoor.P
namespace Go.Proofs.YtijfifphcchbbaaDoor.P
open Go.RowKit Go.Proofs.YtijfifphcchbbaaDoorW.PrintWords Go.Proofs.YtijfifphcchbbaaDoorW.PrintLast Go.Proofs.YtijfifphcchbbaaDoorW.PrintMore
set_option linter.unusedVariables false
set_option linter.unusedSimpArgs false
set_option linter.unnecessarySimpa false
structure RFo (w W : World) : Prop where
 h4 : W.heap[w.heap.size]? = some (.cells #[.string ⟨#[]⟩, .int .u64 0, .int .u64 0] 28 (0, 0))
 hB : Below w.heap.size w W
theorem RFo.below {w W W' : World} (h : RFo w W) (hb : Below W.heap.size W W') : RFo w W' := ⟨blk_below h.h4 hb, h.hB.trans (hb.mono h.hB.size)⟩
end Go.Proofs.YtijfifphcchbbaaDoor.P
namespace Go.Proofs.YtijfifphcchbbaaDoor.P
open Go.RowKit Go.Proofs.YtijfifphcchbbaaDoorW.PrintWords Go.Proofs.YtijfifphcchbbaaDoorW.PrintLast Go.Proofs.YtijfifphcchbbaaDoorW.PrintMore
set_option linter.unusedVariables false
set_option linter.unusedSimpArgs false
set_option linter.unnecessarySimpa false
theorem lit_C {W : World} {g : Nat} {cur : Array Value} {xs : List SNode} (hg : W.heap[g]? = some (.cells cur 28 (0, 0))) (hc : cur.toList = cellsN xs) (hl : xs.length ≤ 1000) : Kd.C kNode W (some ⟨g, 0, none⟩) xs.length xs := by
 have hs : cur.size = xs.length * 3 := by rw [← cellsN_len, ← hc]; simp
 exact (ownNodes_C (base := 0) (cap := xs.length) ⟨cellsN_len xs, .inr ⟨g, xs.length, cur, rfl, Nat.zero_le _, hg, Nat.le_refl _, by unfold maxLen; omega, hs, by rw [← hc, List.take_of_length_le (by simp; omega)]⟩⟩).2.2
def aN : SNode := ⟨⟨#[97]⟩, ⟨0, 3⟩⟩
def bN : SNode := ⟨⟨#[98]⟩, ⟨0, 4⟩⟩
def mN : SNode := ⟨⟨#[98]⟩, ⟨18446744073709551615, 18446744073709551615⟩⟩
theorem aN_k : NodeK 1 aN := ⟨by decide, ⟨by decide, by decide⟩, ⟨by decide, by decide⟩⟩
theorem bN_k : NodeK 1 bN := ⟨by decide, ⟨by decide, by decide⟩, ⟨by decide, by decide⟩⟩
theorem mN_k : NodeK 1 mN := ⟨by decide, ⟨by decide, by decide⟩, ⟨by decide, by decide⟩⟩
def xB : ByteArray := dgI 1 (nodeText aN bN)
theorem xB_size : xB.size = 1 := dgI_size 1 _ (by decide) (by decide)
theorem aw_join : joinI 1 aN bN = (xB, 0, 7, 0) := (joinI_room aN_k bN_k (by decide)).trans rfl
theorem aw_fold : foldI 1 [aN, bN] = (xB, 0, 7, 0) := by
 have := foldI_pow (w := 1) (l := [aN, bN]) (k := 1) (by decide) (by decide) rfl (by decide)
 rw [this, if_pos (by decide)]; rfl
theorem aw_climb : climbI 1 bN 1 [aN] = (xB, 0, 7, 0) := by
 unfold climbI
 rw [if_pos (by decide), if_neg (by decide)]
 have e : turnsTo 1 [aN] [aN].length = [(aN, false)] := by
  have h : rightS 1 0 = false := by decide
  simp [turnsTo, List.range_succ, h]
 rw [e]
 show (if (joinI 1 aN bN).2.2.2 = 0 then climbL 1 (nodeJ (joinI 1 aN bN)) [] else _) = _
 rw [aw_join, if_pos rfl]; rfl
theorem aw_full : joinI 1 aN mN = (⟨#[]⟩, 0, 0, 10) := joinI_full aN_k mN_k (by decide)
theorem aw_width : joinI 2 aN bN = (⟨#[]⟩, 0, 0, 70) := by unfold joinI; rw [if_neg (by decide)]
theorem aw_three : foldI 1 [aN, bN, aN] = (⟨#[]⟩, 0, 0, 2) := by
 unfold foldI; rw [if_pos (by decide), if_neg (by decide)]
abbrev aA : Array Value := #[.string ⟨#[97]⟩, .int .u64 0, .int .u64 3]
abbrev bA : Array Value := #[.string ⟨#[98]⟩, .int .u64 0, .int .u64 4]
abbrev xA : Array Value := #[.string xB, .int .u64 0, .int .u64 7]
structure Aw1 (w W : World) : Prop where
 h1 : W.heap[w.heap.size]? = some (.cells aA 28 (0, 0))
 h2 : W.heap[w.heap.size + 1]? = some (.cells bA 28 (0, 0))
 hB : Below w.heap.size w W
theorem Aw1.below {w W W' : World} (h : Aw1 w W) (hb : Below W.heap.size W W') : Aw1 w W' := ⟨blk_below h.h1 hb, blk_below h.h2 hb, h.hB.trans (hb.mono h.hB.size)⟩
set_option maxRecDepth 100000 in
set_option maxHeartbeats 4000000 in
theorem awake14.calls (w : World) (hK : Laid w) : Calls Tryd.prog 17 #[] w fun e w' => e = .returned (.bool true) ∧ Below w.heap.size w w' := by
 have HK := aM' hK
 obtain ⟨k1, hk1⟩ := join_ev 1 aN bN aN_k.u bN_k.u
 obtain ⟨k2, hk2⟩ := join_ev 1 aN mN aN_k.u mN_k.u
 obtain ⟨k3, hk3⟩ := join_ev 2 aN bN aN_k.u bN_k.u
 rw [aw_join] at hk1
 rw [aw_full] at hk2
 rw [aw_width] at hk3
 have J1 := aM' (hk1 k1 (Nat.le_refl _))
 have J2 := aM' (hk2 k2 (Nat.le_refl _))
 have J3 := aM' (hk3 k3 (Nat.le_refl _))
 clear hK hk1 hk2 hk3
 have F1 := aM' (show node_Fold.f 1 [aN, bN] = some (xB, 0, 7, 0) by unfold node_Fold.f; rw [if_pos (by decide), aw_fold])
 have F2 := aM' (show node_Fold.f 1 [aN, bN, aN] = some (⟨#[]⟩, 0, 0, 2) by unfold node_Fold.f; rw [if_pos (by decide), aw_three])
 have C1 := aM' (show node_Climb.f 1 ⟨#[98]⟩ 0 4 1 [aN] = some (xB, 0, 7, 0) by unfold node_Climb.f; rw [if_pos (by decide)]; exact congrArg some aw_climb)
 go_enter Tryd.func17, Tryd.ntmps17
 go_upto_region 2 with (fail)
 have hA : Aw1 w ((w.alloc (.cells aA 28)).alloc (.cells bA 28)) := ⟨blk_alloc (blk_new w _) _, by have := blk_new (w.alloc (.cells aA 28)) (.cells bA 28); rwa [World.size_alloc] at this, below_alloc (below_alloc (Below.refl _ _) _) _⟩
 obtain ⟨W1, hW⟩ : ∃ W1, W1 = ((w.alloc (.cells #[.string ⟨#[97]⟩, .int .u64 0, .int .u64 3] 28)).alloc (.cells #[.string ⟨#[98]⟩, .int .u64 0, .int .u64 4] 28)) := ⟨_, rfl⟩
 rw [← hW]
 have hA1 : Aw1 w W1 := by rw [hW]; exact hA
 have HA1 := aM' hA1
 clear hA hA1 hW
 have x0 : W1.cell? ⟨w.heap.size, 0, none⟩ = some (.string ⟨#[97]⟩) := blk_cell HA1.out.h1 0
 have x1 : W1.cell? ⟨w.heap.size, 1, none⟩ = some (.int .u64 0) := blk_cell HA1.out.h1 1
 have x2 : W1.cell? ⟨w.heap.size, 2, none⟩ = some (.int .u64 3) := blk_cell HA1.out.h1 2
 have y0 : W1.cell? ⟨w.heap.size + 1, 0, none⟩ = some (.string ⟨#[98]⟩) := blk_cell HA1.out.h2 0
 have y1 : W1.cell? ⟨w.heap.size + 1, 1, none⟩ = some (.int .u64 0) := blk_cell HA1.out.h2 1
 have y2 : W1.cell? ⟨w.heap.size + 1, 2, none⟩ = some (.int .u64 4) := blk_cell HA1.out.h2 2
 go_wp2_with fail
 refine (node_Join.calls k1 1 ⟨#[97]⟩ 0 3 ⟨#[98]⟩ 0 4 xB 0 7 0 _ (HK.out.below HA1.out.hB) J1.out).mono ?_
 rintro e v ⟨rfl, hb0⟩
 go_upto_region 3 with (fail)
 have hb := hb0
 have hA := HA1.out.below hb
 obtain ⟨W2, hW⟩ : ∃ W2, W2 = v.alloc (.cells #[.string xB, .int .u64 0, .int .u64 7] 28) := ⟨_, rfl⟩
 rw [← hW]
 have hA2 : Aw1 w W2 := by rw [hW]; exact hA.below (below_alloc (Below.refl _ _) _)
 have hn : W2.heap[v.heap.size]? = some (.cells #[.string xB, .int .u64 0, .int .u64 7] 28 (0, 0)) := by rw [hW]; exact blk_new v _
 generalize v.heap.size = g2 at hn ⊢
 clear hA hb hb0 hW x0 x1 x2 y0 y1 y2 
 have HA2 := aM' hA2
 have Hg2 := aM' hn
 clear hA2 hn HA1 v 
 have x0 : W2.cell? ⟨w.heap.size, 0, none⟩ = some (.string ⟨#[97]⟩) := blk_cell HA2.out.h1 0
 have x1 : W2.cell? ⟨w.heap.size, 1, none⟩ = some (.int .u64 0) := blk_cell HA2.out.h1 1
 have x2 : W2.cell? ⟨w.heap.size, 2, none⟩ = some (.int .u64 3) := blk_cell HA2.out.h1 2
 have y0 : W2.cell? ⟨w.heap.size + 1, 0, none⟩ = some (.string ⟨#[98]⟩) := blk_cell HA2.out.h2 0
 have y1 : W2.cell? ⟨w.heap.size + 1, 1, none⟩ = some (.int .u64 0) := blk_cell HA2.out.h2 1
 have y2 : W2.cell? ⟨w.heap.size + 1, 2, none⟩ = some (.int .u64 4) := blk_cell HA2.out.h2 2
 have q1 : Kd.C kNode (W2.alloc (.cells #[.string ⟨#[97]⟩, .int .u64 0, .int .u64 3, .string ⟨#[98]⟩, .int .u64 0, .int .u64 4] 28)) (some ⟨W2.heap.size, 0, none⟩) ([aN, bN]).length [aN, bN] := lit_C (xs := [aN, bN]) (blk_new W2 (.cells #[.string ⟨#[97]⟩, .int .u64 0, .int .u64 3, .string ⟨#[98]⟩, .int .u64 0, .int .u64 4] 28)) rfl (by decide)
 have q2 : Laid (W2.alloc (.cells #[.string ⟨#[97]⟩, .int .u64 0, .int .u64 3, .string ⟨#[98]⟩, .int .u64 0, .int .u64 4] 28)) := (HK.out.below HA2.out.hB).below (below_alloc (Below.refl _ _) _)
 have q3 := node_Fold.calls 1 (some ⟨W2.heap.size, 0, none⟩) 2 [aN, bN] xB 0 7 0 (W2.alloc (.cells #[.string ⟨#[97]⟩, .int .u64 0, .int .u64 3, .string ⟨#[98]⟩, .int .u64 0, .int .u64 4] 28)) q2 q1 (by decide) F1.out
 have Q := aM' q3
 clear q1 q2 q3
 go_wp2_with fail
 refine (Q.out).mono ?_
 rintro e v ⟨rfl, hb0⟩
 go_upto_region 4 with (fail)
 have hb := Below.trans (below_alloc (Below.refl _ W2) (.cells #[.string ⟨#[97]⟩, .int .u64 0, .int .u64 3, .string ⟨#[98]⟩, .int .u64 0, .int .u64 4] 28)) (hb0.mono (by simp))
 have hA := HA2.out.below hb
 have hg2 := blk_below Hg2.out hb
 obtain ⟨W3, hW⟩ : ∃ W3, W3 = v.alloc (.cells #[.string xB, .int .u64 0, .int .u64 7] 28) := ⟨_, rfl⟩
 rw [← hW]
 have hA3 : Aw1 w W3 := by rw [hW]; exact hA.below (below_alloc (Below.refl _ _) _)
 have hn : W3.heap[v.heap.size]? = some (.cells #[.string xB, .int .u64 0, .int .u64 7] 28 (0, 0)) := by rw [hW]; exact blk_new v _
 have hg2' : W3.heap[g2]? = some (.cells xA 28 (0, 0)) := by rw [hW]; exact blk_alloc hg2 _
 generalize v.heap.size = g3 at hn ⊢
 clear hA hb hb0 hW x0 x1 x2 y0 y1 y2 hg2
 have HA3 := aM' hA3
 have Hg3 := aM' hn
 have Hg2 := aM' hg2'
 clear hA3 hn HA2 v hg2'
 have x0 : W3.cell? ⟨w.heap.size, 0, none⟩ = some (.string ⟨#[97]⟩) := blk_cell HA3.out.h1 0
 have x1 : W3.cell? ⟨w.heap.size, 1, none⟩ = some (.int .u64 0) := blk_cell HA3.out.h1 1
 have x2 : W3.cell? ⟨w.heap.size, 2, none⟩ = some (.int .u64 3) := blk_cell HA3.out.h1 2
 have y0 : W3.cell? ⟨w.heap.size + 1, 0, none⟩ = some (.string ⟨#[98]⟩) := blk_cell HA3.out.h2 0
 have y1 : W3.cell? ⟨w.heap.size + 1, 1, none⟩ = some (.int .u64 0) := blk_cell HA3.out.h2 1
 have y2 : W3.cell? ⟨w.heap.size + 1, 2, none⟩ = some (.int .u64 4) := blk_cell HA3.out.h2 2
 have q1 : Kd.C kNode (W3.alloc (.cells #[.string ⟨#[97]⟩, .int .u64 0, .int .u64 3] 28)) (some ⟨W3.heap.size, 0, none⟩) ([aN]).length [aN] := lit_C (xs := [aN]) (blk_new W3 (.cells #[.string ⟨#[97]⟩, .int .u64 0, .int .u64 3] 28)) rfl (by decide)
 have q2 : Laid (W3.alloc (.cells #[.string ⟨#[97]⟩, .int .u64 0, .int .u64 3] 28)) := (HK.out.below HA3.out.hB).below (below_alloc (Below.refl _ _) _)
 have q3 := node_Climb.calls 1 ⟨#[98]⟩ 0 4 1 (some ⟨W3.heap.size, 0, none⟩) 1 [aN] xB 0 7 0 (W3.alloc (.cells #[.string ⟨#[97]⟩, .int .u64 0, .int .u64 3] 28)) q2 q1 (by decide) C1.out
 have Q := aM' q3
 clear q1 q2 q3
 go_wp2_with fail
 refine (Q.out).mono ?_
 rintro e v ⟨rfl, hb0⟩
 go_upto_region 5 with (fail)
 have hb := Below.trans (below_alloc (Below.refl _ W3) (.cells #[.string ⟨#[97]⟩, .int .u64 0, .int .u64 3] 28)) (hb0.mono (by simp))
 have hA := HA3.out.below hb
 have hg2 := blk_below Hg2.out hb
 have hg3 := blk_below Hg3.out hb
 obtain ⟨W4, hW⟩ : ∃ W4, W4 = v.alloc (.cells #[.string xB, .int .u64 0, .int .u64 7] 28) := ⟨_, rfl⟩
 rw [← hW]
 have hA4 : Aw1 w W4 := by rw [hW]; exact hA.below (below_alloc (Below.refl _ _) _)
 have hn : W4.heap[v.heap.size]? = some (.cells #[.string xB, .int .u64 0, .int .u64 7] 28 (0, 0)) := by rw [hW]; exact blk_new v _
 have hg2' : W4.heap[g2]? = some (.cells xA 28 (0, 0)) := by rw [hW]; exact blk_alloc hg2 _
 have hg3' : W4.heap[g3]? = some (.cells xA 28 (0, 0)) := by rw [hW]; exact blk_alloc hg3 _
 generalize v.heap.size = g4 at hn ⊢
 clear hA hb hb0 hW x0 x1 x2 y0 y1 y2 hg2 hg3
 have HA4 := aM' hA4
 have Hg4 := aM' hn
 have Hg2 := aM' hg2'
 have Hg3 := aM' hg3'
 clear hA4 hn HA3 v hg2' hg3'
 have x0 : W4.cell? ⟨w.heap.size, 0, none⟩ = some (.string ⟨#[97]⟩) := blk_cell HA4.out.h1 0
 have x1 : W4.cell? ⟨w.heap.size, 1, none⟩ = some (.int .u64 0) := blk_cell HA4.out.h1 1
 have x2 : W4.cell? ⟨w.heap.size, 2, none⟩ = some (.int .u64 3) := blk_cell HA4.out.h1 2
 have y0 : W4.cell? ⟨w.heap.size + 1, 0, none⟩ = some (.string ⟨#[98]⟩) := blk_cell HA4.out.h2 0
 have y1 : W4.cell? ⟨w.heap.size + 1, 1, none⟩ = some (.int .u64 0) := blk_cell HA4.out.h2 1
 have y2 : W4.cell? ⟨w.heap.size + 1, 2, none⟩ = some (.int .u64 4) := blk_cell HA4.out.h2 2
 go_wp2_with fail
 refine (node_Join.calls k2 1 ⟨#[97]⟩ 0 3 ⟨#[98]⟩ 18446744073709551615 18446744073709551615 ⟨#[]⟩ 0 0 10 _ (HK.out.below HA4.out.hB) J2.out).mono ?_
 rintro e v ⟨rfl, hb0⟩
 go_upto_region 6 with (fail)
 have hb := hb0
 have hA := HA4.out.below hb
 have hg2 := blk_below Hg2.out hb
 have hg3 := blk_below Hg3.out hb
 have hg4 := blk_below Hg4.out hb
 obtain ⟨W5, hW⟩ : ∃ W5, W5 = v.alloc (.cells #[.string ⟨#[]⟩, .int .u64 0, .int .u64 0] 28) := ⟨_, rfl⟩
 rw [← hW]
 have hA5 : Aw1 w W5 := by rw [hW]; exact hA.below (below_alloc (Below.refl _ _) _)
 have hn : W5.heap[v.heap.size]? = some (.cells #[.string ⟨#[]⟩, .int .u64 0, .int .u64 0] 28 (0, 0)) := by rw [hW]; exact blk_new v _
 have hg2' : W5.heap[g2]? = some (.cells xA 28 (0, 0)) := by rw [hW]; exact blk_alloc hg2 _
 have hg3' : W5.heap[g3]? = some (.cells xA 28 (0, 0)) := by rw [hW]; exact blk_alloc hg3 _
 have hg4' : W5.heap[g4]? = some (.cells xA 28 (0, 0)) := by rw [hW]; exact blk_alloc hg4 _
 generalize v.heap.size = g5 at hn ⊢
 clear hA hb hb0 hW x0 x1 x2 y0 y1 y2 hg2 hg3 hg4
 have HA5 := aM' hA5
 have Hg5 := aM' hn
 have Hg2 := aM' hg2'
 have Hg3 := aM' hg3'
 have Hg4 := aM' hg4'
 clear hA5 hn HA4 v hg2' hg3' hg4'
 have x0 : W5.cell? ⟨w.heap.size, 0, none⟩ = some (.string ⟨#[97]⟩) := blk_cell HA5.out.h1 0
 have x1 : W5.cell? ⟨w.heap.size, 1, none⟩ = some (.int .u64 0) := blk_cell HA5.out.h1 1
 have x2 : W5.cell? ⟨w.heap.size, 2, none⟩ = some (.int .u64 3) := blk_cell HA5.out.h1 2
 have y0 : W5.cell? ⟨w.heap.size + 1, 0, none⟩ = some (.string ⟨#[98]⟩) := blk_cell HA5.out.h2 0
 have y1 : W5.cell? ⟨w.heap.size + 1, 1, none⟩ = some (.int .u64 0) := blk_cell HA5.out.h2 1
 have y2 : W5.cell? ⟨w.heap.size + 1, 2, none⟩ = some (.int .u64 4) := blk_cell HA5.out.h2 2
 go_wp2_with fail
 refine (node_Join.calls k3 2 ⟨#[97]⟩ 0 3 ⟨#[98]⟩ 0 4 ⟨#[]⟩ 0 0 70 _ (HK.out.below HA5.out.hB) J3.out).mono ?_
 rintro e v ⟨rfl, hb0⟩
 go_upto_region 7 with (fail)
 have hb := hb0
 have hA := HA5.out.below hb
 have hg2 := blk_below Hg2.out hb
 have hg3 := blk_below Hg3.out hb
 have hg4 := blk_below Hg4.out hb
 obtain ⟨W6, hW⟩ : ∃ W6, W6 = v.alloc (.cells #[.string ⟨#[]⟩, .int .u64 0, .int .u64 0] 28) := ⟨_, rfl⟩
 rw [← hW]
 have hA6 : Aw1 w W6 := by rw [hW]; exact hA.below (below_alloc (Below.refl _ _) _)
 have hn : W6.heap[v.heap.size]? = some (.cells #[.string ⟨#[]⟩, .int .u64 0, .int .u64 0] 28 (0, 0)) := by rw [hW]; exact blk_new v _
 have hg2' : W6.heap[g2]? = some (.cells xA 28 (0, 0)) := by rw [hW]; exact blk_alloc hg2 _
 have hg3' : W6.heap[g3]? = some (.cells xA 28 (0, 0)) := by rw [hW]; exact blk_alloc hg3 _
 have hg4' : W6.heap[g4]? = some (.cells xA 28 (0, 0)) := by rw [hW]; exact blk_alloc hg4 _
 generalize v.heap.size = g6 at hn ⊢
 clear hA hb hb0 hW x0 x1 x2 y0 y1 y2 hg2 hg3 hg4
 have HA6 := aM' hA6
 have Hg6 := aM' hn
 have Hg2 := aM' hg2'
 have Hg3 := aM' hg3'
 have Hg4 := aM' hg4'
 clear hA6 hn HA5 v hg2' hg3' hg4'
 have x0 : W6.cell? ⟨w.heap.size, 0, none⟩ = some (.string ⟨#[97]⟩) := blk_cell HA6.out.h1 0
 have x1 : W6.cell? ⟨w.heap.size, 1, none⟩ = some (.int .u64 0) := blk_cell HA6.out.h1 1
 have x2 : W6.cell? ⟨w.heap.size, 2, none⟩ = some (.int .u64 3) := blk_cell HA6.out.h1 2
 have y0 : W6.cell? ⟨w.heap.size + 1, 0, none⟩ = some (.string ⟨#[98]⟩) := blk_cell HA6.out.h2 0
 have y1 : W6.cell? ⟨w.heap.size + 1, 1, none⟩ = some (.int .u64 0) := blk_cell HA6.out.h2 1
 have y2 : W6.cell? ⟨w.heap.size + 1, 2, none⟩ = some (.int .u64 4) := blk_cell HA6.out.h2 2
 have q1 : Kd.C kNode (W6.alloc (.cells #[.string ⟨#[97]⟩, .int .u64 0, .int .u64 3, .string ⟨#[98]⟩, .int .u64 0, .int .u64 4, .string ⟨#[97]⟩, .int .u64 0, .int .u64 3] 28)) (some ⟨W6.heap.size, 0, none⟩) ([aN, bN, aN]).length [aN, bN, aN] := lit_C (xs := [aN, bN, aN]) (blk_new W6 (.cells #[.string ⟨#[97]⟩, .int .u64 0, .int .u64 3, .string ⟨#[98]⟩, .int .u64 0, .int .u64 4, .string ⟨#[97]⟩, .int .u64 0, .int .u64 3] 28)) rfl (by decide)
 have q2 : Laid (W6.alloc (.cells #[.string ⟨#[97]⟩, .int .u64 0, .int .u64 3, .string ⟨#[98]⟩, .int .u64 0, .int .u64 4, .string ⟨#[97]⟩, .int .u64 0, .int .u64 3] 28)) := (HK.out.below HA6.out.hB).below (below_alloc (Below.refl _ _) _)
 have q3 := node_Fold.calls 1 (some ⟨W6.heap.size, 0, none⟩) 3 [aN, bN, aN] ⟨#[]⟩ 0 0 2 (W6.alloc (.cells #[.string ⟨#[97]⟩, .int .u64 0, .int .u64 3, .string ⟨#[98]⟩, .int .u64 0, .int .u64 4, .string ⟨#[97]⟩, .int .u64 0, .int .u64 3] 28)) q2 q1 (by decide) F2.out
 have Q := aM' q3
 clear q1 q2 q3
 go_wp2_with fail
 refine (Q.out).mono ?_
 rintro e v ⟨rfl, hb0⟩
 go_upto_region 8 with (fail)
 have hb := Below.trans (below_alloc (Below.refl _ W6) (.cells #[.string ⟨#[97]⟩, .int .u64 0, .int .u64 3, .string ⟨#[98]⟩, .int .u64 0, .int .u64 4, .string ⟨#[97]⟩, .int .u64 0, .int .u64 3] 28)) (hb0.mono (by simp))
 have hA := HA6.out.below hb
 have hg2 := blk_below Hg2.out hb
 have hg3 := blk_below Hg3.out hb
 have hg4 := blk_below Hg4.out hb
 obtain ⟨W7, hW⟩ : ∃ W7, W7 = v.alloc (.cells #[.string ⟨#[]⟩, .int .u64 0, .int .u64 0] 28) := ⟨_, rfl⟩
 rw [← hW]
 have hA7 : Aw1 w W7 := by rw [hW]; exact hA.below (below_alloc (Below.refl _ _) _)
 have hn : W7.heap[v.heap.size]? = some (.cells #[.string ⟨#[]⟩, .int .u64 0, .int .u64 0] 28 (0, 0)) := by rw [hW]; exact blk_new v _
 have hg2' : W7.heap[g2]? = some (.cells xA 28 (0, 0)) := by rw [hW]; exact blk_alloc hg2 _
 have hg3' : W7.heap[g3]? = some (.cells xA 28 (0, 0)) := by rw [hW]; exact blk_alloc hg3 _
 have hg4' : W7.heap[g4]? = some (.cells xA 28 (0, 0)) := by rw [hW]; exact blk_alloc hg4 _
 generalize v.heap.size = g7 at hn ⊢
 clear hA hb hb0 hW x0 x1 x2 y0 y1 y2 hg2 hg3 hg4
 have HA7 := aM' hA7
 have Hg7 := aM' hn
 have Hg2 := aM' hg2'
 have Hg3 := aM' hg3'
 have Hg4 := aM' hg4'
 clear hA7 hn HA6 v hg2' hg3' hg4'
 have p0 : W7.cell? ⟨g2, 0, none⟩ = some (.string xB) := blk_cell Hg2.out 0
 have p1 : W7.cell? ⟨g2, 1, none⟩ = some (.int .u64 0) := blk_cell Hg2.out 1
 have p2 : W7.cell? ⟨g2, 2, none⟩ = some (.int .u64 7) := blk_cell Hg2.out 2
 have q0 : W7.cell? ⟨g3, 0, none⟩ = some (.string xB) := blk_cell Hg3.out 0
 have q1 : W7.cell? ⟨g3, 1, none⟩ = some (.int .u64 0) := blk_cell Hg3.out 1
 have q2 : W7.cell? ⟨g3, 2, none⟩ = some (.int .u64 7) := blk_cell Hg3.out 2
 have s0 : W7.cell? ⟨g4, 0, none⟩ = some (.string xB) := blk_cell Hg4.out 0
 have s1 : W7.cell? ⟨g4, 1, none⟩ = some (.int .u64 0) := blk_cell Hg4.out 1
 have s2 : W7.cell? ⟨g4, 2, none⟩ = some (.int .u64 7) := blk_cell Hg4.out 2
 have hxs : ((xB.size : Int) == 1) = true := by rw [xB_size]; rfl
 go_wp2
 go_ret
 exact ⟨rfl, HA7.out.hB⟩
def paymasterlaw14_awake.f : Option Bool := some true
theorem paymasterlaw14_awake.calls (r : Bool) (w : World) (hK : Laid w) (h : paymasterlaw14_awake.f = some r) : Calls Tryd.prog 17 #[] w fun e w' => e = .returned (.bool r) ∧ Below w.heap.size w w' := by
 cases h
 exact awake14.calls w hK
end Go.Proofs.YtijfifphcchbbaaDoor.P
namespace Go.Proofs.YtijfifphcchbbaaDoor.P
open Go.RowKit Go.Proofs.YtijfifphcchbbaaDoorW.PrintWords Go.Proofs.YtijfifphcchbbaaDoorW.PrintLast Go.Proofs.YtijfifphcchbbaaDoorW.PrintMore
attribute [local go_sem] max2_int min2_int max_two min_two max_three min_three max_four min_four-- for this text's walks alone
set_option linter.unusedVariables false
set_option linter.unusedSimpArgs false
attribute [local go_sem high] eqANode
def paymasterlaw14_NodePlaces.l0 : Nat → Int → List (SNode) → Int → List (SNode) → Int → Int → ByteArray → Int → Int → Option (Bool)
 | 0, _, _, _, _, _, _, _, _, _ => none
 | k + 1, x0, x1, x9, x10, x11, x12, x150000, x150001, x150002 => if x12 < (x1.length : Int) then (if (Int.tmod x11 2) = 1 then (if 0 ≤ (wrap64 ((wrap64 (x11 - 1)) * x12)) then (if (wrap64 ((wrap64 (x11 - 1)) * x12)) ≤ (wrap64 ((wrap64 ((wrap64 (x11 - 1)) + 1)) * x12)) then (if (wrap64 ((wrap64 ((wrap64 (x11 - 1)) + 1)) * x12)) ≤ (x1.length : Int) then ((node_Fold.f x0 ((x1.take ((wrap64 ((wrap64 ((wrap64 (x11 - 1)) + 1)) * x12)) : Int).toNat).drop ((wrap64 ((wrap64 (x11 - 1)) * x12)) : Int).toNat)).bind fun bt160 => (if bt160.2.2.2 = 0 then (if x10.length < 4398046511104 then (paymasterlaw14_NodePlaces.l0 k x0 x1 x9 (x10 ++ [(⟨bt160.1, (⟨bt160.2.1, bt160.2.2.1⟩ : SU128)⟩ : SNode)]) (wrap64 (Int.tdiv x11 2)) (wrap64 (x12 * 2)) x150000 x150001 x150002) else (none)) else (some false))) else (none)) else (none)) else (none)) else (if 0 ≤ (wrap64 ((wrap64 (x11 + 1)) * x12)) then (if (wrap64 ((wrap64 (x11 + 1)) * x12)) ≤ (wrap64 ((wrap64 ((wrap64 (x11 + 1)) + 1)) * x12)) then (if (wrap64 ((wrap64 ((wrap64 (x11 + 1)) + 1)) * x12)) ≤ (x1.length : Int) then ((node_Fold.f x0 ((x1.take ((wrap64 ((wrap64 ((wrap64 (x11 + 1)) + 1)) * x12)) : Int).toNat).drop ((wrap64 ((wrap64 (x11 + 1)) * x12)) : Int).toNat)).bind fun bt172 => (if bt172.2.2.2 = 0 then (if x10.length < 4398046511104 then (paymasterlaw14_NodePlaces.l0 k x0 x1 x9 (x10 ++ [(⟨bt172.1, (⟨bt172.2.1, bt172.2.2.1⟩ : SU128)⟩ : SNode)]) (wrap64 (Int.tdiv x11 2)) (wrap64 (x12 * 2)) x150000 x150001 x150002) else (none)) else (some false))) else (none)) else (none)) else (none))) else (if 0 ≤ x9 then (if x9 < (x1.length : Int) then ((node_Climb.f x0 ((rd_TNode x1 x9).f0) ((rd_TNode x1 x9).f1.f0) ((rd_TNode x1 x9).f1.f1) (IntKind.u64.wrap (x9)) x10).bind fun bt151 => (if bt151.2.2.2 = 0 then (some (bt151.1.toList == x150000.toList && ((bt151.2.1 == x150001 && (bt151.2.2.1 == x150002))))) else (some false))) else (none)) else (none))
def paymasterlaw14_NodePlaces.f (k : Nat) (a0 : Int) (l1 : List (SNode)) (a2 : Int) : Option (Bool) := (paymasterlaw14_awake.f).bind fun t143 => (if t143 = true then ((paymasterlaw14_Great.f k l1).bind fun t144 => (if t144 = true then (some true) else ((node_Fold.f a0 l1).bind fun bt145 => (if bt145.2.2.2 = 0 then (if (l1.length : Int) = 0 then (none) else (paymasterlaw14_NodePlaces.l0 k a0 l1 (Int.tmod (wrap64 (a2)) (l1.length : Int)) ([] : List (SNode)) (Int.tmod (wrap64 (a2)) (l1.length : Int)) 1 bt145.1 bt145.2.1 bt145.2.2.1)) else (some true))))) else (some false))
set_option maxHeartbeats 8000000 in
set_option maxRecDepth 100000 in
theorem paymasterlaw14_NodePlaces.calls (k : Nat) (a0 : Int) (A1 : Option Addr) (c1 : Nat) (l1 : List (SNode)) (a2 : Int) (r : Bool) (w : World) (hK : Laid w) (hr1 : Kd.C kNode w A1 l1.length l1) (hc1 : l1.length ≤ c1) (h : paymasterlaw14_NodePlaces.f k a0 l1 a2 = some r) :
  Calls Tryd.prog 5 #[.int .i64 a0, .slice A1 l1.length c1, .int .u16 a2] w fun e w' => e = .returned (.bool r) ∧ Below w.heap.size w w' := by
 have hu28 := Tryd.underlying28
 have HR1 := aM' hr1
 have HC1 := aM' hc1
 clear hr1 hc1
 have HB := aM' (Below.refl w.heap.size w)
 have HLD := aM' hK
 clear hK
 have H : ((paymasterlaw14_awake.f).bind fun t143 => (if t143 = true then ((paymasterlaw14_Great.f k l1).bind fun t144 => (if t144 = true then (some true) else ((node_Fold.f a0 l1).bind fun bt145 => (if bt145.2.2.2 = 0 then (if (l1.length : Int) = 0 then (none) else (paymasterlaw14_NodePlaces.l0 k a0 l1 (Int.tmod (wrap64 (a2)) (l1.length : Int)) ([] : List (SNode)) (Int.tmod (wrap64 (a2)) (l1.length : Int)) 1 bt145.1 bt145.2.1 bt145.2.2.1)) else (some true))))) else (some false))) = some r := h
 clear h
 replace H := Option.bind_eq_some_iff.mp H
 obtain ⟨t143, A40, H⟩ := H
 replace H : (if t143 = true then ((paymasterlaw14_Great.f k l1).bind fun t144 => (if t144 = true then (some true) else ((node_Fold.f a0 l1).bind fun bt145 => (if bt145.2.2.2 = 0 then (if (l1.length : Int) = 0 then (none) else (paymasterlaw14_NodePlaces.l0 k a0 l1 (Int.tmod (wrap64 (a2)) (l1.length : Int)) ([] : List (SNode)) (Int.tmod (wrap64 (a2)) (l1.length : Int)) 1 bt145.1 bt145.2.1 bt145.2.2.1)) else (some true))))) else (some false)) = some r := H
 have A4 := aM' A40
 clear A40
 by_cases c5 : t143 = true
 ·
  subst c5
  have H1 : ((paymasterlaw14_Great.f k l1).bind fun t144 => (if t144 = true then (some true) else ((node_Fold.f a0 l1).bind fun bt145 => (if bt145.2.2.2 = 0 then (if (l1.length : Int) = 0 then (none) else (paymasterlaw14_NodePlaces.l0 k a0 l1 (Int.tmod (wrap64 (a2)) (l1.length : Int)) ([] : List (SNode)) (Int.tmod (wrap64 (a2)) (l1.length : Int)) 1 bt145.1 bt145.2.1 bt145.2.2.1)) else (some true))))) = some r := by rw [if_pos rfl] at H; exact H
  clear H
  have H := H1
  clear H1
  replace H := Option.bind_eq_some_iff.mp H
  obtain ⟨t144, A60, H⟩ := H
  replace H : (if t144 = true then (some true) else ((node_Fold.f a0 l1).bind fun bt145 => (if bt145.2.2.2 = 0 then (if (l1.length : Int) = 0 then (none) else (paymasterlaw14_NodePlaces.l0 k a0 l1 (Int.tmod (wrap64 (a2)) (l1.length : Int)) ([] : List (SNode)) (Int.tmod (wrap64 (a2)) (l1.length : Int)) 1 bt145.1 bt145.2.1 bt145.2.2.1)) else (some true)))) = some r := H
  have A6 := aM' A60
  clear A60
  by_cases c7 : t144 = true
  ·
   subst c7
   have H1 : (some true) = some r := by rw [if_pos rfl] at H; exact H
   clear H
   have H := H1
   clear H1
   obtain rfl := Option.some.inj H
   go_enter Tryd.func5, Tryd.ntmps5
   go_wp2_with (first | ((with_reducible refine gate_callee (f := 17) rfl ?_); refine goesL_ (some 18) rfl rfl Tryd.func17 (by kernel_rfl) rfl #[] rfl (by (try simp only [List.map_toArray, List.map_cons, List.map_nil]); first | done | rfl | (simp only [List.length_drop, List.length_take]; rfl)) ?_; (with_reducible refine (paymasterlaw14_awake.calls  true _ ?side1 A4.out).mono ?_); (case side1 => exact Laid.below HLD.out (by repeat (first | (with_reducible first | exact HB.out | apply below_alloc | apply pw_below_drewN | apply below_drew1) | exact HB.out))); rintro e w8 ⟨rfl, hb⟩; refine ⟨_, rfl, ?_⟩; have n0_ := aM' (below_step (by repeat (first | (with_reducible first | exact HB.out | apply below_alloc | apply pw_below_drewN | apply below_drew1) | exact HB.out)) hb); clear HB; have HB := n0_; clear n0_; (try clear hb); (try clear hb2); (try clear hk); (try clear hi)) | ((with_reducible refine gate_callee (f := 13) rfl ?_); refine goesL_ (some 21) rfl rfl Tryd.func13 (by kernel_rfl) rfl #[.slice A1 l1.length c1] rfl (by (try simp only [List.map_toArray, List.map_cons, List.map_nil]); first | done | rfl | (simp only [List.length_drop, List.length_take]; rfl)) ?_; (with_reducible refine (paymasterlaw14_Great.calls k _ _ l1 true _ ?side1 ?side2 A6.out).mono ?_); (case side1 => repeat (first | exact (Kd.C_below HR1.out HB.out) | (with_reducible refine Kd.C_alloc ?_ _) | (with_reducible refine Kd.C_drewN ?_ _) | (with_reducible refine Kd.C_drew ?_))); (case side2 => exact HC1.out); rintro e w' ⟨rfl, ⟨nd, rfl⟩⟩; refine ⟨_, rfl, ?_⟩))
   go_ret
   exact ⟨by first | rfl | (simp [errW_none, errW_some] <;> rfl) | (simp [*, errW_none, errW_some] <;> rfl), by repeat (first | (with_reducible first | exact HB.out | apply below_alloc | apply pw_below_drewN | apply below_drew1) | exact HB.out)⟩
  ·
   replace c7 := Bool.eq_false_iff.mpr c7
   subst c7
   have H1 : ((node_Fold.f a0 l1).bind fun bt145 => (if bt145.2.2.2 = 0 then (if (l1.length : Int) = 0 then (none) else (paymasterlaw14_NodePlaces.l0 k a0 l1 (Int.tmod (wrap64 (a2)) (l1.length : Int)) ([] : List (SNode)) (Int.tmod (wrap64 (a2)) (l1.length : Int)) 1 bt145.1 bt145.2.1 bt145.2.2.1)) else (some true))) = some r := by rw [if_neg (show ¬ (false = true) by decide)] at H; exact H
   clear H
   have H := H1
   clear H1
   replace H := Option.bind_eq_some_iff.mp H
   obtain ⟨⟨t145, t146, t147, t148⟩, A90, H⟩ := H
   replace H : (if t148 = 0 then (if (l1.length : Int) = 0 then (none) else (paymasterlaw14_NodePlaces.l0 k a0 l1 (Int.tmod (wrap64 (a2)) (l1.length : Int)) ([] : List (SNode)) (Int.tmod (wrap64 (a2)) (l1.length : Int)) 1 t145 t146 t147)) else (some true)) = some r := H
   have A9 := aM' A90
   clear A90
   by_cases c10 : t148 = 0
   ·
    rw [if_pos c10] at H
    have c10b0 : (t148 == 0) = true := beq_iff_eq.mpr c10
    have c10b1 : (t148 != 0) = false := bne_eq_false_iff_eq.mpr c10
    clear c10
    by_cases c11 : (l1.length : Int) = 0
    ·
     rw [if_pos c11] at H
     exact absurd H (by simp)
    ·
     rw [if_neg c11] at H
     have c11b0 : ((l1.length : Int) == 0) = false := beq_eq_false_iff_ne.mpr c11
     have c11b1 : ((l1.length : Int) != 0) = true := bne_iff_ne.mpr c11
     have c11b2 : ¬ (l1 = []) := fun h_ => c11 (by rw [h_]; rfl)
     have H' := aM' H
     clear H
     go_enter Tryd.func5, Tryd.ntmps5
     go_wp2_with (first | ((with_reducible refine gate_callee (f := 17) rfl ?_); refine goesL_ (some 18) rfl rfl Tryd.func17 (by kernel_rfl) rfl #[] rfl (by (try simp only [List.map_toArray, List.map_cons, List.map_nil]); first | done | rfl | (simp only [List.length_drop, List.length_take]; rfl)) ?_; (with_reducible refine (paymasterlaw14_awake.calls  true _ ?side1 A4.out).mono ?_); (case side1 => exact Laid.below HLD.out (by repeat (first | (with_reducible first | exact HB.out | apply below_alloc | apply pw_below_drewN | apply below_drew1) | exact HB.out))); rintro e w12 ⟨rfl, hb⟩; refine ⟨_, rfl, ?_⟩; have n0_ := aM' (below_step (by repeat (first | (with_reducible first | exact HB.out | apply below_alloc | apply pw_below_drewN | apply below_drew1) | exact HB.out)) hb); clear HB; have HB := n0_; clear n0_; (try clear hb); (try clear hb2); (try clear hk); (try clear hi)) | ((with_reducible refine gate_callee (f := 13) rfl ?_); refine goesL_ (some 21) rfl rfl Tryd.func13 (by kernel_rfl) rfl #[.slice A1 l1.length c1] rfl (by (try simp only [List.map_toArray, List.map_cons, List.map_nil]); first | done | rfl | (simp only [List.length_drop, List.length_take]; rfl)) ?_; (with_reducible refine (paymasterlaw14_Great.calls k _ _ l1 false _ ?side1 ?side2 A6.out).mono ?_); (case side1 => repeat (first | exact (Kd.C_below HR1.out HB.out) | (with_reducible refine Kd.C_alloc ?_ _) | (with_reducible refine Kd.C_drewN ?_ _) | (with_reducible refine Kd.C_drew ?_))); (case side2 => exact HC1.out); rintro e w' ⟨rfl, ⟨nd, rfl⟩⟩; refine ⟨_, rfl, ?_⟩; (try (rw [drewN_self w12]; generalize hq_ : World.drewN w12 _ = w12; have n0_ : Aside0 (Below w.heap.size w w12) := ⟨by rw [← hq_]; exact (by repeat (first | (with_reducible first | exact HB.out | apply below_alloc | apply pw_below_drewN | apply below_drew1) | exact HB.out))⟩; clear HB hq_; have HB := n0_; clear n0_))) | ((with_reducible refine gate_callee (f := 14) rfl ?_); refine goesL_ (some 25) rfl rfl Tryd.func14 (by kernel_rfl) rfl #[.int .i64 a0, .slice A1 l1.length c1] rfl (by (try simp only [List.map_toArray, List.map_cons, List.map_nil]); first | done | rfl | (simp only [List.length_drop, List.length_take]; rfl)) ?_; (with_reducible refine (node_Fold.calls a0 _ _ l1 t145 t146 t147 t148 _ ?side1 ?side2 ?side3 A9.out).mono ?_); (case side1 => exact Laid.below HLD.out (by repeat (first | (with_reducible first | exact HB.out | apply below_alloc | apply pw_below_drewN | apply below_drew1) | exact HB.out))); (case side2 => repeat (first | exact (Kd.C_below HR1.out HB.out) | (with_reducible refine Kd.C_alloc ?_ _) | (with_reducible refine Kd.C_drewN ?_ _) | (with_reducible refine Kd.C_drew ?_))); (case side3 => exact HC1.out); rintro e w13 ⟨rfl, hb⟩; refine ⟨_, rfl, ?_⟩; have n0_ := aM' (below_step (by repeat (first | (with_reducible first | exact HB.out | apply below_alloc | apply pw_below_drewN | apply below_drew1) | exact HB.out)) hb); clear HB; have HB := n0_; clear n0_; (try clear hb); (try clear hb2); (try clear hk); (try clear hi)) | ((with_reducible refine gate_dst (N := 7) rfl ?_); refine box_event ?hg (N := 7) ?hd (cs := #[.string (⟨#[]⟩ : ByteArray), .int .u64 0, .int .u64 0]) (t := 28) ?hr ?_; (case hd => rfl); (case hg => rfl); (case hr => first | (go_simp; done) | (go_simp; rfl)); intro gb149 hg w14 hbox hb; have n0_ := aM' (below_step (by repeat (first | (with_reducible first | exact HB.out | apply below_alloc | apply pw_below_drewN | apply below_drew1) | exact HB.out)) hb); have n1_ := aM' (hbox); have n2_ := aM' ((by rw [hg]; exact (below_size (by repeat (first | (with_reducible first | exact HB.out | apply below_alloc | apply pw_below_drewN | apply below_drew1) | exact HB.out))) : w.heap.size ≤ gb149)); have n3_ := aM' ((by rw [hg]; exact (below_size (by repeat (first | (with_reducible first | exact HB.out | apply below_alloc | apply pw_below_drewN | apply below_drew1) | exact HB.out))) : w.heap.size ≤ gb149)); clear HB; have HB := n0_; have BK149 := n1_; have GW149 := n2_; have GE149 := n3_; clear n0_ n1_ n2_ n3_; clear hb hbox hg; have hcz15_0 : w14.cell? ⟨gb149, 0, none⟩ = some (.string (⟨#[]⟩ : ByteArray)) := (blk_cell BK149.out 0).trans rfl; have hcz15_1 : w14.cell? ⟨gb149, 1, none⟩ = some (.int .u64 0) := (blk_cell BK149.out 1).trans rfl; have hcz15_2 : w14.cell? ⟨gb149, 2, none⟩ = some (.int .u64 0) := (blk_cell BK149.out 2).trans rfl; have hfz15_0 := blk_frozen BK149.out 0; have hfz15_1 := blk_frozen BK149.out 1; have hfz15_2 := blk_frozen BK149.out 2))
     go_loopg [10, 11, 12] k (fun kq v10 v11 v12 w' => ∃ (x10_1 : List (SNode)) (x11_1 : Int) (x12_1 : Int), v11 = .int .i64 x11_1 ∧ v12 = .int .i64 x12_1 ∧ Aside0 (paymasterlaw14_NodePlaces.l0 kq a0 l1 (Int.tmod (wrap64 (a2)) (l1.length : Int)) x10_1 x11_1 x12_1 t145 t146 t147 = some r) ∧ Aside0 (kq ≤ k) ∧ Aside0 (Kd.R kNode 28 w' w.heap.size (fun k_ => k_ ≠ gb149) v10 x10_1) ∧ Aside0 (w'.heap[gb149]? = some (.cells #[.string t145, .int .u64 t146, .int .u64 t147] 28 (0, 0))) ∧ Aside0 (Below w.heap.size w w'))
     case atStart => exact ⟨(([] : List (SNode))), (Int.tmod (wrap64 (a2)) (l1.length : Int)), (1), (by first | rfl | (simp; done) | (simp [*]; done)), (by first | rfl | (simp; done) | (simp [*]; done)), H', ⟨Nat.le_refl _⟩, ⟨by first | exact Kd.R_nil _ _ _ _ _ | exact Kd.N_nil _ _ _ _ _ | exact Kd.V_nil _ _ _ _ _ | exact Kd.Q_nil _ _ _ _ _ | exact Kd.S_nil _ _ _ _ _⟩, ⟨by (with_reducible repeat (first | refine blk_drewN ?_ _ | refine blk_drew ?_ | refine blk_alloc ?_ _)); refine blk_put (cs := #[.string t145, .int .u64 t146, .int .u64 0]) ?_ 2 _ rfl; (with_reducible repeat (first | refine blk_drewN ?_ _ | refine blk_drew ?_ | refine blk_alloc ?_ _)); refine blk_put (cs := #[.string t145, .int .u64 0, .int .u64 0]) ?_ 1 _ rfl; (with_reducible repeat (first | refine blk_drewN ?_ _ | refine blk_drew ?_ | refine blk_alloc ?_ _)); refine blk_put (cs := #[.string (⟨#[]⟩ : ByteArray), .int .u64 0, .int .u64 0]) ?_ 0 _ rfl; (with_reducible repeat (first | refine blk_drewN ?_ _ | refine blk_drew ?_ | refine blk_alloc ?_ _)); exact BK149.out⟩, ⟨by repeat (first | (with_reducible first | exact HB.out | apply below_alloc | apply pw_below_drewN | apply below_drew1 | refine below_set ?_ GE149.out) | exact HB.out)⟩⟩
     case round =>
      clear H'
      try clear c1
      try clear p2
      try clear c5
      try clear p6
      try clear c7
      try clear c10
      try clear c10b0
      try clear c10b1
      try clear c11
      try clear c11b0
      try clear c11b1
      try clear c11b2
      try clear c13
      try clear c14
      try clear hcz15_0
      try clear hcz15_1
      try clear hcz15_2
      try clear hfz15_0
      try clear hfz15_1
      try clear hfz15_2
      obtain ⟨x10_1, x11_1, x12_1, rfl, rfl, HA, HK1, HO_10, BK149, HB⟩ := hrel
      cases gk with
      | zero => exact absurd HA.out (by simp [paymasterlaw14_NodePlaces.l0])
      | succ k1 =>
       have H := HA.out
       clear HA
       simp only [paymasterlaw14_NodePlaces.l0] at H
       by_cases c16 : x12_1 < (l1.length : Int)
       ·
        rw [if_pos c16] at H
        have c16b0 : decide (x12_1 < (l1.length : Int)) = true := decide_eq_true c16
        clear c16
        by_cases c17 : (Int.tmod x11_1 2) = 1
        ·
         rw [if_pos c17] at H
         have c17b0 : ((Int.tmod x11_1 2) == 1) = true := beq_iff_eq.mpr c17
         have c17b1 : ((Int.tmod x11_1 2) != 1) = false := bne_eq_false_iff_eq.mpr c17
         clear c17
         obtain ⟨ji18, hji18⟩ : ∃ j_ : Int, (wrap64 ((wrap64 (x11_1 - 1)) * x12_1)) = j_ := ⟨_, rfl⟩
         replace H : (if 0 ≤ (ji18) then (if (ji18) ≤ (wrap64 ((wrap64 ((wrap64 (x11_1 - 1)) + 1)) * x12_1)) then (if (wrap64 ((wrap64 ((wrap64 (x11_1 - 1)) + 1)) * x12_1)) ≤ (l1.length : Int) then ((node_Fold.f a0 ((l1.take ((wrap64 ((wrap64 ((wrap64 (x11_1 - 1)) + 1)) * x12_1)) : Int).toNat).drop ((ji18) : Int).toNat)).bind fun bt160 => (if bt160.2.2.2 = 0 then (if x10_1.length < 4398046511104 then (paymasterlaw14_NodePlaces.l0 k1 a0 l1 (Int.tmod (wrap64 (a2)) (l1.length : Int)) (x10_1 ++ [(⟨bt160.1, (⟨bt160.2.1, bt160.2.2.1⟩ : SU128)⟩ : SNode)]) (wrap64 (Int.tdiv x11_1 2)) (wrap64 (x12_1 * 2)) t145 t146 t147) else (none)) else (some false))) else (none)) else (none)) else (none)) = some r := by first | (rw [hji18] at H; exact H) | (simp only [hji18] at H ⊢; exact H)
         have hji18w : (IntKind.i64.wrap ((wrap64 (x11_1 - 1)) * x12_1)) = ji18 := (i64_w _).trans hji18
         by_cases c19 : 0 ≤ (ji18)
         ·
          rw [if_pos c19] at H
          have c19b0 := eq_true c19
          have c19b1 : decide (0 ≤ (ji18)) = true := decide_eq_true c19
          clear c19
          by_cases c20 : (ji18) ≤ (wrap64 ((wrap64 ((wrap64 (x11_1 - 1)) + 1)) * x12_1))
          ·
           rw [if_pos c20] at H
           have c20b0 := eq_true c20
           have c20b1 : decide ((ji18) ≤ (wrap64 ((wrap64 ((wrap64 (x11_1 - 1)) + 1)) * x12_1))) = true := decide_eq_true c20
           by_cases c21 : (wrap64 ((wrap64 ((wrap64 (x11_1 - 1)) + 1)) * x12_1)) ≤ (l1.length : Int)
           ·
            rw [if_pos c21] at H
            have c21b0 := eq_true c21
            have c21b1 : decide ((wrap64 ((wrap64 ((wrap64 (x11_1 - 1)) + 1)) * x12_1)) ≤ (l1.length : Int)) = true := decide_eq_true c21
            obtain ⟨y156, hy156⟩ : ∃ y_ : List (SNode), y_ = ((l1.take ((wrap64 ((wrap64 ((wrap64 (x11_1 - 1)) + 1)) * x12_1)) : Int).toNat).drop ((ji18) : Int).toNat) := ⟨_, rfl⟩
            replace H : ((node_Fold.f a0 y156).bind fun bt160 => (if bt160.2.2.2 = 0 then (if x10_1.length < 4398046511104 then (paymasterlaw14_NodePlaces.l0 k1 a0 l1 (Int.tmod (wrap64 (a2)) (l1.length : Int)) (x10_1 ++ [(⟨bt160.1, (⟨bt160.2.1, bt160.2.2.1⟩ : SU128)⟩ : SNode)]) (wrap64 (Int.tdiv x11_1 2)) (wrap64 (x12_1 * 2)) t145 t146 t147) else (none)) else (some false))) = some r := by first | (rw [hy156]; with_reducible exact H) | (have H2_ := (Option.bind_some _ _).symm.trans H; rw [hy156]; with_reducible exact H2_) | (have H2_ := (Option.bind_some _ _).symm.trans H; with_reducible exact H2_) | with_reducible exact H | (rw [hy156]; exact H) | exact H
            have Ny156 := aM' hy156
            clear hy156
            replace H := Option.bind_eq_some_iff.mp H
            obtain ⟨⟨t160, t161, t162, t163⟩, A220, H⟩ := H
            replace H : (if t163 = 0 then (if x10_1.length < 4398046511104 then (paymasterlaw14_NodePlaces.l0 k1 a0 l1 (Int.tmod (wrap64 (a2)) (l1.length : Int)) (x10_1 ++ [(⟨t160, (⟨t161, t162⟩ : SU128)⟩ : SNode)]) (wrap64 (Int.tdiv x11_1 2)) (wrap64 (x12_1 * 2)) t145 t146 t147) else (none)) else (some false)) = some r := H
            have A22 := aM' A220
            clear A220
            by_cases c23 : t163 = 0
            ·
             rw [if_pos c23] at H
             have c23b0 : (t163 == 0) = true := beq_iff_eq.mpr c23
             have c23b1 : (t163 != 0) = false := bne_eq_false_iff_eq.mpr c23
             clear c23
             by_cases c24 : x10_1.length < 4398046511104
             ·
              rw [if_pos c24] at H
              have LMc24 := aM' c24
              clear c24
              obtain ⟨y165, hy165⟩ : ∃ y_ : List (SNode), y_ = (x10_1 ++ [(⟨t160, (⟨t161, t162⟩ : SU128)⟩ : SNode)]) := ⟨_, rfl⟩
              replace H : (paymasterlaw14_NodePlaces.l0 k1 a0 l1 (Int.tmod (wrap64 (a2)) (l1.length : Int)) y165 (wrap64 (Int.tdiv x11_1 2)) (wrap64 (x12_1 * 2)) t145 t146 t147) = some r := by first | (rw [hy165]; with_reducible exact H) | (have H2_ := (Option.bind_some _ _).symm.trans H; rw [hy165]; with_reducible exact H2_) | (have H2_ := (Option.bind_some _ _).symm.trans H; with_reducible exact H2_) | with_reducible exact H | (rw [hy165]; exact H) | exact H
              have Ny165 := aM' hy165
              clear hy165
              have H' := aM' H
              clear H
              have q25 : ((wrap64 ((wrap64 ((wrap64 (x11_1 - 1)) + 1)) * x12_1)) : Int) ≤ ((l1.length : Int) : Int) := of_decide_eq_true (by first | (with_reducible assumption) | assumption)
              obtain ⟨i025, hi025, _, hsz25, _⟩ := info_parts infoNode
              have hroom25 : l1.length ≤ c1 := HC1.out
              have hC25 : Kd.C kNode _ A1 l1.length l1 := HR1.out
              have ql25 : ((ji18) : Int) ≤ ((wrap64 ((wrap64 ((wrap64 (x11_1 - 1)) + 1)) * x12_1)) : Int) := of_decide_eq_true (by first | (with_reducible assumption) | assumption)
              have q025 : (0 : Int) ≤ ((ji18) : Int) := of_decide_eq_true (by first | (with_reducible assumption) | assumption)
              have hcut25 := cut_mid (P := Tryd.prog) 22 28 .i64 .i64 Tryd.underlying22 hi025 3 hsz25 A1 l1.length c1 (ji18) (wrap64 ((wrap64 ((wrap64 (x11_1 - 1)) + 1)) * x12_1)) q025 ql25 q25 hroom25
              have hr25 := Kd.C_mid (lo := ((ji18) : Int).toNat) (hi := ((wrap64 ((wrap64 ((wrap64 (x11_1 - 1)) + 1)) * x12_1)) : Int).toNat) (c := c1) hC25 (by omega) (by omega) hroom25
              obtain ⟨A25, hA25⟩ : ∃ zA, zA = (if c1 = ((ji18) : Int).toNat then A1 else (A1 : Option Addr).map (·.add (((ji18) : Int).toNat * 3))) := ⟨_, rfl⟩
              obtain ⟨c25, hc25⟩ : ∃ zc, zc = c1 - ((ji18) : Int).toNat := ⟨_, rfl⟩
              have hy25 : y156.length = ((wrap64 ((wrap64 ((wrap64 (x11_1 - 1)) + 1)) * x12_1)) : Int).toNat - ((ji18) : Int).toNat := (by rw [Ny156.out, List.length_drop, List.length_take] <;> omega)
              rw [show ((l1).take ((wrap64 ((wrap64 ((wrap64 (x11_1 - 1)) + 1)) * x12_1)) : Int).toNat).drop ((ji18) : Int).toNat = y156 from Ny156.out.symm] at hr25
              replace hr25 : Kd.C kNode _ A25 y156.length y156 := (by rw [hA25]; exact hr25)
              rw [← hy25, ← hA25, ← hc25] at hcut25
              have HR159 := aM' hr25
              have HC159 := aM' (show y156.length ≤ c25 from by rw [hy25, hc25]; exact Nat.sub_le_sub_right (Nat.le_trans (by omega) hroom25) _)
              clear hr25 hC25 hroom25 hi025 hsz25 hc25
              have KY25 := aM' hy25
              have KA25 := aM' hA25
              clear hy25 hA25
              replace q25 := eq_true q25
              go_wp2_with (first | ((with_reducible refine gate_callee (f := 14) rfl ?_); refine goesL_ (some 58) rfl rfl Tryd.func14 (by kernel_rfl) rfl #[.int .i64 a0, .slice A25 y156.length c25] rfl (by (try simp only [List.map_toArray, List.map_cons, List.map_nil]); first | done | rfl | (simp only [List.length_drop, List.length_take]; rfl)) ?_; (with_reducible refine (node_Fold.calls a0 _ _ y156 t160 t161 t162 t163 _ ?side1 ?side2 ?side3 A22.out).mono ?_); (case side1 => exact Laid.below HLD.out (by repeat (first | (with_reducible first | exact HB.out | apply below_alloc | apply pw_below_drewN | apply below_drew1 | refine below_set ?_ GE149.out) | exact HB.out))); (case side2 => repeat (first | exact (Kd.C_below HR159.out HB.out) | (with_reducible refine Kd.C_alloc ?_ _) | (with_reducible refine Kd.C_drewN ?_ _) | (with_reducible refine Kd.C_drew ?_))); (case side3 => exact HC159.out); rintro e w26 ⟨rfl, hb⟩; refine ⟨_, rfl, ?_⟩; have n0_ := aM' (Kd.R_below (by (with_reducible repeat (first | apply Kd.R_alloc | apply Kd.R_drewN | apply Kd.R_drew)); exact HO_10.out) hb); have n1_ := aM' (blk_below (g := gb149) (o := .cells #[.string t145, .int .u64 t146, .int .u64 t147] 28 (0, 0)) (by (with_reducible repeat (first | refine blk_drewN ?_ _ | refine blk_drew ?_ | refine blk_alloc ?_ _)); exact BK149.out) hb); have n2_ := aM' (below_step (by repeat (first | (with_reducible first | exact HB.out | apply below_alloc | apply pw_below_drewN | apply below_drew1 | refine below_set ?_ GE149.out) | exact HB.out)) hb); clear HO_10; clear BK149; clear HB; have HO_10 := n0_; have BK149 := n1_; have HB := n2_; clear n0_ n1_ n2_; (try clear hb); (try clear hb2); (try clear hk); (try clear hi)) | ((with_reducible refine gate_dst (N := 14) rfl ?_); refine box_event ?hg (N := 14) ?hd (cs := #[.string (⟨#[]⟩ : ByteArray), .int .u64 0, .int .u64 0]) (t := 28) ?hr ?_; (case hd => rfl); (case hg => rfl); (case hr => first | (go_simp; done) | (go_simp; rfl)); intro gb164 hg w27 hbox hb; have n0_ := aM' (Kd.R_below (Kd.R_elderB (by (with_reducible repeat (first | apply Kd.R_alloc | apply Kd.R_drewN | apply Kd.R_drew)); exact HO_10.out) gb164 (Nat.le_of_eq hg.symm)) hb); have n1_ := aM' (blk_below (g := gb149) (o := .cells #[.string t145, .int .u64 t146, .int .u64 t147] 28 (0, 0)) (by (with_reducible repeat (first | refine blk_drewN ?_ _ | refine blk_drew ?_ | refine blk_alloc ?_ _)); exact BK149.out) hb); have n2_ := aM' (below_step (by repeat (first | (with_reducible first | exact HB.out | apply below_alloc | apply pw_below_drewN | apply below_drew1 | refine below_set ?_ GE149.out) | exact HB.out)) hb); have n3_ := aM' (hbox); have n4_ := aM' ((by rw [hg]; exact (below_size (by repeat (first | (with_reducible first | exact HB.out | apply below_alloc | apply pw_below_drewN | apply below_drew1 | refine below_set ?_ GE149.out) | exact HB.out))) : w.heap.size ≤ gb164)); have n5_ := aM' ((by rw [hg]; exact (below_size (by repeat (first | (with_reducible first | exact HB.out | apply below_alloc | apply pw_below_drewN | apply below_drew1 | refine below_set ?_ GE149.out) | exact HB.out))) : w.heap.size ≤ gb164)); have n6_ := aM' ((by rw [hg]; exact Nat.ne_of_lt (blk_lt (g := gb149) (o := .cells #[.string t145, .int .u64 t146, .int .u64 t147] 28 (0, 0)) (by (with_reducible repeat (first | refine blk_drewN ?_ _ | refine blk_drew ?_ | refine blk_alloc ?_ _)); exact BK149.out)) : gb149 ≠ gb164)); have n7_ := aM' ((by rw [hg]; exact Nat.ne_of_gt (blk_lt (g := gb149) (o := .cells #[.string t145, .int .u64 t146, .int .u64 t147] 28 (0, 0)) (by (with_reducible repeat (first | refine blk_drewN ?_ _ | refine blk_drew ?_ | refine blk_alloc ?_ _)); exact BK149.out)) : gb164 ≠ gb149)); clear HO_10; clear BK149; clear HB; have HO_10 := n0_; have BK149 := n1_; have HB := n2_; have BK164 := n3_; have GW164 := n4_; have GE164 := n5_; have NB149_164 := n6_; have NB164_149 := n7_; clear n0_ n1_ n2_ n3_ n4_ n5_ n6_ n7_; clear hb hbox hg; have hnb28 := NB164_149.out; have hnc28 := NB149_164.out; have hcz29_0 : w27.cell? ⟨gb164, 0, none⟩ = some (.string (⟨#[]⟩ : ByteArray)) := (blk_cell BK164.out 0).trans rfl; have hcz29_1 : w27.cell? ⟨gb164, 1, none⟩ = some (.int .u64 0) := (blk_cell BK164.out 1).trans rfl; have hcz29_2 : w27.cell? ⟨gb164, 2, none⟩ = some (.int .u64 0) := (blk_cell BK164.out 2).trans rfl; have hfz29_0 := blk_frozen BK164.out 0; have hfz29_1 := blk_frozen BK164.out 1; have hfz29_2 := blk_frozen BK164.out 2) | ((with_reducible refine gate_builtin (b := .append) (xs := #[.tmp 63, .tmp 65]) rfl ?_); at_builtin; refine Kd.R_append kNode (w0 := w) w.heap.size rfl (.tmp 63) (.tmp 65) 22 28 (.agg #[(.string ⟨#[]⟩), (.int .u64 0), (.int .u64 0)]) 32 rfl Tryd.underlying22 infoNode rfl (by decide) (by omega) u10 x10_1 (⟨t160, (⟨t161, t162⟩ : SU128)⟩ : SNode) [.string t160, .int .u64 t161, .int .u64 t162] (fun k_ => k_ ≠ gb149 ∧ k_ ≠ gb164) (fun _ => False) rfl (by first | (go_simp; done) | (go_simp; rfl)) ?aP (fun _ hk => hk.elim) ?aF ?aO ?aB ?aS ?aL ?_; (case aP => exact kNode_mkM _ _ _ (⟨t160, (⟨t161, t162⟩ : SU128)⟩ : SNode)); (case aB => exact (by repeat (first | (with_reducible first | exact HB.out | apply below_alloc | apply pw_below_drewN | apply below_drew1 | refine below_set ?_ GE149.out | refine below_set ?_ GE164.out) | exact HB.out))); (case aF => exact (fun k_ hk => ⟨Kd.freshB (g := gb149) (o := .cells #[.string t145, .int .u64 t146, .int .u64 t147] 28 (0, 0)) (by (with_reducible repeat (first | refine blk_drewN ?_ _ | refine blk_drew ?_ | refine blk_alloc ?_ _)); refine blk_far ?_ NB149_164.out _; (with_reducible repeat (first | refine blk_drewN ?_ _ | refine blk_drew ?_ | refine blk_alloc ?_ _)); refine blk_far ?_ NB149_164.out _; (with_reducible repeat (first | refine blk_drewN ?_ _ | refine blk_drew ?_ | refine blk_alloc ?_ _)); refine blk_far ?_ NB149_164.out _; (with_reducible repeat (first | refine blk_drewN ?_ _ | refine blk_drew ?_ | refine blk_alloc ?_ _)); exact BK149.out) k_ hk, Kd.freshB (g := gb164) (o := .cells #[.string t160, .int .u64 t161, .int .u64 t162] 28 (0, 0)) (by (with_reducible repeat (first | refine blk_drewN ?_ _ | refine blk_drew ?_ | refine blk_alloc ?_ _)); refine blk_put (cs := #[.string t160, .int .u64 t161, .int .u64 0]) ?_ 2 _ rfl; (with_reducible repeat (first | refine blk_drewN ?_ _ | refine blk_drew ?_ | refine blk_alloc ?_ _)); refine blk_put (cs := #[.string t160, .int .u64 0, .int .u64 0]) ?_ 1 _ rfl; (with_reducible repeat (first | refine blk_drewN ?_ _ | refine blk_drew ?_ | refine blk_alloc ?_ _)); refine blk_put (cs := #[.string (⟨#[]⟩ : ByteArray), .int .u64 0, .int .u64 0]) ?_ 0 _ rfl; (with_reducible repeat (first | refine blk_drewN ?_ _ | refine blk_drew ?_ | refine blk_alloc ?_ _)); exact BK164.out) k_ hk⟩)); (case aO => exact (by (with_reducible repeat (first | apply Kd.R_alloc | apply Kd.R_drewN | apply Kd.R_drew)); exact Kd.R_mono (Kd.R_far (p := ⟨gb164, 2, none⟩) (Kd.R_far (p := ⟨gb164, 1, none⟩) (Kd.R_far (p := ⟨gb164, 0, none⟩) (Kd.R_mono HO_10.out (fun k_ hk => (⟨hk, hk.2⟩ : _ ∧ k_ ≠ gb164))) (fun _ hk => hk.2) (.string t160)) (fun _ hk => hk.2) (.int .u64 t161)) (fun _ hk => hk.2) (.int .u64 t162)) (fun _ hk => ⟨hk.1.1, hk.1.2⟩))); (case aS => exact (below_size (by repeat (first | (with_reducible first | exact HB.out | apply below_alloc | apply pw_below_drewN | apply below_drew1 | refine below_set ?_ GE149.out | refine below_set ?_ GE164.out) | exact HB.out)))); (case aL => have := LMc24.out; omega); intro v166 w30 ho hb hg hat; rw [← Ny165.out] at ho; have n0_ := aM' (blk_grown (g := gb149) (o := .cells #[.string t145, .int .u64 t146, .int .u64 t147] 28 (0, 0)) (by (with_reducible repeat (first | refine blk_drewN ?_ _ | refine blk_drew ?_ | refine blk_alloc ?_ _)); refine blk_far ?_ NB149_164.out _; (with_reducible repeat (first | refine blk_drewN ?_ _ | refine blk_drew ?_ | refine blk_alloc ?_ _)); refine blk_far ?_ NB149_164.out _; (with_reducible repeat (first | refine blk_drewN ?_ _ | refine blk_drew ?_ | refine blk_alloc ?_ _)); refine blk_far ?_ NB149_164.out _; (with_reducible repeat (first | refine blk_drewN ?_ _ | refine blk_drew ?_ | refine blk_alloc ?_ _)); exact BK149.out) hg (Kd.R_away HO_10.out (fun _ hk => hk.1))); have n1_ := aM' (blk_grown (g := gb164) (o := .cells #[.string t160, .int .u64 t161, .int .u64 t162] 28 (0, 0)) (by (with_reducible repeat (first | refine blk_drewN ?_ _ | refine blk_drew ?_ | refine blk_alloc ?_ _)); refine blk_put (cs := #[.string t160, .int .u64 t161, .int .u64 0]) ?_ 2 _ rfl; (with_reducible repeat (first | refine blk_drewN ?_ _ | refine blk_drew ?_ | refine blk_alloc ?_ _)); refine blk_put (cs := #[.string t160, .int .u64 0, .int .u64 0]) ?_ 1 _ rfl; (with_reducible repeat (first | refine blk_drewN ?_ _ | refine blk_drew ?_ | refine blk_alloc ?_ _)); refine blk_put (cs := #[.string (⟨#[]⟩ : ByteArray), .int .u64 0, .int .u64 0]) ?_ 0 _ rfl; (with_reducible repeat (first | refine blk_drewN ?_ _ | refine blk_drew ?_ | refine blk_alloc ?_ _)); exact BK164.out) hg (Kd.R_away HO_10.out (fun _ hk => hk.2))); have n2_ := aM' (hb); have n3_ := aM' (ho); clear BK149; clear BK164; clear HB; clear HO_10; have BK149 := n0_; have BK164 := n1_; have HB := n2_; have HO167 := n3_; clear n0_ n1_ n2_ n3_; clear ho hb hg hat))
              go_roundg k1
              case measure => have := HK1.out; omega
              case rel => exact ⟨(y165), (wrap64 (Int.tdiv x11_1 2)), (wrap64 (x12_1 * 2)), (by first | rfl | (simp; done) | (simp [*]; done)), (by first | rfl | (simp; done) | (simp [*]; done)), H', ⟨by have := HK1.out; omega⟩, ⟨by (with_reducible repeat (first | apply Kd.R_alloc | apply Kd.R_drewN | apply Kd.R_drew)); exact Kd.R_mono HO167.out (fun _ hk => hk.1)⟩, ⟨by (with_reducible repeat (first | refine blk_drewN ?_ _ | refine blk_drew ?_ | refine blk_alloc ?_ _)); exact BK149.out⟩, ⟨by repeat (first | (with_reducible first | exact HB.out | apply below_alloc | apply pw_below_drewN | apply below_drew1 | refine below_set ?_ GE149.out | refine below_set ?_ GE164.out) | exact HB.out)⟩⟩
             ·
              rw [if_neg c24] at H
              exact absurd H (by simp)
            ·
             rw [if_neg c23] at H
             have c23b0 : (t163 == 0) = false := beq_eq_false_iff_ne.mpr c23
             have c23b1 : (t163 != 0) = true := bne_iff_ne.mpr c23
             obtain rfl := Option.some.inj H
             have q31 : ((wrap64 ((wrap64 ((wrap64 (x11_1 - 1)) + 1)) * x12_1)) : Int) ≤ ((l1.length : Int) : Int) := of_decide_eq_true (by first | (with_reducible assumption) | assumption)
             obtain ⟨i031, hi031, _, hsz31, _⟩ := info_parts infoNode
             have hroom31 : l1.length ≤ c1 := HC1.out
             have hC31 : Kd.C kNode _ A1 l1.length l1 := HR1.out
             have ql31 : ((ji18) : Int) ≤ ((wrap64 ((wrap64 ((wrap64 (x11_1 - 1)) + 1)) * x12_1)) : Int) := of_decide_eq_true (by first | (with_reducible assumption) | assumption)
             have q031 : (0 : Int) ≤ ((ji18) : Int) := of_decide_eq_true (by first | (with_reducible assumption) | assumption)
             have hcut31 := cut_mid (P := Tryd.prog) 22 28 .i64 .i64 Tryd.underlying22 hi031 3 hsz31 A1 l1.length c1 (ji18) (wrap64 ((wrap64 ((wrap64 (x11_1 - 1)) + 1)) * x12_1)) q031 ql31 q31 hroom31
             have hr31 := Kd.C_mid (lo := ((ji18) : Int).toNat) (hi := ((wrap64 ((wrap64 ((wrap64 (x11_1 - 1)) + 1)) * x12_1)) : Int).toNat) (c := c1) hC31 (by omega) (by omega) hroom31
             obtain ⟨A31, hA31⟩ : ∃ zA, zA = (if c1 = ((ji18) : Int).toNat then A1 else (A1 : Option Addr).map (·.add (((ji18) : Int).toNat * 3))) := ⟨_, rfl⟩
             obtain ⟨c31, hc31⟩ : ∃ zc, zc = c1 - ((ji18) : Int).toNat := ⟨_, rfl⟩
             have hy31 : y156.length = ((wrap64 ((wrap64 ((wrap64 (x11_1 - 1)) + 1)) * x12_1)) : Int).toNat - ((ji18) : Int).toNat := (by rw [Ny156.out, List.length_drop, List.length_take] <;> omega)
             rw [show ((l1).take ((wrap64 ((wrap64 ((wrap64 (x11_1 - 1)) + 1)) * x12_1)) : Int).toNat).drop ((ji18) : Int).toNat = y156 from Ny156.out.symm] at hr31
             replace hr31 : Kd.C kNode _ A31 y156.length y156 := (by rw [hA31]; exact hr31)
             rw [← hy31, ← hA31, ← hc31] at hcut31
             have HR159 := aM' hr31
             have HC159 := aM' (show y156.length ≤ c31 from by rw [hy31, hc31]; exact Nat.sub_le_sub_right (Nat.le_trans (by omega) hroom31) _)
             clear hr31 hC31 hroom31 hi031 hsz31 hc31
             have KY31 := aM' hy31
             have KA31 := aM' hA31
             clear hy31 hA31
             replace q31 := eq_true q31
             go_wp2_with (first | ((with_reducible refine gate_callee (f := 14) rfl ?_); refine goesL_ (some 58) rfl rfl Tryd.func14 (by kernel_rfl) rfl #[.int .i64 a0, .slice A31 y156.length c31] rfl (by (try simp only [List.map_toArray, List.map_cons, List.map_nil]); first | done | rfl | (simp only [List.length_drop, List.length_take]; rfl)) ?_; (with_reducible refine (node_Fold.calls a0 _ _ y156 t160 t161 t162 t163 _ ?side1 ?side2 ?side3 A22.out).mono ?_); (case side1 => exact Laid.below HLD.out (by repeat (first | (with_reducible first | exact HB.out | apply below_alloc | apply pw_below_drewN | apply below_drew1 | refine below_set ?_ GE149.out) | exact HB.out))); (case side2 => repeat (first | exact (Kd.C_below HR159.out HB.out) | (with_reducible refine Kd.C_alloc ?_ _) | (with_reducible refine Kd.C_drewN ?_ _) | (with_reducible refine Kd.C_drew ?_))); (case side3 => exact HC159.out); rintro e w32 ⟨rfl, hb⟩; refine ⟨_, rfl, ?_⟩; have n0_ := aM' (Kd.R_below (by (with_reducible repeat (first | apply Kd.R_alloc | apply Kd.R_drewN | apply Kd.R_drew)); exact HO_10.out) hb); have n1_ := aM' (blk_below (g := gb149) (o := .cells #[.string t145, .int .u64 t146, .int .u64 t147] 28 (0, 0)) (by (with_reducible repeat (first | refine blk_drewN ?_ _ | refine blk_drew ?_ | refine blk_alloc ?_ _)); exact BK149.out) hb); have n2_ := aM' (below_step (by repeat (first | (with_reducible first | exact HB.out | apply below_alloc | apply pw_below_drewN | apply below_drew1 | refine below_set ?_ GE149.out) | exact HB.out)) hb); clear HO_10; clear BK149; clear HB; have HO_10 := n0_; have BK149 := n1_; have HB := n2_; clear n0_ n1_ n2_; (try clear hb); (try clear hb2); (try clear hk); (try clear hi)) | ((with_reducible refine gate_dst (N := 14) rfl ?_); refine box_event ?hg (N := 14) ?hd (cs := #[.string (⟨#[]⟩ : ByteArray), .int .u64 0, .int .u64 0]) (t := 28) ?hr ?_; (case hd => rfl); (case hg => rfl); (case hr => first | (go_simp; done) | (go_simp; rfl)); intro gb164 hg w33 hbox hb; have n0_ := aM' (Kd.R_below (Kd.R_elderB (by (with_reducible repeat (first | apply Kd.R_alloc | apply Kd.R_drewN | apply Kd.R_drew)); exact HO_10.out) gb164 (Nat.le_of_eq hg.symm)) hb); have n1_ := aM' (blk_below (g := gb149) (o := .cells #[.string t145, .int .u64 t146, .int .u64 t147] 28 (0, 0)) (by (with_reducible repeat (first | refine blk_drewN ?_ _ | refine blk_drew ?_ | refine blk_alloc ?_ _)); exact BK149.out) hb); have n2_ := aM' (below_step (by repeat (first | (with_reducible first | exact HB.out | apply below_alloc | apply pw_below_drewN | apply below_drew1 | refine below_set ?_ GE149.out) | exact HB.out)) hb); have n3_ := aM' (hbox); have n4_ := aM' ((by rw [hg]; exact (below_size (by repeat (first | (with_reducible first | exact HB.out | apply below_alloc | apply pw_below_drewN | apply below_drew1 | refine below_set ?_ GE149.out) | exact HB.out))) : w.heap.size ≤ gb164)); have n5_ := aM' ((by rw [hg]; exact (below_size (by repeat (first | (with_reducible first | exact HB.out | apply below_alloc | apply pw_below_drewN | apply below_drew1 | refine below_set ?_ GE149.out) | exact HB.out))) : w.heap.size ≤ gb164)); have n6_ := aM' ((by rw [hg]; exact Nat.ne_of_lt (blk_lt (g := gb149) (o := .cells #[.string t145, .int .u64 t146, .int .u64 t147] 28 (0, 0)) (by (with_reducible repeat (first | refine blk_drewN ?_ _ | refine blk_drew ?_ | refine blk_alloc ?_ _)); exact BK149.out)) : gb149 ≠ gb164)); have n7_ := aM' ((by rw [hg]; exact Nat.ne_of_gt (blk_lt (g := gb149) (o := .cells #[.string t145, .int .u64 t146, .int .u64 t147] 28 (0, 0)) (by (with_reducible repeat (first | refine blk_drewN ?_ _ | refine blk_drew ?_ | refine blk_alloc ?_ _)); exact BK149.out)) : gb164 ≠ gb149)); clear HO_10; clear BK149; clear HB; have HO_10 := n0_; have BK149 := n1_; have HB := n2_; have BK164 := n3_; have GW164 := n4_; have GE164 := n5_; have NB149_164 := n6_; have NB164_149 := n7_; clear n0_ n1_ n2_ n3_ n4_ n5_ n6_ n7_; clear hb hbox hg; have hnb34 := NB164_149.out; have hnc34 := NB149_164.out; have hcz35_0 : w33.cell? ⟨gb164, 0, none⟩ = some (.string (⟨#[]⟩ : ByteArray)) := (blk_cell BK164.out 0).trans rfl; have hcz35_1 : w33.cell? ⟨gb164, 1, none⟩ = some (.int .u64 0) := (blk_cell BK164.out 1).trans rfl; have hcz35_2 : w33.cell? ⟨gb164, 2, none⟩ = some (.int .u64 0) := (blk_cell BK164.out 2).trans rfl; have hfz35_0 := blk_frozen BK164.out 0; have hfz35_1 := blk_frozen BK164.out 1; have hfz35_2 := blk_frozen BK164.out 2))
             go_ret
             exact ⟨by first | rfl | (simp [errW_none, errW_some] <;> rfl) | (simp only [← hji18]; first | rfl | (simp [errW_none, errW_some] <;> rfl)) | (simp [*, errW_none, errW_some] <;> rfl), by repeat (first | (with_reducible first | exact HB.out | apply below_alloc | apply pw_below_drewN | apply below_drew1 | refine below_set ?_ GE149.out | refine below_set ?_ GE164.out) | exact HB.out)⟩
           ·
            rw [if_neg c21] at H
            exact absurd H (by simp)
          ·
           rw [if_neg c20] at H
           exact absurd H (by simp)
         ·
          rw [if_neg c19] at H
          exact absurd H (by simp)
        ·
         rw [if_neg c17] at H
         have c17b0 : ((Int.tmod x11_1 2) == 1) = false := beq_eq_false_iff_ne.mpr c17
         have c17b1 : ((Int.tmod x11_1 2) != 1) = true := bne_iff_ne.mpr c17
         obtain ⟨ji36, hji36⟩ : ∃ j_ : Int, (wrap64 ((wrap64 (x11_1 + 1)) * x12_1)) = j_ := ⟨_, rfl⟩
         replace H : (if 0 ≤ (ji36) then (if (ji36) ≤ (wrap64 ((wrap64 ((wrap64 (x11_1 + 1)) + 1)) * x12_1)) then (if (wrap64 ((wrap64 ((wrap64 (x11_1 + 1)) + 1)) * x12_1)) ≤ (l1.length : Int) then ((node_Fold.f a0 ((l1.take ((wrap64 ((wrap64 ((wrap64 (x11_1 + 1)) + 1)) * x12_1)) : Int).toNat).drop ((ji36) : Int).toNat)).bind fun bt172 => (if bt172.2.2.2 = 0 then (if x10_1.length < 4398046511104 then (paymasterlaw14_NodePlaces.l0 k1 a0 l1 (Int.tmod (wrap64 (a2)) (l1.length : Int)) (x10_1 ++ [(⟨bt172.1, (⟨bt172.2.1, bt172.2.2.1⟩ : SU128)⟩ : SNode)]) (wrap64 (Int.tdiv x11_1 2)) (wrap64 (x12_1 * 2)) t145 t146 t147) else (none)) else (some false))) else (none)) else (none)) else (none)) = some r := by first | (rw [hji36] at H; exact H) | (simp only [hji36] at H ⊢; exact H)
         have hji36w : (IntKind.i64.wrap ((wrap64 (x11_1 + 1)) * x12_1)) = ji36 := (i64_w _).trans hji36
         by_cases c37 : 0 ≤ (ji36)
         ·
          rw [if_pos c37] at H
          have c37b0 := eq_true c37
          have c37b1 : decide (0 ≤ (ji36)) = true := decide_eq_true c37
          clear c37
          by_cases c38 : (ji36) ≤ (wrap64 ((wrap64 ((wrap64 (x11_1 + 1)) + 1)) * x12_1))
          ·
           rw [if_pos c38] at H
           have c38b0 := eq_true c38
           have c38b1 : decide ((ji36) ≤ (wrap64 ((wrap64 ((wrap64 (x11_1 + 1)) + 1)) * x12_1))) = true := decide_eq_true c38
           by_cases c39 : (wrap64 ((wrap64 ((wrap64 (x11_1 + 1)) + 1)) * x12_1)) ≤ (l1.length : Int)
           ·
            rw [if_pos c39] at H
            have c39b0 := eq_true c39
            have c39b1 : decide ((wrap64 ((wrap64 ((wrap64 (x11_1 + 1)) + 1)) * x12_1)) ≤ (l1.length : Int)) = true := decide_eq_true c39
            obtain ⟨y168, hy168⟩ : ∃ y_ : List (SNode), y_ = ((l1.take ((wrap64 ((wrap64 ((wrap64 (x11_1 + 1)) + 1)) * x12_1)) : Int).toNat).drop ((ji36) : Int).toNat) := ⟨_, rfl⟩
            replace H : ((node_Fold.f a0 y168).bind fun bt172 => (if bt172.2.2.2 = 0 then (if x10_1.length < 4398046511104 then (paymasterlaw14_NodePlaces.l0 k1 a0 l1 (Int.tmod (wrap64 (a2)) (l1.length : Int)) (x10_1 ++ [(⟨bt172.1, (⟨bt172.2.1, bt172.2.2.1⟩ : SU128)⟩ : SNode)]) (wrap64 (Int.tdiv x11_1 2)) (wrap64 (x12_1 * 2)) t145 t146 t147) else (none)) else (some false))) = some r := by first | (rw [hy168]; with_reducible exact H) | (have H2_ := (Option.bind_some _ _).symm.trans H; rw [hy168]; with_reducible exact H2_) | (have H2_ := (Option.bind_some _ _).symm.trans H; with_reducible exact H2_) | with_reducible exact H | (rw [hy168]; exact H) | exact H
            have Ny168 := aM' hy168
            clear hy168
            replace H := Option.bind_eq_some_iff.mp H
            obtain ⟨⟨t172, t173, t174, t175⟩, A400, H⟩ := H
            replace H : (if t175 = 0 then (if x10_1.length < 4398046511104 then (paymasterlaw14_NodePlaces.l0 k1 a0 l1 (Int.tmod (wrap64 (a2)) (l1.length : Int)) (x10_1 ++ [(⟨t172, (⟨t173, t174⟩ : SU128)⟩ : SNode)]) (wrap64 (Int.tdiv x11_1 2)) (wrap64 (x12_1 * 2)) t145 t146 t147) else (none)) else (some false)) = some r := H
            have A40 := aM' A400
            clear A400
            by_cases c41 : t175 = 0
            ·
             rw [if_pos c41] at H
             have c41b0 : (t175 == 0) = true := beq_iff_eq.mpr c41
             have c41b1 : (t175 != 0) = false := bne_eq_false_iff_eq.mpr c41
             clear c41
             by_cases c42 : x10_1.length < 4398046511104
             ·
              rw [if_pos c42] at H
              have LMc42 := aM' c42
              clear c42
              obtain ⟨y177, hy177⟩ : ∃ y_ : List (SNode), y_ = (x10_1 ++ [(⟨t172, (⟨t173, t174⟩ : SU128)⟩ : SNode)]) := ⟨_, rfl⟩
              replace H : (paymasterlaw14_NodePlaces.l0 k1 a0 l1 (Int.tmod (wrap64 (a2)) (l1.length : Int)) y177 (wrap64 (Int.tdiv x11_1 2)) (wrap64 (x12_1 * 2)) t145 t146 t147) = some r := by first | (rw [hy177]; with_reducible exact H) | (have H2_ := (Option.bind_some _ _).symm.trans H; rw [hy177]; with_reducible exact H2_) | (have H2_ := (Option.bind_some _ _).symm.trans H; with_reducible exact H2_) | with_reducible exact H | (rw [hy177]; exact H) | exact H
              have Ny177 := aM' hy177
              clear hy177
              have H' := aM' H
              clear H
              have q43 : ((wrap64 ((wrap64 ((wrap64 (x11_1 + 1)) + 1)) * x12_1)) : Int) ≤ ((l1.length : Int) : Int) := of_decide_eq_true (by first | (with_reducible assumption) | assumption)
              obtain ⟨i043, hi043, _, hsz43, _⟩ := info_parts infoNode
              have hroom43 : l1.length ≤ c1 := HC1.out
              have hC43 : Kd.C kNode _ A1 l1.length l1 := HR1.out
              have ql43 : ((ji36) : Int) ≤ ((wrap64 ((wrap64 ((wrap64 (x11_1 + 1)) + 1)) * x12_1)) : Int) := of_decide_eq_true (by first | (with_reducible assumption) | assumption)
              have q043 : (0 : Int) ≤ ((ji36) : Int) := of_decide_eq_true (by first | (with_reducible assumption) | assumption)
              have hcut43 := cut_mid (P := Tryd.prog) 22 28 .i64 .i64 Tryd.underlying22 hi043 3 hsz43 A1 l1.length c1 (ji36) (wrap64 ((wrap64 ((wrap64 (x11_1 + 1)) + 1)) * x12_1)) q043 ql43 q43 hroom43
              have hr43 := Kd.C_mid (lo := ((ji36) : Int).toNat) (hi := ((wrap64 ((wrap64 ((wrap64 (x11_1 + 1)) + 1)) * x12_1)) : Int).toNat) (c := c1) hC43 (by omega) (by omega) hroom43
              obtain ⟨A43, hA43⟩ : ∃ zA, zA = (if c1 = ((ji36) : Int).toNat then A1 else (A1 : Option Addr).map (·.add (((ji36) : Int).toNat * 3))) := ⟨_, rfl⟩
              obtain ⟨c43, hc43⟩ : ∃ zc, zc = c1 - ((ji36) : Int).toNat := ⟨_, rfl⟩
              have hy43 : y168.length = ((wrap64 ((wrap64 ((wrap64 (x11_1 + 1)) + 1)) * x12_1)) : Int).toNat - ((ji36) : Int).toNat := (by rw [Ny168.out, List.length_drop, List.length_take] <;> omega)
              rw [show ((l1).take ((wrap64 ((wrap64 ((wrap64 (x11_1 + 1)) + 1)) * x12_1)) : Int).toNat).drop ((ji36) : Int).toNat = y168 from Ny168.out.symm] at hr43
              replace hr43 : Kd.C kNode _ A43 y168.length y168 := (by rw [hA43]; exact hr43)
              rw [← hy43, ← hA43, ← hc43] at hcut43
              have HR171 := aM' hr43
              have HC171 := aM' (show y168.length ≤ c43 from by rw [hy43, hc43]; exact Nat.sub_le_sub_right (Nat.le_trans (by omega) hroom43) _)
              clear hr43 hC43 hroom43 hi043 hsz43 hc43
              have KY43 := aM' hy43
              have KA43 := aM' hA43
              clear hy43 hA43
              replace q43 := eq_true q43
              go_wp2_with (first | ((with_reducible refine gate_callee (f := 14) rfl ?_); refine goesL_ (some 58) rfl rfl Tryd.func14 (by kernel_rfl) rfl #[.int .i64 a0, .slice A43 y168.length c43] rfl (by (try simp only [List.map_toArray, List.map_cons, List.map_nil]); first | done | rfl | (simp only [List.length_drop, List.length_take]; rfl)) ?_; (with_reducible refine (node_Fold.calls a0 _ _ y168 t172 t173 t174 t175 _ ?side1 ?side2 ?side3 A40.out).mono ?_); (case side1 => exact Laid.below HLD.out (by repeat (first | (with_reducible first | exact HB.out | apply below_alloc | apply pw_below_drewN | apply below_drew1 | refine below_set ?_ GE149.out) | exact HB.out))); (case side2 => repeat (first | exact (Kd.C_below HR171.out HB.out) | (with_reducible refine Kd.C_alloc ?_ _) | (with_reducible refine Kd.C_drewN ?_ _) | (with_reducible refine Kd.C_drew ?_))); (case side3 => exact HC171.out); rintro e w44 ⟨rfl, hb⟩; refine ⟨_, rfl, ?_⟩; have n0_ := aM' (Kd.R_below (by (with_reducible repeat (first | apply Kd.R_alloc | apply Kd.R_drewN | apply Kd.R_drew)); exact HO_10.out) hb); have n1_ := aM' (blk_below (g := gb149) (o := .cells #[.string t145, .int .u64 t146, .int .u64 t147] 28 (0, 0)) (by (with_reducible repeat (first | refine blk_drewN ?_ _ | refine blk_drew ?_ | refine blk_alloc ?_ _)); exact BK149.out) hb); have n2_ := aM' (below_step (by repeat (first | (with_reducible first | exact HB.out | apply below_alloc | apply pw_below_drewN | apply below_drew1 | refine below_set ?_ GE149.out) | exact HB.out)) hb); clear HO_10; clear BK149; clear HB; have HO_10 := n0_; have BK149 := n1_; have HB := n2_; clear n0_ n1_ n2_; (try clear hb); (try clear hb2); (try clear hk); (try clear hi)) | ((with_reducible refine gate_dst (N := 14) rfl ?_); refine box_event ?hg (N := 14) ?hd (cs := #[.string (⟨#[]⟩ : ByteArray), .int .u64 0, .int .u64 0]) (t := 28) ?hr ?_; (case hd => rfl); (case hg => rfl); (case hr => first | (go_simp; done) | (go_simp; rfl)); intro gb176 hg w45 hbox hb; have n0_ := aM' (Kd.R_below (Kd.R_elderB (by (with_reducible repeat (first | apply Kd.R_alloc | apply Kd.R_drewN | apply Kd.R_drew)); exact HO_10.out) gb176 (Nat.le_of_eq hg.symm)) hb); have n1_ := aM' (blk_below (g := gb149) (o := .cells #[.string t145, .int .u64 t146, .int .u64 t147] 28 (0, 0)) (by (with_reducible repeat (first | refine blk_drewN ?_ _ | refine blk_drew ?_ | refine blk_alloc ?_ _)); exact BK149.out) hb); have n2_ := aM' (below_step (by repeat (first | (with_reducible first | exact HB.out | apply below_alloc | apply pw_below_drewN | apply below_drew1 | refine below_set ?_ GE149.out) | exact HB.out)) hb); have n3_ := aM' (hbox); have n4_ := aM' ((by rw [hg]; exact (below_size (by repeat (first | (with_reducible first | exact HB.out | apply below_alloc | apply pw_below_drewN | apply below_drew1 | refine below_set ?_ GE149.out) | exact HB.out))) : w.heap.size ≤ gb176)); have n5_ := aM' ((by rw [hg]; exact (below_size (by repeat (first | (with_reducible first | exact HB.out | apply below_alloc | apply pw_below_drewN | apply below_drew1 | refine below_set ?_ GE149.out) | exact HB.out))) : w.heap.size ≤ gb176)); have n6_ := aM' ((by rw [hg]; exact Nat.ne_of_lt (blk_lt (g := gb149) (o := .cells #[.string t145, .int .u64 t146, .int .u64 t147] 28 (0, 0)) (by (with_reducible repeat (first | refine blk_drewN ?_ _ | refine blk_drew ?_ | refine blk_alloc ?_ _)); exact BK149.out)) : gb149 ≠ gb176)); have n7_ := aM' ((by rw [hg]; exact Nat.ne_of_gt (blk_lt (g := gb149) (o := .cells #[.string t145, .int .u64 t146, .int .u64 t147] 28 (0, 0)) (by (with_reducible repeat (first | refine blk_drewN ?_ _ | refine blk_drew ?_ | refine blk_alloc ?_ _)); exact BK149.out)) : gb176 ≠ gb149)); clear HO_10; clear BK149; clear HB; have HO_10 := n0_; have BK149 := n1_; have HB := n2_; have BK176 := n3_; have GW176 := n4_; have GE176 := n5_; have NB149_176 := n6_; have NB176_149 := n7_; clear n0_ n1_ n2_ n3_ n4_ n5_ n6_ n7_; clear hb hbox hg; have hnb46 := NB176_149.out; have hnc46 := NB149_176.out; have hcz47_0 : w45.cell? ⟨gb176, 0, none⟩ = some (.string (⟨#[]⟩ : ByteArray)) := (blk_cell BK176.out 0).trans rfl; have hcz47_1 : w45.cell? ⟨gb176, 1, none⟩ = some (.int .u64 0) := (blk_cell BK176.out 1).trans rfl; have hcz47_2 : w45.cell? ⟨gb176, 2, none⟩ = some (.int .u64 0) := (blk_cell BK176.out 2).trans rfl; have hfz47_0 := blk_frozen BK176.out 0; have hfz47_1 := blk_frozen BK176.out 1; have hfz47_2 := blk_frozen BK176.out 2) | ((with_reducible refine gate_builtin (b := .append) (xs := #[.tmp 63, .tmp 65]) rfl ?_); at_builtin; refine Kd.R_append kNode (w0 := w) w.heap.size rfl (.tmp 63) (.tmp 65) 22 28 (.agg #[(.string ⟨#[]⟩), (.int .u64 0), (.int .u64 0)]) 32 rfl Tryd.underlying22 infoNode rfl (by decide) (by omega) u10 x10_1 (⟨t172, (⟨t173, t174⟩ : SU128)⟩ : SNode) [.string t172, .int .u64 t173, .int .u64 t174] (fun k_ => k_ ≠ gb149 ∧ k_ ≠ gb176) (fun _ => False) rfl (by first | (go_simp; done) | (go_simp; rfl)) ?aP (fun _ hk => hk.elim) ?aF ?aO ?aB ?aS ?aL ?_; (case aP => exact kNode_mkM _ _ _ (⟨t172, (⟨t173, t174⟩ : SU128)⟩ : SNode)); (case aB => exact (by repeat (first | (with_reducible first | exact HB.out | apply below_alloc | apply pw_below_drewN | apply below_drew1 | refine below_set ?_ GE149.out | refine below_set ?_ GE176.out) | exact HB.out))); (case aF => exact (fun k_ hk => ⟨Kd.freshB (g := gb149) (o := .cells #[.string t145, .int .u64 t146, .int .u64 t147] 28 (0, 0)) (by (with_reducible repeat (first | refine blk_drewN ?_ _ | refine blk_drew ?_ | refine blk_alloc ?_ _)); refine blk_far ?_ NB149_176.out _; (with_reducible repeat (first | refine blk_drewN ?_ _ | refine blk_drew ?_ | refine blk_alloc ?_ _)); refine blk_far ?_ NB149_176.out _; (with_reducible repeat (first | refine blk_drewN ?_ _ | refine blk_drew ?_ | refine blk_alloc ?_ _)); refine blk_far ?_ NB149_176.out _; (with_reducible repeat (first | refine blk_drewN ?_ _ | refine blk_drew ?_ | refine blk_alloc ?_ _)); exact BK149.out) k_ hk, Kd.freshB (g := gb176) (o := .cells #[.string t172, .int .u64 t173, .int .u64 t174] 28 (0, 0)) (by (with_reducible repeat (first | refine blk_drewN ?_ _ | refine blk_drew ?_ | refine blk_alloc ?_ _)); refine blk_put (cs := #[.string t172, .int .u64 t173, .int .u64 0]) ?_ 2 _ rfl; (with_reducible repeat (first | refine blk_drewN ?_ _ | refine blk_drew ?_ | refine blk_alloc ?_ _)); refine blk_put (cs := #[.string t172, .int .u64 0, .int .u64 0]) ?_ 1 _ rfl; (with_reducible repeat (first | refine blk_drewN ?_ _ | refine blk_drew ?_ | refine blk_alloc ?_ _)); refine blk_put (cs := #[.string (⟨#[]⟩ : ByteArray), .int .u64 0, .int .u64 0]) ?_ 0 _ rfl; (with_reducible repeat (first | refine blk_drewN ?_ _ | refine blk_drew ?_ | refine blk_alloc ?_ _)); exact BK176.out) k_ hk⟩)); (case aO => exact (by (with_reducible repeat (first | apply Kd.R_alloc | apply Kd.R_drewN | apply Kd.R_drew)); exact Kd.R_mono (Kd.R_far (p := ⟨gb176, 2, none⟩) (Kd.R_far (p := ⟨gb176, 1, none⟩) (Kd.R_far (p := ⟨gb176, 0, none⟩) (Kd.R_mono HO_10.out (fun k_ hk => (⟨hk, hk.2⟩ : _ ∧ k_ ≠ gb176))) (fun _ hk => hk.2) (.string t172)) (fun _ hk => hk.2) (.int .u64 t173)) (fun _ hk => hk.2) (.int .u64 t174)) (fun _ hk => ⟨hk.1.1, hk.1.2⟩))); (case aS => exact (below_size (by repeat (first | (with_reducible first | exact HB.out | apply below_alloc | apply pw_below_drewN | apply below_drew1 | refine below_set ?_ GE149.out | refine below_set ?_ GE176.out) | exact HB.out)))); (case aL => have := LMc42.out; omega); intro v178 w48 ho hb hg hat; rw [← Ny177.out] at ho; have n0_ := aM' (blk_grown (g := gb149) (o := .cells #[.string t145, .int .u64 t146, .int .u64 t147] 28 (0, 0)) (by (with_reducible repeat (first | refine blk_drewN ?_ _ | refine blk_drew ?_ | refine blk_alloc ?_ _)); refine blk_far ?_ NB149_176.out _; (with_reducible repeat (first | refine blk_drewN ?_ _ | refine blk_drew ?_ | refine blk_alloc ?_ _)); refine blk_far ?_ NB149_176.out _; (with_reducible repeat (first | refine blk_drewN ?_ _ | refine blk_drew ?_ | refine blk_alloc ?_ _)); refine blk_far ?_ NB149_176.out _; (with_reducible repeat (first | refine blk_drewN ?_ _ | refine blk_drew ?_ | refine blk_alloc ?_ _)); exact BK149.out) hg (Kd.R_away HO_10.out (fun _ hk => hk.1))); have n1_ := aM' (blk_grown (g := gb176) (o := .cells #[.string t172, .int .u64 t173, .int .u64 t174] 28 (0, 0)) (by (with_reducible repeat (first | refine blk_drewN ?_ _ | refine blk_drew ?_ | refine blk_alloc ?_ _)); refine blk_put (cs := #[.string t172, .int .u64 t173, .int .u64 0]) ?_ 2 _ rfl; (with_reducible repeat (first | refine blk_drewN ?_ _ | refine blk_drew ?_ | refine blk_alloc ?_ _)); refine blk_put (cs := #[.string t172, .int .u64 0, .int .u64 0]) ?_ 1 _ rfl; (with_reducible repeat (first | refine blk_drewN ?_ _ | refine blk_drew ?_ | refine blk_alloc ?_ _)); refine blk_put (cs := #[.string (⟨#[]⟩ : ByteArray), .int .u64 0, .int .u64 0]) ?_ 0 _ rfl; (with_reducible repeat (first | refine blk_drewN ?_ _ | refine blk_drew ?_ | refine blk_alloc ?_ _)); exact BK176.out) hg (Kd.R_away HO_10.out (fun _ hk => hk.2))); have n2_ := aM' (hb); have n3_ := aM' (ho); clear BK149; clear BK176; clear HB; clear HO_10; have BK149 := n0_; have BK176 := n1_; have HB := n2_; have HO179 := n3_; clear n0_ n1_ n2_ n3_; clear ho hb hg hat))
              go_roundg k1
              case measure => have := HK1.out; omega
              case rel => exact ⟨(y177), (wrap64 (Int.tdiv x11_1 2)), (wrap64 (x12_1 * 2)), (by first | rfl | (simp; done) | (simp [*]; done)), (by first | rfl | (simp; done) | (simp [*]; done)), H', ⟨by have := HK1.out; omega⟩, ⟨by (with_reducible repeat (first | apply Kd.R_alloc | apply Kd.R_drewN | apply Kd.R_drew)); exact Kd.R_mono HO179.out (fun _ hk => hk.1)⟩, ⟨by (with_reducible repeat (first | refine blk_drewN ?_ _ | refine blk_drew ?_ | refine blk_alloc ?_ _)); exact BK149.out⟩, ⟨by repeat (first | (with_reducible first | exact HB.out | apply below_alloc | apply pw_below_drewN | apply below_drew1 | refine below_set ?_ GE149.out | refine below_set ?_ GE176.out) | exact HB.out)⟩⟩
             ·
              rw [if_neg c42] at H
              exact absurd H (by simp)
            ·
             rw [if_neg c41] at H
             have c41b0 : (t175 == 0) = false := beq_eq_false_iff_ne.mpr c41
             have c41b1 : (t175 != 0) = true := bne_iff_ne.mpr c41
             obtain rfl := Option.some.inj H
             have q49 : ((wrap64 ((wrap64 ((wrap64 (x11_1 + 1)) + 1)) * x12_1)) : Int) ≤ ((l1.length : Int) : Int) := of_decide_eq_true (by first | (with_reducible assumption) | assumption)
             obtain ⟨i049, hi049, _, hsz49, _⟩ := info_parts infoNode
             have hroom49 : l1.length ≤ c1 := HC1.out
             have hC49 : Kd.C kNode _ A1 l1.length l1 := HR1.out
             have ql49 : ((ji36) : Int) ≤ ((wrap64 ((wrap64 ((wrap64 (x11_1 + 1)) + 1)) * x12_1)) : Int) := of_decide_eq_true (by first | (with_reducible assumption) | assumption)
             have q049 : (0 : Int) ≤ ((ji36) : Int) := of_decide_eq_true (by first | (with_reducible assumption) | assumption)
             have hcut49 := cut_mid (P := Tryd.prog) 22 28 .i64 .i64 Tryd.underlying22 hi049 3 hsz49 A1 l1.length c1 (ji36) (wrap64 ((wrap64 ((wrap64 (x11_1 + 1)) + 1)) * x12_1)) q049 ql49 q49 hroom49
             have hr49 := Kd.C_mid (lo := ((ji36) : Int).toNat) (hi := ((wrap64 ((wrap64 ((wrap64 (x11_1 + 1)) + 1)) * x12_1)) : Int).toNat) (c := c1) hC49 (by omega) (by omega) hroom49
             obtain ⟨A49, hA49⟩ : ∃ zA, zA = (if c1 = ((ji36) : Int).toNat then A1 else (A1 : Option Addr).map (·.add (((ji36) : Int).toNat * 3))) := ⟨_, rfl⟩
             obtain ⟨c49, hc49⟩ : ∃ zc, zc = c1 - ((ji36) : Int).toNat := ⟨_, rfl⟩
             have hy49 : y168.length = ((wrap64 ((wrap64 ((wrap64 (x11_1 + 1)) + 1)) * x12_1)) : Int).toNat - ((ji36) : Int).toNat := (by rw [Ny168.out, List.length_drop, List.length_take] <;> omega)
             rw [show ((l1).take ((wrap64 ((wrap64 ((wrap64 (x11_1 + 1)) + 1)) * x12_1)) : Int).toNat).drop ((ji36) : Int).toNat = y168 from Ny168.out.symm] at hr49
             replace hr49 : Kd.C kNode _ A49 y168.length y168 := (by rw [hA49]; exact hr49)
             rw [← hy49, ← hA49, ← hc49] at hcut49
             have HR171 := aM' hr49
             have HC171 := aM' (show y168.length ≤ c49 from by rw [hy49, hc49]; exact Nat.sub_le_sub_right (Nat.le_trans (by omega) hroom49) _)
             clear hr49 hC49 hroom49 hi049 hsz49 hc49
             have KY49 := aM' hy49
             have KA49 := aM' hA49
             clear hy49 hA49
             replace q49 := eq_true q49
             go_wp2_with (first | ((with_reducible refine gate_callee (f := 14) rfl ?_); refine goesL_ (some 58) rfl rfl Tryd.func14 (by kernel_rfl) rfl #[.int .i64 a0, .slice A49 y168.length c49] rfl (by (try simp only [List.map_toArray, List.map_cons, List.map_nil]); first | done | rfl | (simp only [List.length_drop, List.length_take]; rfl)) ?_; (with_reducible refine (node_Fold.calls a0 _ _ y168 t172 t173 t174 t175 _ ?side1 ?side2 ?side3 A40.out).mono ?_); (case side1 => exact Laid.below HLD.out (by repeat (first | (with_reducible first | exact HB.out | apply below_alloc | apply pw_below_drewN | apply below_drew1 | refine below_set ?_ GE149.out) | exact HB.out))); (case side2 => repeat (first | exact (Kd.C_below HR171.out HB.out) | (with_reducible refine Kd.C_alloc ?_ _) | (with_reducible refine Kd.C_drewN ?_ _) | (with_reducible refine Kd.C_drew ?_))); (case side3 => exact HC171.out); rintro e w50 ⟨rfl, hb⟩; refine ⟨_, rfl, ?_⟩; have n0_ := aM' (Kd.R_below (by (with_reducible repeat (first | apply Kd.R_alloc | apply Kd.R_drewN | apply Kd.R_drew)); exact HO_10.out) hb); have n1_ := aM' (blk_below (g := gb149) (o := .cells #[.string t145, .int .u64 t146, .int .u64 t147] 28 (0, 0)) (by (with_reducible repeat (first | refine blk_drewN ?_ _ | refine blk_drew ?_ | refine blk_alloc ?_ _)); exact BK149.out) hb); have n2_ := aM' (below_step (by repeat (first | (with_reducible first | exact HB.out | apply below_alloc | apply pw_below_drewN | apply below_drew1 | refine below_set ?_ GE149.out) | exact HB.out)) hb); clear HO_10; clear BK149; clear HB; have HO_10 := n0_; have BK149 := n1_; have HB := n2_; clear n0_ n1_ n2_; (try clear hb); (try clear hb2); (try clear hk); (try clear hi)) | ((with_reducible refine gate_dst (N := 14) rfl ?_); refine box_event ?hg (N := 14) ?hd (cs := #[.string (⟨#[]⟩ : ByteArray), .int .u64 0, .int .u64 0]) (t := 28) ?hr ?_; (case hd => rfl); (case hg => rfl); (case hr => first | (go_simp; done) | (go_simp; rfl)); intro gb176 hg w51 hbox hb; have n0_ := aM' (Kd.R_below (Kd.R_elderB (by (with_reducible repeat (first | apply Kd.R_alloc | apply Kd.R_drewN | apply Kd.R_drew)); exact HO_10.out) gb176 (Nat.le_of_eq hg.symm)) hb); have n1_ := aM' (blk_below (g := gb149) (o := .cells #[.string t145, .int .u64 t146, .int .u64 t147] 28 (0, 0)) (by (with_reducible repeat (first | refine blk_drewN ?_ _ | refine blk_drew ?_ | refine blk_alloc ?_ _)); exact BK149.out) hb); have n2_ := aM' (below_step (by repeat (first | (with_reducible first | exact HB.out | apply below_alloc | apply pw_below_drewN | apply below_drew1 | refine below_set ?_ GE149.out) | exact HB.out)) hb); have n3_ := aM' (hbox); have n4_ := aM' ((by rw [hg]; exact (below_size (by repeat (first | (with_reducible first | exact HB.out | apply below_alloc | apply pw_below_drewN | apply below_drew1 | refine below_set ?_ GE149.out) | exact HB.out))) : w.heap.size ≤ gb176)); have n5_ := aM' ((by rw [hg]; exact (below_size (by repeat (first | (with_reducible first | exact HB.out | apply below_alloc | apply pw_below_drewN | apply below_drew1 | refine below_set ?_ GE149.out) | exact HB.out))) : w.heap.size ≤ gb176)); have n6_ := aM' ((by rw [hg]; exact Nat.ne_of_lt (blk_lt (g := gb149) (o := .cells #[.string t145, .int .u64 t146, .int .u64 t147] 28 (0, 0)) (by (with_reducible repeat (first | refine blk_drewN ?_ _ | refine blk_drew ?_ | refine blk_alloc ?_ _)); exact BK149.out)) : gb149 ≠ gb176)); have n7_ := aM' ((by rw [hg]; exact Nat.ne_of_gt (blk_lt (g := gb149) (o := .cells #[.string t145, .int .u64 t146, .int .u64 t147] 28 (0, 0)) (by (with_reducible repeat (first | refine blk_drewN ?_ _ | refine blk_drew ?_ | refine blk_alloc ?_ _)); exact BK149.out)) : gb176 ≠ gb149)); clear HO_10; clear BK149; clear HB; have HO_10 := n0_; have BK149 := n1_; have HB := n2_; have BK176 := n3_; have GW176 := n4_; have GE176 := n5_; have NB149_176 := n6_; have NB176_149 := n7_; clear n0_ n1_ n2_ n3_ n4_ n5_ n6_ n7_; clear hb hbox hg; have hnb52 := NB176_149.out; have hnc52 := NB149_176.out; have hcz53_0 : w51.cell? ⟨gb176, 0, none⟩ = some (.string (⟨#[]⟩ : ByteArray)) := (blk_cell BK176.out 0).trans rfl; have hcz53_1 : w51.cell? ⟨gb176, 1, none⟩ = some (.int .u64 0) := (blk_cell BK176.out 1).trans rfl; have hcz53_2 : w51.cell? ⟨gb176, 2, none⟩ = some (.int .u64 0) := (blk_cell BK176.out 2).trans rfl; have hfz53_0 := blk_frozen BK176.out 0; have hfz53_1 := blk_frozen BK176.out 1; have hfz53_2 := blk_frozen BK176.out 2))
             go_ret
             exact ⟨by first | rfl | (simp [errW_none, errW_some] <;> rfl) | (simp only [← hji36]; first | rfl | (simp [errW_none, errW_some] <;> rfl)) | (simp [*, errW_none, errW_some] <;> rfl), by repeat (first | (with_reducible first | exact HB.out | apply below_alloc | apply pw_below_drewN | apply below_drew1 | refine below_set ?_ GE149.out | refine below_set ?_ GE176.out) | exact HB.out)⟩
           ·
            rw [if_neg c39] at H
            exact absurd H (by simp)
          ·
           rw [if_neg c38] at H
           exact absurd H (by simp)
         ·
          rw [if_neg c37] at H
          exact absurd H (by simp)
       ·
        rw [if_neg c16] at H
        have c16b0 : decide (x12_1 < (l1.length : Int)) = false := decide_eq_false c16
        clear c16
        obtain ⟨ji54, hji54⟩ : ∃ j_ : Int, (Int.tmod (wrap64 (a2)) (l1.length : Int)) = j_ := ⟨_, rfl⟩
        replace H : (if 0 ≤ (ji54) then (if (ji54) < (l1.length : Int) then ((node_Climb.f a0 ((rd_TNode l1 (ji54)).f0) ((rd_TNode l1 (ji54)).f1.f0) ((rd_TNode l1 (ji54)).f1.f1) (IntKind.u64.wrap ((ji54))) x10_1).bind fun bt151 => (if bt151.2.2.2 = 0 then (some (bt151.1.toList == t145.toList && ((bt151.2.1 == t146 && (bt151.2.2.1 == t147))))) else (some false))) else (none)) else (none)) = some r := by first | (rw [hji54] at H; exact H) | (simp only [hji54] at H ⊢; exact H)
        by_cases c55 : 0 ≤ (ji54)
        ·
         rw [if_pos c55] at H
         have c55b0 : decide (0 ≤ (ji54)) = true := decide_eq_true c55
         clear c55
         by_cases c56 : (ji54) < (l1.length : Int)
         ·
          rw [if_pos c56] at H
          have c56b0 : decide ((ji54) < (l1.length : Int)) = true := decide_eq_true c56
          clear c56
          replace H := Option.bind_eq_some_iff.mp H
          obtain ⟨⟨t151, t152, t153, t154⟩, A570, H⟩ := H
          replace H : (if t154 = 0 then (some (t151.toList == t145.toList && ((t152 == t146 && (t153 == t147))))) else (some false)) = some r := H
          have A57 := aM' A570
          clear A570
          by_cases c58 : t154 = 0
          ·
           rw [if_pos c58] at H
           have c58b0 : (t154 == 0) = true := beq_iff_eq.mpr c58
           have c58b1 : (t154 != 0) = false := bne_eq_false_iff_eq.mpr c58
           clear c58
           obtain rfl := Option.some.inj H
           have p150 : 0 ≤ ((ji54) : Int) := of_decide_eq_true (by first | (with_reducible assumption) | assumption)
           have q150 : (ji54) < (l1.length : Int) := of_decide_eq_true (by first | (with_reducible assumption) | assumption)
           obtain ⟨ad150, e150, hx150_0, hx150_1, hx150_2⟩ := at_TNode HR1.out (ji54) p150 q150
           cases e150
           replace hx150_0 := (HB.out.cell (bL' w _ hx150_0)).trans hx150_0
           replace hx150_1 := (HB.out.cell (bL' w _ hx150_1)).trans hx150_1
           replace hx150_2 := (HB.out.cell (bL' w _ hx150_2)).trans hx150_2
           replace p150 := eq_true p150
           replace q150 := eq_true q150
           obtain ⟨Ao59, co59, eo59⟩ := Kd.R_slice HO_10.out
           subst eo59
           go_wp2_with (first | ((with_reducible refine gate_callee (f := 19) rfl ?_); refine goesL_ (some 80) rfl rfl Tryd.func19 (by kernel_rfl) rfl #[.int .i64 a0, .agg #[.string ((rd_TNode l1 (ji54)).f0), .int .u64 ((rd_TNode l1 (ji54)).f1.f0), .int .u64 ((rd_TNode l1 (ji54)).f1.f1)], .int .u64 (IntKind.u64.wrap ((ji54))), .slice Ao59 x10_1.length co59] rfl (by (try simp only [List.map_toArray, List.map_cons, List.map_nil]); first | done | (simp only [hji54]; rfl) | rfl | (simp only [List.length_drop, List.length_take]; rfl)) ?_; (with_reducible refine (node_Climb.calls a0 ((rd_TNode l1 (ji54)).f0) ((rd_TNode l1 (ji54)).f1.f0) ((rd_TNode l1 (ji54)).f1.f1) (IntKind.u64.wrap ((ji54))) _ _ x10_1 t151 t152 t153 t154 _ ?side1 ?side2 ?side3 A57.out).mono ?_); (case side1 => exact Laid.below HLD.out (by repeat (first | (with_reducible first | exact HB.out | apply below_alloc | apply pw_below_drewN | apply below_drew1 | refine below_set ?_ GE149.out) | exact HB.out))); (case side2 => repeat (first | exact (Kd.R_reads' HO_10.out).2.2 | (with_reducible refine Kd.C_alloc ?_ _) | (with_reducible refine Kd.C_drewN ?_ _) | (with_reducible refine Kd.C_drew ?_))); (case side3 => exact (Kd.R_reads' HO_10.out).2.1); rintro e w60 ⟨rfl, hb⟩; refine ⟨_, rfl, ?_⟩; have n0_ := aM' (Kd.R_below (by (with_reducible repeat (first | apply Kd.R_alloc | apply Kd.R_drewN | apply Kd.R_drew)); exact HO_10.out) hb); have n1_ := aM' (blk_below (g := gb149) (o := .cells #[.string t145, .int .u64 t146, .int .u64 t147] 28 (0, 0)) (by (with_reducible repeat (first | refine blk_drewN ?_ _ | refine blk_drew ?_ | refine blk_alloc ?_ _)); exact BK149.out) hb); have n2_ := aM' (below_step (by repeat (first | (with_reducible first | exact HB.out | apply below_alloc | apply pw_below_drewN | apply below_drew1 | refine below_set ?_ GE149.out) | exact HB.out)) hb); clear HO_10; clear BK149; clear HB; have HO_10 := n0_; have BK149 := n1_; have HB := n2_; clear n0_ n1_ n2_; (try clear hb); (try clear hb2); (try clear hk); (try clear hi)) | ((with_reducible refine gate_dst (N := 16) rfl ?_); refine box_event ?hg (N := 16) ?hd (cs := #[.string (⟨#[]⟩ : ByteArray), .int .u64 0, .int .u64 0]) (t := 28) ?hr ?_; (case hd => rfl); (case hg => rfl); (case hr => first | (go_simp; done) | (go_simp; rfl)); intro gb155 hg w61 hbox hb; have n0_ := aM' (Kd.R_below (Kd.R_elderB (by (with_reducible repeat (first | apply Kd.R_alloc | apply Kd.R_drewN | apply Kd.R_drew)); exact HO_10.out) gb155 (Nat.le_of_eq hg.symm)) hb); have n1_ := aM' (blk_below (g := gb149) (o := .cells #[.string t145, .int .u64 t146, .int .u64 t147] 28 (0, 0)) (by (with_reducible repeat (first | refine blk_drewN ?_ _ | refine blk_drew ?_ | refine blk_alloc ?_ _)); exact BK149.out) hb); have n2_ := aM' (below_step (by repeat (first | (with_reducible first | exact HB.out | apply below_alloc | apply pw_below_drewN | apply below_drew1 | refine below_set ?_ GE149.out) | exact HB.out)) hb); have n3_ := aM' (hbox); have n4_ := aM' ((by rw [hg]; exact (below_size (by repeat (first | (with_reducible first | exact HB.out | apply below_alloc | apply pw_below_drewN | apply below_drew1 | refine below_set ?_ GE149.out) | exact HB.out))) : w.heap.size ≤ gb155)); have n5_ := aM' ((by rw [hg]; exact (below_size (by repeat (first | (with_reducible first | exact HB.out | apply below_alloc | apply pw_below_drewN | apply below_drew1 | refine below_set ?_ GE149.out) | exact HB.out))) : w.heap.size ≤ gb155)); have n6_ := aM' ((by rw [hg]; exact Nat.ne_of_lt (blk_lt (g := gb149) (o := .cells #[.string t145, .int .u64 t146, .int .u64 t147] 28 (0, 0)) (by (with_reducible repeat (first | refine blk_drewN ?_ _ | refine blk_drew ?_ | refine blk_alloc ?_ _)); exact BK149.out)) : gb149 ≠ gb155)); have n7_ := aM' ((by rw [hg]; exact Nat.ne_of_gt (blk_lt (g := gb149) (o := .cells #[.string t145, .int .u64 t146, .int .u64 t147] 28 (0, 0)) (by (with_reducible repeat (first | refine blk_drewN ?_ _ | refine blk_drew ?_ | refine blk_alloc ?_ _)); exact BK149.out)) : gb155 ≠ gb149)); clear HO_10; clear BK149; clear HB; have HO_10 := n0_; have BK149 := n1_; have HB := n2_; have BK155 := n3_; have GW155 := n4_; have GE155 := n5_; have NB149_155 := n6_; have NB155_149 := n7_; clear n0_ n1_ n2_ n3_ n4_ n5_ n6_ n7_; clear hb hbox hg; have hnb62 := NB155_149.out; have hnc62 := NB149_155.out; have hcz63_0 : w61.cell? ⟨gb155, 0, none⟩ = some (.string (⟨#[]⟩ : ByteArray)) := (blk_cell BK155.out 0).trans rfl; have hcz63_1 : w61.cell? ⟨gb155, 1, none⟩ = some (.int .u64 0) := (blk_cell BK155.out 1).trans rfl; have hcz63_2 : w61.cell? ⟨gb155, 2, none⟩ = some (.int .u64 0) := (blk_cell BK155.out 2).trans rfl; have hfz63_0 := blk_frozen BK155.out 0; have hfz63_1 := blk_frozen BK155.out 1; have hfz63_2 := blk_frozen BK155.out 2; have hcz64_0 : w61.cell? ⟨gb149, 0, none⟩ = some (.string t145) := (blk_cell BK149.out 0).trans rfl; have hcz64_1 : w61.cell? ⟨gb149, 1, none⟩ = some (.int .u64 t146) := (blk_cell BK149.out 1).trans rfl; have hcz64_2 : w61.cell? ⟨gb149, 2, none⟩ = some (.int .u64 t147) := (blk_cell BK149.out 2).trans rfl; have hfz64_0 := blk_frozen BK149.out 0; have hfz64_1 := blk_frozen BK149.out 1; have hfz64_2 := blk_frozen BK149.out 2))
           go_ret
           exact ⟨by first | rfl | (simp [errW_none, errW_some] <;> rfl) | (simp only [← hji54]; first | rfl | (simp [errW_none, errW_some] <;> rfl)) | (simp [*, errW_none, errW_some] <;> rfl), by repeat (first | (with_reducible first | exact HB.out | apply below_alloc | apply pw_below_drewN | apply below_drew1 | refine below_set ?_ GE149.out | refine below_set ?_ GE155.out) | exact HB.out)⟩
          ·
           rw [if_neg c58] at H
           have c58b0 : (t154 == 0) = false := beq_eq_false_iff_ne.mpr c58
           have c58b1 : (t154 != 0) = true := bne_iff_ne.mpr c58
           obtain rfl := Option.some.inj H
           have p150 : 0 ≤ ((ji54) : Int) := of_decide_eq_true (by first | (with_reducible assumption) | assumption)
           have q150 : (ji54) < (l1.length : Int) := of_decide_eq_true (by first | (with_reducible assumption) | assumption)
           obtain ⟨ad150, e150, hx150_0, hx150_1, hx150_2⟩ := at_TNode HR1.out (ji54) p150 q150
           cases e150
           replace hx150_0 := (HB.out.cell (bL' w _ hx150_0)).trans hx150_0
           replace hx150_1 := (HB.out.cell (bL' w _ hx150_1)).trans hx150_1
           replace hx150_2 := (HB.out.cell (bL' w _ hx150_2)).trans hx150_2
           replace p150 := eq_true p150
           replace q150 := eq_true q150
           obtain ⟨Ao65, co65, eo65⟩ := Kd.R_slice HO_10.out
           subst eo65
           go_wp2_with (first | ((with_reducible refine gate_callee (f := 19) rfl ?_); refine goesL_ (some 80) rfl rfl Tryd.func19 (by kernel_rfl) rfl #[.int .i64 a0, .agg #[.string ((rd_TNode l1 (ji54)).f0), .int .u64 ((rd_TNode l1 (ji54)).f1.f0), .int .u64 ((rd_TNode l1 (ji54)).f1.f1)], .int .u64 (IntKind.u64.wrap ((ji54))), .slice Ao65 x10_1.length co65] rfl (by (try simp only [List.map_toArray, List.map_cons, List.map_nil]); first | done | (simp only [hji54]; rfl) | rfl | (simp only [List.length_drop, List.length_take]; rfl)) ?_; (with_reducible refine (node_Climb.calls a0 ((rd_TNode l1 (ji54)).f0) ((rd_TNode l1 (ji54)).f1.f0) ((rd_TNode l1 (ji54)).f1.f1) (IntKind.u64.wrap ((ji54))) _ _ x10_1 t151 t152 t153 t154 _ ?side1 ?side2 ?side3 A57.out).mono ?_); (case side1 => exact Laid.below HLD.out (by repeat (first | (with_reducible first | exact HB.out | apply below_alloc | apply pw_below_drewN | apply below_drew1 | refine below_set ?_ GE149.out) | exact HB.out))); (case side2 => repeat (first | exact (Kd.R_reads' HO_10.out).2.2 | (with_reducible refine Kd.C_alloc ?_ _) | (with_reducible refine Kd.C_drewN ?_ _) | (with_reducible refine Kd.C_drew ?_))); (case side3 => exact (Kd.R_reads' HO_10.out).2.1); rintro e w66 ⟨rfl, hb⟩; refine ⟨_, rfl, ?_⟩; have n0_ := aM' (Kd.R_below (by (with_reducible repeat (first | apply Kd.R_alloc | apply Kd.R_drewN | apply Kd.R_drew)); exact HO_10.out) hb); have n1_ := aM' (blk_below (g := gb149) (o := .cells #[.string t145, .int .u64 t146, .int .u64 t147] 28 (0, 0)) (by (with_reducible repeat (first | refine blk_drewN ?_ _ | refine blk_drew ?_ | refine blk_alloc ?_ _)); exact BK149.out) hb); have n2_ := aM' (below_step (by repeat (first | (with_reducible first | exact HB.out | apply below_alloc | apply pw_below_drewN | apply below_drew1 | refine below_set ?_ GE149.out) | exact HB.out)) hb); clear HO_10; clear BK149; clear HB; have HO_10 := n0_; have BK149 := n1_; have HB := n2_; clear n0_ n1_ n2_; (try clear hb); (try clear hb2); (try clear hk); (try clear hi)) | ((with_reducible refine gate_dst (N := 16) rfl ?_); refine box_event ?hg (N := 16) ?hd (cs := #[.string (⟨#[]⟩ : ByteArray), .int .u64 0, .int .u64 0]) (t := 28) ?hr ?_; (case hd => rfl); (case hg => rfl); (case hr => first | (go_simp; done) | (go_simp; rfl)); intro gb155 hg w67 hbox hb; have n0_ := aM' (Kd.R_below (Kd.R_elderB (by (with_reducible repeat (first | apply Kd.R_alloc | apply Kd.R_drewN | apply Kd.R_drew)); exact HO_10.out) gb155 (Nat.le_of_eq hg.symm)) hb); have n1_ := aM' (blk_below (g := gb149) (o := .cells #[.string t145, .int .u64 t146, .int .u64 t147] 28 (0, 0)) (by (with_reducible repeat (first | refine blk_drewN ?_ _ | refine blk_drew ?_ | refine blk_alloc ?_ _)); exact BK149.out) hb); have n2_ := aM' (below_step (by repeat (first | (with_reducible first | exact HB.out | apply below_alloc | apply pw_below_drewN | apply below_drew1 | refine below_set ?_ GE149.out) | exact HB.out)) hb); have n3_ := aM' (hbox); have n4_ := aM' ((by rw [hg]; exact (below_size (by repeat (first | (with_reducible first | exact HB.out | apply below_alloc | apply pw_below_drewN | apply below_drew1 | refine below_set ?_ GE149.out) | exact HB.out))) : w.heap.size ≤ gb155)); have n5_ := aM' ((by rw [hg]; exact (below_size (by repeat (first | (with_reducible first | exact HB.out | apply below_alloc | apply pw_below_drewN | apply below_drew1 | refine below_set ?_ GE149.out) | exact HB.out))) : w.heap.size ≤ gb155)); have n6_ := aM' ((by rw [hg]; exact Nat.ne_of_lt (blk_lt (g := gb149) (o := .cells #[.string t145, .int .u64 t146, .int .u64 t147] 28 (0, 0)) (by (with_reducible repeat (first | refine blk_drewN ?_ _ | refine blk_drew ?_ | refine blk_alloc ?_ _)); exact BK149.out)) : gb149 ≠ gb155)); have n7_ := aM' ((by rw [hg]; exact Nat.ne_of_gt (blk_lt (g := gb149) (o := .cells #[.string t145, .int .u64 t146, .int .u64 t147] 28 (0, 0)) (by (with_reducible repeat (first | refine blk_drewN ?_ _ | refine blk_drew ?_ | refine blk_alloc ?_ _)); exact BK149.out)) : gb155 ≠ gb149)); clear HO_10; clear BK149; clear HB; have HO_10 := n0_; have BK149 := n1_; have HB := n2_; have BK155 := n3_; have GW155 := n4_; have GE155 := n5_; have NB149_155 := n6_; have NB155_149 := n7_; clear n0_ n1_ n2_ n3_ n4_ n5_ n6_ n7_; clear hb hbox hg; have hnb68 := NB155_149.out; have hnc68 := NB149_155.out; have hcz69_0 : w67.cell? ⟨gb155, 0, none⟩ = some (.string (⟨#[]⟩ : ByteArray)) := (blk_cell BK155.out 0).trans rfl; have hcz69_1 : w67.cell? ⟨gb155, 1, none⟩ = some (.int .u64 0) := (blk_cell BK155.out 1).trans rfl; have hcz69_2 : w67.cell? ⟨gb155, 2, none⟩ = some (.int .u64 0) := (blk_cell BK155.out 2).trans rfl; have hfz69_0 := blk_frozen BK155.out 0; have hfz69_1 := blk_frozen BK155.out 1; have hfz69_2 := blk_frozen BK155.out 2))
           go_ret
           exact ⟨by first | rfl | (simp [errW_none, errW_some] <;> rfl) | (simp only [← hji54]; first | rfl | (simp [errW_none, errW_some] <;> rfl)) | (simp [*, errW_none, errW_some] <;> rfl), by repeat (first | (with_reducible first | exact HB.out | apply below_alloc | apply pw_below_drewN | apply below_drew1 | refine below_set ?_ GE149.out | refine below_set ?_ GE155.out) | exact HB.out)⟩
         ·
          rw [if_neg c56] at H
          exact absurd H (by simp)
        ·
         rw [if_neg c55] at H
         exact absurd H (by simp)
   ·
    rw [if_neg c10] at H
    have c10b0 : (t148 == 0) = false := beq_eq_false_iff_ne.mpr c10
    have c10b1 : (t148 != 0) = true := bne_iff_ne.mpr c10
    obtain rfl := Option.some.inj H
    go_enter Tryd.func5, Tryd.ntmps5
    go_wp2_with (first | ((with_reducible refine gate_callee (f := 17) rfl ?_); refine goesL_ (some 18) rfl rfl Tryd.func17 (by kernel_rfl) rfl #[] rfl (by (try simp only [List.map_toArray, List.map_cons, List.map_nil]); first | done | rfl | (simp only [List.length_drop, List.length_take]; rfl)) ?_; (with_reducible refine (paymasterlaw14_awake.calls  true _ ?side1 A4.out).mono ?_); (case side1 => exact Laid.below HLD.out (by repeat (first | (with_reducible first | exact HB.out | apply below_alloc | apply pw_below_drewN | apply below_drew1) | exact HB.out))); rintro e w70 ⟨rfl, hb⟩; refine ⟨_, rfl, ?_⟩; have n0_ := aM' (below_step (by repeat (first | (with_reducible first | exact HB.out | apply below_alloc | apply pw_below_drewN | apply below_drew1) | exact HB.out)) hb); clear HB; have HB := n0_; clear n0_; (try clear hb); (try clear hb2); (try clear hk); (try clear hi)) | ((with_reducible refine gate_callee (f := 13) rfl ?_); refine goesL_ (some 21) rfl rfl Tryd.func13 (by kernel_rfl) rfl #[.slice A1 l1.length c1] rfl (by (try simp only [List.map_toArray, List.map_cons, List.map_nil]); first | done | rfl | (simp only [List.length_drop, List.length_take]; rfl)) ?_; (with_reducible refine (paymasterlaw14_Great.calls k _ _ l1 false _ ?side1 ?side2 A6.out).mono ?_); (case side1 => repeat (first | exact (Kd.C_below HR1.out HB.out) | (with_reducible refine Kd.C_alloc ?_ _) | (with_reducible refine Kd.C_drewN ?_ _) | (with_reducible refine Kd.C_drew ?_))); (case side2 => exact HC1.out); rintro e w' ⟨rfl, ⟨nd, rfl⟩⟩; refine ⟨_, rfl, ?_⟩; (try (rw [drewN_self w70]; generalize hq_ : World.drewN w70 _ = w70; have n0_ : Aside0 (Below w.heap.size w w70) := ⟨by rw [← hq_]; exact (by repeat (first | (with_reducible first | exact HB.out | apply below_alloc | apply pw_below_drewN | apply below_drew1) | exact HB.out))⟩; clear HB hq_; have HB := n0_; clear n0_))) | ((with_reducible refine gate_callee (f := 14) rfl ?_); refine goesL_ (some 25) rfl rfl Tryd.func14 (by kernel_rfl) rfl #[.int .i64 a0, .slice A1 l1.length c1] rfl (by (try simp only [List.map_toArray, List.map_cons, List.map_nil]); first | done | rfl | (simp only [List.length_drop, List.length_take]; rfl)) ?_; (with_reducible refine (node_Fold.calls a0 _ _ l1 t145 t146 t147 t148 _ ?side1 ?side2 ?side3 A9.out).mono ?_); (case side1 => exact Laid.below HLD.out (by repeat (first | (with_reducible first | exact HB.out | apply below_alloc | apply pw_below_drewN | apply below_drew1) | exact HB.out))); (case side2 => repeat (first | exact (Kd.C_below HR1.out HB.out) | (with_reducible refine Kd.C_alloc ?_ _) | (with_reducible refine Kd.C_drewN ?_ _) | (with_reducible refine Kd.C_drew ?_))); (case side3 => exact HC1.out); rintro e w71 ⟨rfl, hb⟩; refine ⟨_, rfl, ?_⟩; have n0_ := aM' (below_step (by repeat (first | (with_reducible first | exact HB.out | apply below_alloc | apply pw_below_drewN | apply below_drew1) | exact HB.out)) hb); clear HB; have HB := n0_; clear n0_; (try clear hb); (try clear hb2); (try clear hk); (try clear hi)) | ((with_reducible refine gate_dst (N := 7) rfl ?_); refine box_event ?hg (N := 7) ?hd (cs := #[.string (⟨#[]⟩ : ByteArray), .int .u64 0, .int .u64 0]) (t := 28) ?hr ?_; (case hd => rfl); (case hg => rfl); (case hr => first | (go_simp; done) | (go_simp; rfl)); intro gb149 hg w72 hbox hb; have n0_ := aM' (below_step (by repeat (first | (with_reducible first | exact HB.out | apply below_alloc | apply pw_below_drewN | apply below_drew1) | exact HB.out)) hb); have n1_ := aM' (hbox); have n2_ := aM' ((by rw [hg]; exact (below_size (by repeat (first | (with_reducible first | exact HB.out | apply below_alloc | apply pw_below_drewN | apply below_drew1) | exact HB.out))) : w.heap.size ≤ gb149)); have n3_ := aM' ((by rw [hg]; exact (below_size (by repeat (first | (with_reducible first | exact HB.out | apply below_alloc | apply pw_below_drewN | apply below_drew1) | exact HB.out))) : w.heap.size ≤ gb149)); clear HB; have HB := n0_; have BK149 := n1_; have GW149 := n2_; have GE149 := n3_; clear n0_ n1_ n2_ n3_; clear hb hbox hg; have hcz73_0 : w72.cell? ⟨gb149, 0, none⟩ = some (.string (⟨#[]⟩ : ByteArray)) := (blk_cell BK149.out 0).trans rfl; have hcz73_1 : w72.cell? ⟨gb149, 1, none⟩ = some (.int .u64 0) := (blk_cell BK149.out 1).trans rfl; have hcz73_2 : w72.cell? ⟨gb149, 2, none⟩ = some (.int .u64 0) := (blk_cell BK149.out 2).trans rfl; have hfz73_0 := blk_frozen BK149.out 0; have hfz73_1 := blk_frozen BK149.out 1; have hfz73_2 := blk_frozen BK149.out 2))
    go_ret
    exact ⟨by first | rfl | (simp [errW_none, errW_some] <;> rfl) | (simp [*, errW_none, errW_some] <;> rfl), by repeat (first | (with_reducible first | exact HB.out | apply below_alloc | apply pw_below_drewN | apply below_drew1 | refine below_set ?_ GE149.out) | exact HB.out)⟩
 ·
  replace c5 := Bool.eq_false_iff.mpr c5
  subst c5
  have H1 : (some false) = some r := by rw [if_neg (show ¬ (false = true) by decide)] at H; exact H
  clear H
  have H := H1
  clear H1
  obtain rfl := Option.some.inj H
  go_enter Tryd.func5, Tryd.ntmps5
  go_wp2_with (first | ((with_reducible refine gate_callee (f := 17) rfl ?_); refine goesL_ (some 18) rfl rfl Tryd.func17 (by kernel_rfl) rfl #[] rfl (by (try simp only [List.map_toArray, List.map_cons, List.map_nil]); first | done | rfl | (simp only [List.length_drop, List.length_take]; rfl)) ?_; (with_reducible refine (paymasterlaw14_awake.calls  false _ ?side1 A4.out).mono ?_); (case side1 => exact Laid.below HLD.out (by repeat (first | (with_reducible first | exact HB.out | apply below_alloc | apply pw_below_drewN | apply below_drew1) | exact HB.out))); rintro e w74 ⟨rfl, hb⟩; refine ⟨_, rfl, ?_⟩; have n0_ := aM' (below_step (by repeat (first | (with_reducible first | exact HB.out | apply below_alloc | apply pw_below_drewN | apply below_drew1) | exact HB.out)) hb); clear HB; have HB := n0_; clear n0_; (try clear hb); (try clear hb2); (try clear hk); (try clear hi)))
  go_ret
  exact ⟨by first | rfl | (simp [errW_none, errW_some] <;> rfl) | (simp [*, errW_none, errW_some] <;> rfl), by repeat (first | (with_reducible first | exact HB.out | apply below_alloc | apply pw_below_drewN | apply below_drew1) | exact HB.out)⟩
end Go.Proofs.YtijfifphcchbbaaDoor.P
namespace Go.Proofs.YtijfifphcchbbaaDoor.P
open Go.RowKit Go.Proofs.YtijfifphcchbbaaDoorW.PrintWords Go.Proofs.YtijfifphcchbbaaDoorW.PrintLast Go.Proofs.YtijfifphcchbbaaDoorW.PrintMore
set_option linter.unusedVariables false
set_option linter.unusedSimpArgs false
set_option linter.unnecessarySimpa false
theorem getD_rd (l : List SNode) (p : Nat) (h : p < l.length) : rd_TNode l (p : Int) = l.getD p zeroN := by
 rw [rdNode_nat l p h]; simp [List.getD_eq_getElem?_getD, h]
theorem wrapN (n : Nat) (h : n ≤ 1000000) : wrap64 (n : Int) = (n : Int) := wrap64_id (by omega) (by omega)
theorem w_pred (q : Nat) (h : 1 ≤ q) (h2 : q ≤ 1000) : wrap64 ((q : Int) - 1) = ((q - 1 : Nat) : Int) := by rw [show (q : Int) - 1 = ((q - 1 : Nat) : Int) by omega]; exact wrapN _ (by omega)
theorem w_succ (q : Nat) (h2 : q ≤ 1000) : wrap64 ((q : Int) + 1) = ((q + 1 : Nat) : Int) := by rw [show (q : Int) + 1 = ((q + 1 : Nat) : Int) by omega]; exact wrapN _ (by omega)
theorem w_half (q : Nat) (h2 : q ≤ 1000) : wrap64 (Int.tdiv (q : Int) 2) = ((q / 2 : Nat) : Int) := by
 rw [Int.tdiv_eq_ediv_of_nonneg (by omega), show (q : Int) / 2 = ((q / 2 : Nat) : Int) by omega]; exact wrapN _ (by omega)
theorem w_dbl (s : Nat) (h2 : s ≤ 1000) : wrap64 ((s : Int) * 2) = ((s * 2 : Nat) : Int) := by
 rw [show (s : Int) * 2 = ((s * 2 : Nat) : Int) by omega]; exact wrapN _ (by omega)
theorem take_drop_blk (l : List SNode) (b s : Nat) : (l.take ((b + 1) * s)).drop (b * s) = (l.drop (b * s)).take s := by
 rw [List.drop_take]
 congr 1
 rw [Nat.add_mul, Nat.one_mul]; omega
theorem places_loop {wd : Int} {l : List SNode} {k p : Nat} {R : ByteArray × Int × Int × Int} (h1 : 1 ≤ wd) (h2 : wd ≤ 32) (hl : l.length = 2 ^ k) (h300 : l.length ≤ 300) (hp : p < 2 ^ k) (hk : ∀ x ∈ l, NodeK wd x) (ht : totL l < 340282366920938463463374607431768211456) (hR : R = ((treeV wd k l).f0, (treeV wd k l).f1.f0, (treeV wd k l).f1.f1, 0)) :
  ∀ d j : Nat, j + d = k → Ev (fun n => paymasterlaw14_NodePlaces.l0 n wd l (p : Int) ((List.range j).map (sideV wd l p)) ((p / 2 ^ j : Nat) : Int) ((2 ^ j : Nat) : Int) R.1 R.2.1 R.2.2.1) true := by
 have hk9 : k ≤ 8 := by
  rcases Nat.lt_or_ge 8 k with h | h
  ·
   have := Nat.pow_le_pow_right (n := 2) (by decide) h
   omega
  ·
   exact h
 intro d
 induction d with
 | zero =>
  intro j hj
  obtain rfl : j = k := by omega
  have e := climb_place (S := (List.range j).map (sideV wd l p)) hl hp hk ht (by omega) rfl
  have u := fun x hx => (hk x hx).u
  have hpl : p < l.length := by omega
  have hnu : OkU (l.getD p zeroN).f1 := by
   have : l.getD p zeroN = l[p] := by simp [List.getD_eq_getElem?_getD, hpl]
   rw [this]; exact u _ (List.getElem_mem hpl)
  have hsu : ∀ x ∈ (List.range j).map (sideV wd l p), OkU x.f1 := fun x hx => by
   obtain ⟨i, hi, rfl⟩ := List.mem_map.1 hx
   exact (sideV_k hl hp hk ht (List.mem_range.1 hi)).1.u
  have ec : node_Climb.f wd (l.getD p zeroN).f0 (l.getD p zeroN).f1.f0 (l.getD p zeroN).f1.f1 (p : Int) ((List.range j).map (sideV wd l p)) = some R := by
   unfold node_Climb.f
   rw [if_pos ⟨by omega, ⟨hnu.h0, hnu.h1⟩, fun x hx => ⟨(hsu x hx).h0, (hsu x hx).h1⟩⟩, hR]
   exact congrArg some e
  refine Ev.step (f := fun _ => some true) (fun n => ?_) (Ev.now _)
  simp only [paymasterlaw14_NodePlaces.l0]
  rw [if_neg (by omega), if_pos (by omega), if_pos (by omega), getD_rd l p hpl, wrapu64_id (by omega) (by omega), ec]
  simp [hR]
 | succ d ih =>
  intro j hj
  have hjk : j < k := by omega
  obtain ⟨hsk, hb1, hb2⟩ := sideV_k hl hp hk ht hjk
  have hq : p / 2 ^ j < 2 ^ (k - j) := by
   rw [Nat.div_lt_iff_lt_mul (Nat.two_pow_pos j), ← Nat.pow_add, Nat.sub_add_cancel (by omega)]; exact hp
  have hs : 2 ^ j < l.length := by rw [hl]; exact Nat.pow_lt_pow_right (by decide) hjk
  have hle : p / 2 ^ j ≤ p := Nat.div_le_self _ _
  have hS : (List.range (j + 1)).map (sideV wd l p) = (List.range j).map (sideV wd l p) ++ [sideV wd l p j] := by rw [List.range_succ, List.map_append]; rfl
  have hnext := ih (j + 1) (by omega)
  rw [hS] at hnext
  have hd : p / 2 ^ (j + 1) = p / 2 ^ j / 2 := by rw [Nat.pow_succ, Nat.div_div_eq_div_mul]
  have hpw : 2 ^ (j + 1) = 2 ^ j * 2 := Nat.pow_succ 2 j
  rw [hd, hpw] at hnext
  have hblk : ∀ b : Nat, b = (if (p / 2 ^ j) % 2 = 1 then p / 2 ^ j - 1 else p / 2 ^ j + 1) → (b + 1) * 2 ^ j ≤ l.length ∧ node_Fold.f wd ((l.take ((b + 1) * 2 ^ j)).drop (b * 2 ^ j)) = some ((sideV wd l p j).f0, (sideV wd l p j).f1.f0, (sideV wd l p j).f1.f1, 0) := by
   intro b hb
   try dsimp only at hb1 hb2
   rw [← hb] at hb1 hb2
   refine ⟨hb1, ?_⟩
   rw [take_drop_blk]
   have hkk : ∀ x ∈ (l.drop (b * 2 ^ j)).take (2 ^ j), NodeK wd x := fun x hx => hk x (List.mem_of_mem_drop (List.mem_of_mem_take hx))
   unfold node_Fold.f
   rw [if_pos ⟨by omega, fun x hx => ⟨(hkk x hx).u.h0, (hkk x hx).u.h1⟩⟩]
   have := foldI_pow h1 h2 hb2 (List.all_eq_true.2 fun x hx => (hkk x hx).of)
   rw [if_pos (Int.lt_of_le_of_lt (totL_take_le hk _ _) ht)] at this
   rw [this]
   unfold sideV blkV
   rw [← hb]
  generalize sideV wd l p j = sd at hblk hnext hsk
  have hlen : ((List.range j).map (sideV wd l p)).length < 4398046511104 := by simp; omega
  generalize (List.range j).map (sideV wd l p) = S at hnext hlen ⊢
  have hq2 : p / 2 ^ j < 300 := by omega
  generalize p / 2 ^ j = q at *
  have hs1 : 1 ≤ 2 ^ j := Nat.two_pow_pos j
  generalize 2 ^ j = s at *
  refine Ev.step (f := fun n => paymasterlaw14_NodePlaces.l0 n wd l (p : Int) (S ++ [sd]) ((q / 2 : Nat) : Int) ((s * 2 : Nat) : Int) R.1 R.2.1 R.2.2.1) (fun n => ?_) hnext
  clear hnext ih hk hsk hR
  simp only [paymasterlaw14_NodePlaces.l0]
  rw [if_pos (Int.ofNat_lt.2 hs)]
  have q1000 : q ≤ 1000 := Nat.le_of_lt (Nat.lt_trans hq2 (by decide))
  have s1000 : s ≤ 1000 := Nat.le_trans (Nat.le_of_lt hs) (Nat.le_trans h300 (by decide))
  have w2 := w_half q q1000
  have w3 := w_dbl s s1000
  have hmod : Int.tmod (q : Int) 2 = ((q % 2 : Nat) : Int) := by rw [Int.tmod_eq_emod_of_nonneg (Int.natCast_nonneg _)]; rfl
  by_cases ho : q % 2 = 1
  ·
   have hod : Int.tmod (q : Int) 2 = 1 := by rw [hmod, ho]; rfl
   obtain ⟨f1, f2⟩ := hblk (q - 1) (by rw [if_pos ho])
   clear hblk
   have hmm : (q - 1) * s ≤ (q - 1 + 1) * s := Nat.mul_le_mul_right _ (Nat.le_succ _)
   have hm2 : (q - 1 + 1) * s ≤ 1000000 := Nat.le_trans f1 (Nat.le_trans h300 (by decide))
   have hm1 : (q - 1) * s ≤ 1000000 := Nat.le_trans hmm hm2
   have v1 := w_pred q (Nat.pos_of_ne_zero (fun h => by rw [h] at ho; cases ho)) q1000
   have v2 := w_succ (q - 1) (Nat.le_trans (Nat.sub_le _ _) q1000)
   have v3 : wrap64 (((q - 1 : Nat) : Int) * (s : Int)) = (((q - 1) * s : Nat) : Int) := by rw [← Int.natCast_mul]; exact wrapN _ hm1
   have v4 : wrap64 (((q - 1 + 1 : Nat) : Int) * (s : Int)) = (((q - 1 + 1) * s : Nat) : Int) := by rw [← Int.natCast_mul]; exact wrapN _ hm2
   rw [if_pos hod, v1, v2, v3, v4, if_pos (Int.natCast_nonneg _), if_pos (Int.ofNat_le.2 hmm), if_pos (Int.ofNat_le.2 f1), Int.toNat_natCast, Int.toNat_natCast, f2]
   simp only [Option.bind_some]
   rw [if_pos trivial, if_pos hlen, w2, w3]
  ·
   have hod : ¬ Int.tmod (q : Int) 2 = 1 := by rw [hmod]; exact fun h => ho (Int.ofNat_inj.1 h)
   obtain ⟨f1, f2⟩ := hblk (q + 1) (by rw [if_neg ho])
   clear hblk
   have hmm : (q + 1) * s ≤ (q + 1 + 1) * s := Nat.mul_le_mul_right _ (Nat.le_succ _)
   have hm2 : (q + 1 + 1) * s ≤ 1000000 := Nat.le_trans f1 (Nat.le_trans h300 (by decide))
   have hm1 : (q + 1) * s ≤ 1000000 := Nat.le_trans hmm hm2
   have v1 := w_succ q q1000
   have v2 := w_succ (q + 1) (Nat.le_trans (Nat.succ_le_of_lt hq2) (by decide))
   have v3 : wrap64 (((q + 1 : Nat) : Int) * (s : Int)) = (((q + 1) * s : Nat) : Int) := by rw [← Int.natCast_mul]; exact wrapN _ hm1
   have v4 : wrap64 (((q + 1 + 1 : Nat) : Int) * (s : Int)) = (((q + 1 + 1) * s : Nat) : Int) := by rw [← Int.natCast_mul]; exact wrapN _ hm2
   rw [if_neg hod, v1, v2, v3, v4, if_pos (Int.natCast_nonneg _), if_pos (Int.ofNat_le.2 hmm), if_pos (Int.ofNat_le.2 f1), Int.toNat_natCast, Int.toNat_natCast, f2]
   simp only [Option.bind_some]
   rw [if_pos trivial, if_pos hlen, w2, w3]
theorem pure_NodePlaces : ∀ (y0 : Int) (y1 : (List SNode)) (y2 : Int), (Lit.int .i64 y0).wf = true → (y1.length ≤ 140737488355328 ∧ ∀ q0 ∈ y1, wfNode q0) → (Lit.int .u16 y2).wf = true → ∃ k, paymasterlaw14_NodePlaces.f k y0 y1 y2 = some true := by
 intro wd l pl _ hl hp
 have hp : 0 ≤ pl ∧ pl < 65536 := by simp [Lit.wf, IntKind.min, IntKind.max, IntKind.bits, IntKind.signed] at hp; omega
 have ul : ∀ x ∈ l, (0 ≤ x.f1.f0 ∧ x.f1.f0 < 18446744073709551616) ∧ (0 ≤ x.f1.f1 ∧ x.f1.f1 < 18446744073709551616) := fun x hx => ⟨wf_u64 (hl.2 x hx).2.1, wf_u64 (hl.2 x hx).2.2⟩
 have uk : ∀ x ∈ l, OkU x.f1 := fun x hx => ⟨(ul x hx).1, (ul x hx).2⟩
 have hl2 : l.length ≤ 9223372036854775807 := by have := hl.1; omega
 refine Ev.rounds ?_
 unfold paymasterlaw14_NodePlaces.f paymasterlaw14_awake.f
 simp only [Option.bind_some, if_true]
 refine Ev.bind (great14_ev l hl2) ?_
 cases hg : greatN l with
 | true => exact Ev.some_ (fun k => by rw [if_pos rfl])
 | false =>
  have h300 : l.length ≤ 300 := by
   unfold greatN at hg
   simp only [Bool.or_eq_false_iff, decide_eq_false_iff_not] at hg
   omega
  have e1 : node_Fold.f wd l = some (foldI wd l) := by unfold node_Fold.f; rw [if_pos ⟨h300, ul⟩]
  rw [e1]
  by_cases h0 : (foldI wd l).2.2.2 = 0
  ·
   have hal : 1 ≤ wd ∧ wd ≤ 32 ∧ l.all (nodeOf wd) = true := by
    by_cases h : 1 ≤ wd ∧ wd ≤ 32 ∧ l.all (nodeOf wd) = true
    ·
     exact h
    ·
     unfold foldI at h0; rw [if_neg h] at h0; exact absurd h0 (by decide)
   have hpw : isPow l.length = true := by
    cases h : isPow l.length with
    | true => rfl
    | false => unfold foldI at h0; rw [if_pos hal, if_neg (by rw [h]; decide)] at h0; exact absurd h0 (by decide)
   obtain ⟨k, hk2⟩ := isPow_spec hpw
   have hfp := foldI_pow hal.1 hal.2.1 hk2 hal.2.2
   have ht : totL l < 340282366920938463463374607431768211456 := by
    by_cases r : totL l < 340282366920938463463374607431768211456
    ·
     exact r
    ·
     rw [hfp, if_neg r] at h0; exact absurd h0 (by decide)
   rw [if_pos ht] at hfp
   have hpos : 0 < l.length := by rw [hk2]; exact Nat.two_pow_pos k
   obtain ⟨p, hpn⟩ : ∃ p : Nat, p = pl.toNat % l.length := ⟨_, rfl⟩
   have hpl : p < 2 ^ k := by rw [hpn, ← hk2]; exact Nat.mod_lt _ hpos
   have hpi : Int.tmod (wrap64 pl) (l.length : Int) = (p : Int) := by
    rw [wrap64_id (by omega) (by omega), Int.tmod_eq_emod_of_nonneg hp.1, hpn]
    obtain ⟨m, rfl⟩ := Int.eq_ofNat_of_zero_le hp.1
    simp
   have := places_loop (R := foldI wd l) hal.1 hal.2.1 hk2 h300 hpl (allK hal.2.2 uk) ht hfp k 0 (by omega)
   refine Ev.congr (f := fun n => paymasterlaw14_NodePlaces.l0 n wd l (p : Int) ((List.range 0).map (sideV wd l p)) ((p / 2 ^ 0 : Nat) : Int) ((2 ^ 0 : Nat) : Int) (foldI wd l).1 (foldI wd l).2.1 (foldI wd l).2.2.1) (fun n => ?_) this
   rw [if_neg (by decide)]
   simp only [Option.bind_some]
   rw [if_pos h0, if_neg (by omega), hpi]
   simp
  ·
   refine Ev.some_ (fun n => ?_)
   rw [if_neg (by decide)]
   simp only [Option.bind_some]
   rw [if_neg h0]
end Go.Proofs.YtijfifphcchbbaaDoor.P
namespace Go.Proofs.YtijfifphcchbbaaDoor.nodePlaces
open Go.Proofs.YtijfifphcchbbaaDoor.P Go.ChangeShapes Go.WideShapes Go.ChangeAt Go.RowKit
open Go.ChangeMaps (open_string shut_string)
open Go.Proofs.YtijfifphcchbbaaDoorW.PrintWords Go.Proofs.YtijfifphcchbbaaDoorW.PrintLast Go.Proofs.YtijfifphcchbbaaDoorW.PrintMore
set_option linter.unusedVariables false
set_option linter.unusedSimpArgs false
theorem own : ownKnob Tryd.prog.godebug = none := by kernel_rfl
theorem laidOut : laidOutB Tryd.prog = true := by kernel_rfl
set_option maxRecDepth 100000 in
theorem lifted (os : Os) (started : os.Started) (H : Type) (enc : TypeId × Value → H) :
    ReturnsInHanded {} Tryd.checked os 5 .any (fun w args => (Rows.nodePlacesSpec.pre enc Tryd.prog Tryd.f5 [] false w args ∧ laidMetH Tryd.prog Rows.nodePlacesRow.laid w) ∧ sizedMet enc Tryd.prog Tryd.f5 (OpenSpec.ofChange Rows.nodePlacesSpec) false w args)
      (Rows.nodePlacesSpec.post enc Tryd.prog Tryd.f5 false true false false) := by
  refine returnsInHanded_of_change_and (C := Tryd.checked) (X := fun w _ => laidMetH Tryd.prog Rows.nodePlacesRow.laid w) (fun _ _ _ hh h => h.of_heap hh) own started (by kernel_rfl) Tryd.func5
    (ChangeSpec.witness_at (enc := enc) (C := Tryd.checked) (os := os) (X := fun w _ => laidMetH Tryd.prog Rows.nodePlacesRow.laid w) false (P.laidWorld os) #[.int .i64 0, .slice none 0 0, .int .u16 0] 8 rfl (by kernel_rfl) (by kernel_rfl) (by kernel_rfl) (by kernel_rfl) (by kernel_rfl) (P.laidWorld_met os _)) ?_
  intro W base args ds gs before hval0 hW _ hsz0 hL _
  have hval : ∀ (j : Nat) t v, Tryd.f5.params[j]? = some t → args[j]? = some v → Value.okWide Tryd.prog W .any base t v := hval0
  have hW' := hW
  obtain ⟨p, q, hA0, hV, rfl, hfz, hnd⟩ := hW
  have hA : DataW.TrodAll enc Tryd.prog W 0 (fun _ => true) true Tryd.f5.params.toList args.toList ds p := hA0
  rw [Tryd.params5] at hA hval
  obtain ⟨v0, vs0, d0, ds0, p0, q0, hargs, rfl, rfl, h0, r0⟩ := trodAll_cons hA
  obtain ⟨v1, vs1, d1, ds1, p1, q1, rfl, rfl, rfl, h1, r1⟩ := trodAll_cons r0
  obtain ⟨v2, vs2, d2, ds2, p2, q2, rfl, rfl, rfl, h2, r2⟩ := trodAll_cons r1
  obtain ⟨rfl, rfl, rfl⟩ := trodAll_nil r2
  obtain rfl : args = #[v0, v1, v2] := by cases args; simp_all
  obtain ⟨rfl, rfl⟩ := trodVars_none hV
  have hz0 : Sized Tryd.prog 3 d0 := Sized.each hsz0 (j := 0) rfl rfl
  have hz1 : Sized Tryd.prog 22 d1 := Sized.each hsz0 (j := 1) rfl rfl
  have hz2 : Sized Tryd.prog 42 d2 := Sized.each hsz0 (j := 2) rfl rfl
  have k0 := h0
  have lt0 : ∀ x ∈ p0, x.block < W.heap.size := by obtain ⟨m, hm⟩ := k0; exact DataW.trod_lt m _ _ _ hm
  obtain ⟨y0, rfl, rfl, rfl, w0⟩ := open_int Tryd.underlying3 (hval 0 3 v0 rfl rfl) h0
  have k1 := h1
  have lt1 : ∀ x ∈ p1, x.block < W.heap.size := by obtain ⟨m, hm⟩ := k1; exact DataW.trod_lt m _ _ _ hm
  obtain ⟨a1, len1, cap1, rfl⟩ := okWide_slice Tryd.underlying22 (hval 1 22 v1 rfl rfl)
  obtain ⟨y1, hk1, w1⟩ := (Rd.slice Tryd.underlying22 (by kernel_rfl) (of_decide_eq_true (by kernel_rfl)) rdNode).cell rfl h1 hz1
  obtain ⟨A1, c1, e1, l1, g1⟩ := hk1
  rw [List.cons.injEq] at e1
  obtain ⟨e1, -⟩ := e1
  injection e1 with ea1 el1 ec1
  subst ea1 el1 ec1
  have k2 := h2
  have lt2 : ∀ x ∈ p2, x.block < W.heap.size := by obtain ⟨m, hm⟩ := k2; exact DataW.trod_lt m _ _ _ hm
  obtain ⟨y2, rfl, rfl, rfl, w2⟩ := open_int Tryd.underlying42 (hval 2 42 v2 rfl rfl) h2
  clear hA0 hval0 hsz0
  obtain ⟨k, h⟩ := pure_NodePlaces y0 y1 y2 w0 w1 w2
  refine (paymasterlaw14_NodePlaces.calls k y0 _ _ y1 y2 true W (P.laid_of_met hL) g1 l1 h).mono fun e W' ⟨he, bel0⟩ => ?_
  have bel := bel0
  subst he
  exact ⟨_, rfl, _, _, _, [], _, [], hW', trodAll_mk1 (shut_bool Tryd.underlying4 _), (trodAll_cons_mk (Below.trod laidOut (by kernel_rfl) (of_decide_eq_true (by kernel_rfl)) k0 bel lt0) (trodAll_cons_mk (Below.trod laidOut (by kernel_rfl) (of_decide_eq_true (by kernel_rfl)) k1 bel lt1) (trodAll_cons_mk (Below.trod laidOut (by kernel_rfl) (of_decide_eq_true (by kernel_rfl)) k2 bel lt2) trodAll_mk0))), rfl, bel.frame _, fun h => by cases h⟩
theorem over : Rows.nodePlacesRow.holds Tryd.pinned (OpenSpec.ofChange Rows.nodePlacesSpec) :=
  OpenClaim.holds_of_wide 5 Tryd.f5 rfl rfl rfl rfl rfl rfl rfl ⟨rfl, rfl, rfl, rfl, rfl⟩ rfl rfl rfl rfl rfl (by kernel_rfl) Tryd.func5 (by kernel_rfl)
    (of_decide_eq_true (by kernel_rfl)) (by unfold Func.isWrapper; first | (rw [if_pos (by decide +kernel)]; kernel_rfl) | (rw [if_neg (by decide +kernel)]; exact ⟨rfl, rfl⟩))
    (fun os started H enc _ => lifted os started H enc)
set_option maxRecDepth 100000 in
theorem proved : Rows.NodePlacesCardSaid :=
  Claim7.holds_tied_plain_at .later [] [.data] true (true, "165769d79d58bfc62aef2440c3d64497f5a859f08bfc759ed4b0f4abe4cad1c8") true
    over (fun _ h => by cases h) (by kernel_rfl) (fun _ h => by cases h) nodePlaces_row_tie rfl ⟨rfl, rfl⟩ (by kernel_rfl) rfl
    (fun f fn hf hfn => by
      obtain rfl : f = 5 := Option.some.inj ((show Tryd.prog.funcNamed "paymaster/paymasterlaw14.NodePlaces" = some 5 by kernel_rfl).symm.trans hf) |>.symm
      obtain rfl : fn = Tryd.f5 := (Option.some.inj (Tryd.func5.symm.trans hfn)).symm
      exact ⟨by kernel_rfl, fun j t ht => by
        rw [Tryd.params5] at ht
        have h3 : t ∈ [3, 22, 42] := by
          have := List.mem_of_getElem? (l := [3, 22, 42]) (i := j) (a := t) (by simpa using ht)
          exact this
        simp only [List.mem_cons, List.not_mem_nil, or_false] at h3
        rcases h3 with rfl | rfl | rfl
        · exact (show Tryd.prog.wantsStandIn 3 = false by kernel_rfl)
        · exact (show Tryd.prog.wantsStandIn 22 = false by kernel_rfl)
        · exact (show Tryd.prog.wantsStandIn 42 = false by kernel_rfl)
      ⟩)
    (by kernel_rfl)
#print axioms proved
end Go.Proofs.YtijfifphcchbbaaDoor.nodePlaces
namespace Go.Proofs.YtijfifphcchbbaaDoor
/-- The row, under a short name, for the claim. -/
theorem nodePlaces_holds : Rows.NodePlacesCardSaid := nodePlaces.proved
end Go.Proofs.YtijfifphcchbbaaDoor
