/- PROVED HERE: the Go function paymasterlaw14.NodeFolds returns true for every input that the given statement speaks of, and each argument reads behind the call as it read before. Conditions: none beyond the given statement's own (the laid table of constants, tied by the card). -/
-- Several texts of this workplace as one.
import Derived.Test.YtijfifphcchbbaaDoorZNodeFolds2
import Derived.Test.YtijfifphcchbbaaDoorProg
import Derived.Deep.OwnRows
import Derived.Laws.Rows
import Derived.Test.YtijfifphcchbbaaDoorRows
import Derived.Test.YtijfifphcchbbaaDoorCards
import Derived.Test.YtijfifphcchbbaaDoorTie
namespace Go.Proofs.YtijfifphcchbbaaDoor.P
open Go.RowKit Go.Proofs.YtijfifphcchbbaaDoorW.PrintWords Go.Proofs.YtijfifphcchbbaaDoorW.PrintLast Go.Proofs.YtijfifphcchbbaaDoorW.PrintMore
set_option linter.unusedVariables false
set_option linter.unusedSimpArgs false
set_option linter.unnecessarySimpa false
attribute [local go_sem] Oper.semAt_some sel_true
theorem nodeInfo : (Tryd.prog.info? 28).map (fun i => (i.zero, i.size, i.bytes)) = some (some (.agg #[(.string ⟨#[]⟩), (.int .u64 0), (.int .u64 0)]), 3, 32) := by kernel_rfl
def cellsN : List SNode → List Value
  | [] => []
  | x :: l => .string x.f0 :: .int .u64 x.f1.f0 :: .int .u64 x.f1.f1 :: cellsN l
theorem cellsN_len : ∀ l, (cellsN l).length = l.length * 3
  | [] => rfl
  | x :: l => by simp [cellsN, cellsN_len l]; omega
theorem cellsN_append : ∀ a b, cellsN (a ++ b) = cellsN a ++ cellsN b
  | [], _ => rfl
  | x :: a, b => by rw [List.cons_append, cellsN, cellsN_append a b]; rfl
theorem cellsN_get : ∀ (l : List SNode) (j i : Nat) (p : SNode), l[j]? = some p → i < 3 → (cellsN l)[j * 3 + i]? = [Value.string p.f0, .int .u64 p.f1.f0, .int .u64 p.f1.f1][i]?
  | [], j, i, p, h, _ => by simp at h
  | x :: l, 0, i, p, h, hi => by
    obtain rfl := Option.some.inj h
    rw [cellsN, Nat.zero_mul, Nat.zero_add]
    match i, hi with
    | 0, _ => rfl
    | 1, _ => rfl
    | 2, _ => rfl
  | x :: l, j + 1, i, p, h, hi => by
    have h' : l[j]? = some p := by simpa using h
    rw [cellsN, show (j + 1) * 3 + i = (j * 3 + i) + 3 by omega]
    simp only [List.getElem?_cons_succ]
    exact cellsN_get l j i p h' hi
theorem addr_at (g n : Nat) : (⟨g, 0, none⟩ : Addr).add n = ⟨g, n, none⟩ := by unfold Addr.add; split <;> simp_all
theorem ownNodes_C {w : World} {base g n cap : Nat} {xs : List SNode} (h : w.ownsRow base 28 3 (.slice (some ⟨g, 0, none⟩) n cap) n (cellsN xs)) : xs.length = n ∧ n ≤ cap ∧ Kd.C kNode w (some ⟨g, 0, none⟩) n xs := by
  obtain ⟨hlen, h⟩ := h
  rw [cellsN_len] at hlen
  have hl : xs.length = n := by omega
  rcases h with ⟨h, _⟩ | ⟨g', cap', cur, hv, hb, hg, hcap, hmax, hsz, htk⟩
  · cases h
  · simp only [Value.slice.injEq, Option.some.injEq, Addr.mk.injEq] at hv
    obtain ⟨⟨rfl, -⟩, -, rfl⟩ := hv
    refine ⟨hl, hcap, hl, by unfold maxLen at hmax; omega, fun h0 => ⟨_, rfl, fun j p hj => ?_⟩⟩
    refine ⟨_, rfl, kNode_mk w p, fun i u hu => ?_⟩
    have hi : i < 3 := by
      rcases Nat.lt_or_ge i 3 with h | h
      · exact h
      · simp [h] at hu
    have hjn : j < xs.length := (List.getElem?_eq_some_iff.1 hj).1
    have e : kNode.sz = 3 := rfl
    rw [e, addr_at, blk_cell hg]
    have h1 := cellsN_get xs j i p hj hi
    rw [← htk, List.getElem?_take, if_pos (by omega)] at h1
    rw [hu] at h1
    simpa using h1
theorem two_at {W : World} {ad : Addr} {l : List SNode} (h : Kd.C kNode W (some ad) l.length l) (j : Nat) (hj : 2 * j + 1 < l.length) :
    ((W.cell? (ad.add (2 * j * 3)) = some (.string (l[2 * j]'(by omega)).f0) ∧ W.cell? ⟨(ad.add (2 * j * 3)).block, (ad.add (2 * j * 3)).off + 1, none⟩ = some (.int .u64 (l[2 * j]'(by omega)).f1.f0) ∧ W.cell? ⟨(ad.add (2 * j * 3)).block, (ad.add (2 * j * 3)).off + 2, none⟩ = some (.int .u64 (l[2 * j]'(by omega)).f1.f1)) ∧
     (W.cell? ((ad.add (2 * j * 3)).add 3) = some (.string l[2 * j + 1].f0) ∧ W.cell? ⟨((ad.add (2 * j * 3)).add 3).block, ((ad.add (2 * j * 3)).add 3).off + 1, none⟩ = some (.int .u64 l[2 * j + 1].f1.f0) ∧ W.cell? ⟨((ad.add (2 * j * 3)).add 3).block, ((ad.add (2 * j * 3)).add 3).off + 2, none⟩ = some (.int .u64 l[2 * j + 1].f1.f1))) := by
  obtain ⟨a1, e1, p0, p1, p2⟩ := at_TNode h ((2 * j : Nat) : Int) (by omega) (by omega)
  obtain ⟨a2, e2, q0, q1, q2⟩ := at_TNode h ((2 * j + 1 : Nat) : Int) (by omega) (by omega)
  cases e1; cases e2
  rw [rdNode_nat l (2 * j) (by omega), Int.toNat_natCast] at p0 p1 p2
  rw [rdNode_nat l (2 * j + 1) hj, Int.toNat_natCast] at q0 q1 q2
  have e3 : (ad.add (2 * j * 3)).add 3 = ad.add ((2 * j + 1) * 3) := by rw [Addr.add_add]; congr 1; omega
  rw [e3]
  exact ⟨⟨p0, p1, p2⟩, q0, q1, q2⟩
theorem make_nodes (m : Nat) (h : m ≤ 1000000) : ∃ cur : Array Value, cur.size = m * 3 ∧ ∀ W : World, (Instr.makeSlice 22 (.int .i64 0) (.int .i64 (m : Int))).run Tryd.prog W = .ok (.slice (some ⟨W.heap.size, 0, none⟩) 0 m) (W.alloc (.cells cur 28)) := by
  obtain ⟨i0, hi, hz0, hz1, hz2⟩ := info_parts nodeInfo
  refine ⟨madeCells (Value.agg #[(.string ⟨#[]⟩), (.int .u64 0), (.int .u64 0)]).cells (m * 3), ?_, fun W => ?_⟩
  · exact size_madeCells _ _
  · have hr := run_make (P := Tryd.prog) W 22 28 i0 _ Tryd.underlying22 hi hz0 .i64 .i64 0 (m : Int) (Int.le_refl _) (by omega) (by rw [hz2]; omega) (by omega)
    rw [hz1] at hr
    simpa using hr
theorem two_at' {W : World} {ad : Addr} {l : List SNode} (h : Kd.C kNode W (some ad) l.length l) (j : Nat) (hj : 2 * j + 1 < l.length) (a b : SNode) (ha : a = l.getD (2 * j) zeroN) (hb : b = l.getD (2 * j + 1) zeroN) (ap : Addr) (hap : ap = ad.add (2 * j * 3)) :
    ((W.cell? ap = some (.string a.f0) ∧ W.cell? ⟨ap.block, ap.off + 1, none⟩ = some (.int .u64 a.f1.f0) ∧ W.cell? ⟨ap.block, ap.off + 2, none⟩ = some (.int .u64 a.f1.f1)) ∧
     (W.cell? ⟨ap.block, ap.off + 3, none⟩ = some (.string b.f0) ∧ W.cell? ⟨ap.block, ap.off + 3 + 1, none⟩ = some (.int .u64 b.f1.f0) ∧ W.cell? ⟨ap.block, ap.off + 3 + 2, none⟩ = some (.int .u64 b.f1.f1))) := by
  have h1 : l.getD (2 * j) zeroN = l[2 * j]'(by omega) := by simp [List.getD_eq_getElem?_getD, show 2 * j < l.length by omega]
  have h2 : l.getD (2 * j + 1) zeroN = l[2 * j + 1] := by simp [List.getD_eq_getElem?_getD, hj]
  subst ha hb hap
  rw [h1, h2]
  obtain ⟨p, q0, q1, q2⟩ := two_at h j hj
  have e3 : (ad.add (2 * j * 3)).add 3 = ⟨(ad.add (2 * j * 3)).block, (ad.add (2 * j * 3)).off + 3, none⟩ := rfl
  rw [e3] at q0 q1 q2
  exact ⟨p, q0, q1, q2⟩
structure Pr4 (W0 W : World) (x : SNode) (l : Nat → Bool) (γ : Nat) : Prop where
  hB : Below W0.heap.size W0 W
  hg : l 11 = true → W0.heap.size ≤ γ ∧ W.heap[γ]? = some (.cells (if l 12 = true then nodeA x else #[.string ⟨#[]⟩, .int .u64 0, .int .u64 0]) 28 (0, 0))
  ho : l 12 = true → l 11 = true
theorem Pr4.other {W0 W W' : World} {x : SNode} {l : Nat → Bool} {γ : Nat} (h : Pr4 W0 W x l γ) (i : Nat) (hi : i ≠ 11) (hi2 : i ≠ 12) (hb : Below W.heap.size W W') : Pr4 W0 W' x (upd l i) γ := by
  have e1 : upd l i 11 = l 11 := by unfold upd; rw [if_neg (fun e => hi e.symm)]
  have e2 : upd l i 12 = l 12 := by unfold upd; rw [if_neg (fun e => hi2 e.symm)]
  refine ⟨h.hB.trans (hb.mono h.hB.size), ?_, ?_⟩
  · rw [e1, e2]; exact fun hl => ⟨(h.hg hl).1, blk_below (h.hg hl).2 hb⟩
  · rw [e1, e2]; exact h.ho
theorem Pr4.alloc {W0 W : World} {x : SNode} {l : Nat → Bool} {γ : Nat} (h : Pr4 W0 W x l γ) (hl : l 11 = false) : Pr4 W0 (W.alloc (.cells #[.string ⟨#[]⟩, .int .u64 0, .int .u64 0] 28 (0, 0))) x (upd l 11) W.heap.size := by
  have h12 : l 12 = false := by
    cases hx : l 12 with
    | false => rfl
    | true => rw [h.ho hx] at hl; cases hl
  have e1 : upd l 11 11 = true := rfl
  have e2 : upd l 11 12 = l 12 := rfl
  refine ⟨below_alloc h.hB _, ?_, ?_⟩
  · rw [e1, e2, h12]; exact fun _ => ⟨h.hB.size, blk_new W _⟩
  · rw [e1]; exact fun _ => rfl
theorem Pr4.store {W0 W : World} {x : SNode} {l : Nat → Bool} {γ : Nat} (h : Pr4 W0 W x l γ) (ha : l 11 = true) (hl : l 12 = false) : Pr4 W0 (((W.setCell ⟨γ, 0, none⟩ (.string x.f0)).setCell ⟨γ, 1, none⟩ (.int .u64 x.f1.f0)).setCell ⟨γ, 2, none⟩ (.int .u64 x.f1.f1)) x (upd l 12) γ := by
  have e1 : upd l 12 11 = l 11 := rfl
  have e2 : upd l 12 12 = true := rfl
  obtain ⟨h1, h2⟩ := h.hg ha
  rw [hl, if_neg (by decide)] at h2
  refine ⟨below_set (below_set (below_set h.hB h1) h1) h1, ?_, ?_⟩
  · rw [e1, e2, if_pos rfl]; exact fun _ => ⟨h1, put3 (z := ⟨⟨#[]⟩, ⟨0, 0⟩⟩) h2 x⟩
  · rw [e1]; exact fun _ => ha
abbrev closV (B : Nat) : Value := .func (.func 58) #[] #[.pointer (some ⟨B, 0, none⟩)]
structure PrS (w : World) (B m b3 b4 b5 bx b6 : Nat) (done : List SNode) (r4 : Value) (r5 : Int) (W : World) : Prop where
  n3 : b3 = w.heap.size
  n4 : b4 = w.heap.size + 1
  n5 : b5 = w.heap.size + 2
  nx : bx = w.heap.size + 3
  n6 : b6 = w.heap.size + 4
  h3 : W.heap[b3]? = some (.cells #[closV B] 111 (0, 0))
  h4 : W.heap[b4]? = some (.cells #[r4] 22 (0, 0))
  h5 : W.heap[b5]? = some (.cells #[.int .i64 r5] 29 (0, 0))
  own : W.ownsRow w.heap.size 28 3 (.slice (some ⟨bx, 0, none⟩) done.length m) done.length (cellsN done)
  h6 : W.heap[b6]? = some (.cells #[.slice (some ⟨bx, 0, none⟩) done.length m] 22 (0, 0))
  hB : Below w.heap.size w W
theorem PrS.lt {w W : World} {B m b3 b4 b5 bx b6 : Nat} {done : List SNode} {r4 : Value} {r5 : Int} (h : PrS w B m b3 b4 b5 bx b6 done r4 r5 W) : w.heap.size + 4 < W.heap.size := by have := blk_lt h.h6; rw [h.n6] at this; exact this
theorem own_keep {w w' : World} {base n m g : Nat} {xs : List Value} {e : TypeId} {size : Nat} (h : w.ownsRow base e size (.slice (some ⟨g, 0, none⟩) n m) n xs) (hk : w'.heap[g]? = w.heap[g]?) : w'.ownsRow base e size (.slice (some ⟨g, 0, none⟩) n m) n xs := by
  obtain ⟨hlen, h⟩ := h
  refine ⟨hlen, ?_⟩
  rcases h with ⟨h, _⟩ | ⟨g', cap', cur, hv, hb, hg, hr⟩
  · cases h
  · have e : g' = g := by simp only [Value.slice.injEq, Option.some.injEq, Addr.mk.injEq] at hv; exact hv.1.1.symm
    subst e
    exact .inr ⟨_, cap', cur, hv, hb, hk.trans hg, hr⟩
theorem PrS.keep {w W W' : World} {B m b3 b4 b5 bx b6 : Nat} {done : List SNode} {r4 : Value} {r5 : Int} (h : PrS w B m b3 b4 b5 bx b6 done r4 r5 W) (hk : ∀ k, k ≤ w.heap.size + 4 → W'.heap[k]? = W.heap[k]?) (hB : Below w.heap.size w W') : PrS w B m b3 b4 b5 bx b6 done r4 r5 W' :=
  ⟨h.n3, h.n4, h.n5, h.nx, h.n6, (hk _ (by have := h.n3; omega)).trans h.h3, (hk _ (by have := h.n4; omega)).trans h.h4, (hk _ (by have := h.n5; omega)).trans h.h5, own_keep h.own (hk _ (by have := h.nx; omega)), (hk _ (by have := h.n6; omega)).trans h.h6, hB⟩
theorem PrS.below {w W W' : World} {B m b3 b4 b5 bx b6 : Nat} {done : List SNode} {r4 : Value} {r5 : Int} (h : PrS w B m b3 b4 b5 bx b6 done r4 r5 W) (hb : Below W.heap.size W W') : PrS w B m b3 b4 b5 bx b6 done r4 r5 W' :=
  h.keep (fun k h2 => hb.block k (by have := h.lt; omega)) (h.hB.trans (hb.mono h.hB.size))
theorem PrS.grown {w X Y : World} {B m b3 b4 b5 bx b6 C : Nat} {done : List SNode} {r4 : Value} {r5 : Int} {row : Option Nat} (h : PrS w B m b3 b4 b5 bx b6 done r4 r5 X) (hg : X.grownBy Y row) (hlt : w.heap.size + 4 < C) (hr : ∀ r, row = some r → C ≤ r) : PrS w B m b3 b4 b5 bx b6 done r4 r5 Y := by
  have hl := h.lt
  have hk : ∀ k, k ≤ w.heap.size + 4 → Y.heap[k]? = X.heap[k]? := fun k hk => hg.block k (by omega) (fun e => by have := hr k e.symm; omega)
  exact h.keep hk ⟨hg.os.trans h.hB.os, hg.tape.trans h.hB.tape, hg.output.trans h.hB.output, Nat.le_trans h.hB.size hg.size, fun i hi => (hk i (by omega)).trans (h.hB.block i hi)⟩
theorem PrS.more {w W W' : World} {B m b3 b4 b5 bx b6 : Nat} {done : List SNode} {r4 : Value} {r5 : Int} (x : SNode) (h : PrS w B m b3 b4 b5 bx b6 done r4 r5 W) (hg : W.grownBy W' (some bx)) (hown : W'.ownsRow w.heap.size 28 3 (.slice (some ⟨bx, 0, none⟩) (done.length + 1) m) (done.length + 1) (cellsN done ++ [.string x.f0, .int .u64 x.f1.f0, .int .u64 x.f1.f1])) :
    PrS w B m b3 b4 b5 bx b6 (done ++ [x]) r4 r5 (W'.setCell ⟨b6, 0, none⟩ (.slice (some ⟨bx, 0, none⟩) (done.length + 1) m)) := by
  have hl := h.lt
  have n3 := h.n3; have n4 := h.n4; have n5 := h.n5; have nx := h.nx; have n6 := h.n6
  have hk : ∀ k, k ≤ w.heap.size + 4 → k ≠ bx → W'.heap[k]? = W.heap[k]? := fun k hk hn => hg.block k (by omega) (fun e => hn (Option.some.inj e))
  have hlen : (done ++ [x]).length = done.length + 1 := by simp
  refine ⟨n3, n4, n5, nx, n6, blk_far ((hk _ (by omega) (by omega)).trans h.h3) (by (try dsimp only); omega) _, blk_far ((hk _ (by omega) (by omega)).trans h.h4) (by (try dsimp only); omega) _, blk_far ((hk _ (by omega) (by omega)).trans h.h5) (by (try dsimp only); omega) _, ?_, ?_, ?_⟩
  · rw [hlen, cellsN_append]
    exact own_keep hown (Below.heap_setCell _ _ _ _ (by (try dsimp only); omega))
  · rw [hlen]
    exact blk_put ((hk _ (by omega) (by omega)).trans h.h6) 0 _ rfl
  · have hB : Below w.heap.size w W' := ⟨hg.os.trans h.hB.os, hg.tape.trans h.hB.tape, hg.output.trans h.hB.output, Nat.le_trans h.hB.size hg.size, fun i hi => (hk i (by omega) (by omega)).trans (h.hB.block i hi)⟩
    exact below_set hB (by (try dsimp only); omega)
theorem PrS.put {w W : World} {B m b3 b4 b5 bx b6 : Nat} {done : List SNode} {r4 : Value} {r5 : Int} (h : PrS w B m b3 b4 b5 bx b6 done r4 r5 W) (v : Value) (e : Int) : PrS w B m b3 b4 b5 bx b6 done v e ((W.setCell ⟨b4, 0, none⟩ v).setCell ⟨b5, 0, none⟩ (.int .i64 e)) := by
  have n3 := h.n3; have n4 := h.n4; have n5 := h.n5; have nx := h.nx; have n6 := h.n6
  exact ⟨n3, n4, n5, nx, n6, blk_far (blk_far h.h3 (by (try dsimp only); omega) _) (by (try dsimp only); omega) _, blk_far (blk_put h.h4 0 _ rfl) (by (try dsimp only); omega) _, blk_put (blk_far h.h5 (by (try dsimp only); omega) _) 0 _ rfl,
    own_keep (own_keep h.own (Below.heap_setCell _ _ _ _ (by (try dsimp only); omega))) (Below.heap_setCell _ _ _ _ (by (try dsimp only); omega)), blk_far (blk_far h.h6 (by (try dsimp only); omega) _) (by (try dsimp only); omega) _, below_set (below_set h.hB (by (try dsimp only); omega)) (by (try dsimp only); omega)⟩
theorem pairs_results (tmps : Array Value) (W : World) (g2 g3 : Nat) (v e : Value) (h4 : tmps.getD 4 undef = .pointer (some ⟨g2, 0, none⟩)) (h5 : tmps.getD 5 undef = .pointer (some ⟨g3, 0, none⟩)) (hg2 : W.heap[g2]? = some (.cells #[v] 22 (0, 0))) (hg3 : W.heap[g3]? = some (.cells #[e] 29 (0, 0))) :
    (results Tryd.f57 tmps).run Tryd.prog W = .ok (.tuple #[v, e]) W := by
  have h4' : tmps[4]?.getD undef = .pointer (some ⟨g2, 0, none⟩) := by simpa using h4
  have h5' : tmps[5]?.getD undef = .pointer (some ⟨g3, 0, none⟩) := by simpa using h5
  have hr : Tryd.f57.results = #[.cell 4 22, .cell 5 29] := rfl
  have hc : W.cell? ⟨g3, 0, none⟩ = some e := blk_cell hg3 0
  have hd : W.cell? ⟨g2, 0, none⟩ = some v := blk_cell hg2 0
  have hu := Tryd.underlying29
  have hu2 := Tryd.underlying22
  have h1 : (loadVar 22 ⟨g2, 0, none⟩).run Tryd.prog W = .ok v W := by go_simp
  have h2 : (loadVar 29 ⟨g3, 0, none⟩).run Tryd.prog W = .ok e W := by go_simp
  simp [results, hr, h4', h5', asAddr, h1, h2]
theorem pairs_retD {w W : World} {B m b3 b4 b5 bx b6 D : Nat} {done : List SNode} {r4 : Value} {r5 : Int} {tmps : Array Value} {R : Ending → World → Prop} (h : PrS w B m b3 b4 b5 bx b6 done r4 r5 W) (hD : w.heap.size + 4 < D) (hdf : W.heap[D]? = some (.deferred (some []))) (h4 : tmps.getD 4 undef = .pointer (some ⟨b4, 0, none⟩)) (h5 : tmps.getD 5 undef = .pointer (some ⟨b5, 0, none⟩))
    (hR : ∀ W', PrS w B m b3 b4 b5 bx b6 done r4 r5 W' → R (.returned (.tuple #[r4, .int .i64 r5])) W') : bodyPostM Fence.wide 3 Tryd.prog Tryd.f57 R .ret { tmps := tmps, defers := [{ target := .collected D, args := #[] }] } W := by
  have n4 := h.n4; have n5 := h.n5
  refine ⟨by simp, .inl ⟨_, _, rfl, run_takeDeferred hdf, ?_⟩⟩
  refine ⟨_, pairs_results _ _ _ _ _ _ h4 h5 ((World.putObj_heap_other (by omega)).trans h.h4) ((World.putObj_heap_other (by omega)).trans h.h5), hR _ ?_⟩
  exact h.keep (fun k hk => World.putObj_heap_other (by omega)) ⟨h.hB.os, h.hB.tape, h.hB.output, by simpa using h.hB.size, fun i hi => (World.putObj_heap_other (by omega)).trans (h.hB.block i hi)⟩
set_option maxRecDepth 100000 in
set_option maxHeartbeats 4000000 in
theorem pairs.calls (wd : Int) (B : Nat) (ad : Addr) (c m : Nat) (xl : List SNode) (w : World) (hK : Laid w) (hB : w.heap[B]? = some (.cells #[.int .i64 wd] 3 (0, 0))) (hl : xl.length = 2 * m) (hm1 : 1 ≤ m) (hm : m ≤ 1000000) (hc : xl.length ≤ c) (hr : Kd.C kNode w (some ad) xl.length xl) (hk : ∀ x ∈ xl, NodeK wd x) :
    Calls Tryd.prog 57 #[.slice (some ad) xl.length c, closV B] w fun e w' => Below w.heap.size w w' ∧
      ((pairsOk xl = true ∧ ∃ g cap, e = .returned (.tuple #[.slice (some ⟨g, 0, none⟩) m cap, .int .i64 0]) ∧ m ≤ cap ∧ Kd.C kNode w' (some ⟨g, 0, none⟩) m (pairsV wd xl)) ∨ (pairsOk xl = false ∧ e = .returned (.tuple #[.slice none 0 0, .int .i64 10]))) := by
  have HR := aM' hr
  have HK := aM' hK
  have HBX := aM' hB
  have HKN := aM' hk
  have HLL := aM' hl
  have HM1 := aM' hm1
  have HM := aM' hm
  have HC := aM' hc
  obtain ⟨i0, hi, hz0, hz1, hz2⟩ := info_parts nodeInfo
  have hhalf : ((xl.length : Int)).tdiv 2 = (m : Int) := by rw [Int.tdiv_eq_ediv_of_nonneg (by omega)]; omega
  have wm : wrap64 (m : Int) = (m : Int) := wrap64_id (by omega) (by omega)
  obtain ⟨cur, hcur, hmk⟩ := make_nodes m hm
  clear hr hK hB hk hl hm1 hm hc
  refine (callsIn_wide (n := 3)).1 ?_
  refine callsIn_of_wp_marks Tryd.func57 rfl trivial ?_ rfl
  simp only [Tryd.ntmps57, List.size_toArray, List.length_cons, List.length_nil, Nat.reduceAdd, Nat.reduceSub, Array.replicate_succ, Array.replicate_zero, List.push_toArray, List.append_toArray, List.nil_append, List.cons_append]
  gi_wp2_with fail
  have hP2 : PrS w B m w.heap.size (w.heap.size + 1) (w.heap.size + 1 + 1) (w.heap.size + 1 + 1 + 1) (w.heap.size + 1 + 1 + 1 + 1) [] (.slice none 0 0) 0 (((((w.alloc (.cells #[closV B] 111)).alloc (.cells #[.slice none 0 0] 22)).alloc (.cells #[.int .i64 0] 29)).alloc (.cells cur 28)).alloc (.cells #[.slice (some ⟨w.heap.size + 1 + 1 + 1, 0, none⟩) 0 m] 22)) := by
    refine ⟨rfl, rfl, rfl, rfl, rfl, blk_alloc (blk_alloc (blk_alloc (blk_alloc (blk_new w _) _) _) _) _, blk_alloc (blk_alloc (blk_alloc ?_ _) _) _, blk_alloc (blk_alloc ?_ _) _, own_keep (w := (((w.alloc (.cells #[closV B] 111)).alloc (.cells #[.slice none 0 0] 22)).alloc (.cells #[.int .i64 0] 29)).alloc (.cells cur 28)) ?_ (Below.heap_alloc _ _ _ (by simp)), ?_, below_alloc (below_alloc (below_alloc (below_alloc (below_alloc (Below.refl _ _) _) _) _) _) _⟩
    · have := blk_new (w.alloc (.cells #[closV B] 111)) (.cells #[.slice none 0 0] 22); rwa [World.size_alloc] at this
    · have := blk_new ((w.alloc (.cells #[closV B] 111)).alloc (.cells #[.slice none 0 0] 22)) (.cells #[.int .i64 0] 29); rwa [World.size_alloc, World.size_alloc] at this
    · have := World.ownsRow_made (base := w.heap.size) (e := 28) (size := 3) (((w.alloc (.cells #[closV B] 111)).alloc (.cells #[.slice none 0 0] 22)).alloc (.cells #[.int .i64 0] 29)) cur m (by simp; omega) (by have := HM.out; unfold maxLen; omega) hcur
      rw [World.size_alloc, World.size_alloc, World.size_alloc] at this
      exact this
    · have := blk_new ((((w.alloc (.cells #[closV B] 111)).alloc (.cells #[.slice none 0 0] 22)).alloc (.cells #[.int .i64 0] 29)).alloc (.cells cur 28)) (.cells #[.slice (some ⟨w.heap.size + 1 + 1 + 1, 0, none⟩) 0 m] 22); rwa [World.size_alloc, World.size_alloc, World.size_alloc, World.size_alloc] at this
  generalize (((((w.alloc (.cells #[closV B] 111)).alloc (.cells #[.slice none 0 0] 22)).alloc (.cells #[.int .i64 0] 29)).alloc (.cells cur 28)).alloc (.cells #[.slice (some ⟨w.heap.size + 1 + 1 + 1, 0, none⟩) 0 m] 22)) = w2 at hP2 ⊢
  clear hmk hcur
  have hnum := hP2.n6
  generalize w.heap.size + 1 + 1 + 1 + 1 = b6 at hP2 ⊢
  generalize w.heap.size + 1 + 1 + 1 = bx at hP2 ⊢
  generalize w.heap.size + 1 + 1 = b5 at hP2 ⊢
  generalize w.heap.size + 1 = b4 at hP2 ⊢
  generalize hb3 : w.heap.size = b3 at hP2 ⊢
  refine ⟨trivial, ?_⟩
  refine (callsIn_wide.2 (chunk.calls (some ad) xl.length c w2)).mono ?_
  rintro e w3 ⟨rfl, hw3⟩
  have hS : w3.heap[w2.heap.size]? = some (.cells #[.slice (some ad) xl.length c] 22 (0, 0)) := by rw [hw3]; exact blk_alloc (blk_new w2 _) _
  have hN : w3.heap[w2.heap.size + 1]? = some (.cells #[.int .i64 2] 3 (0, 0)) := by
    rw [hw3]
    have := blk_new (w2.alloc (.cells #[.slice (some ad) xl.length c] 22)) (.cells #[.int .i64 2] 3)
    rwa [World.size_alloc] at this
  have hP3 : PrS w B m b3 b4 b5 bx b6 [] (.slice none 0 0) 0 w3 := by rw [hw3]; exact hP2.below (below_alloc (below_alloc (Below.refl _ _) _) _)
  have hz3 : w3.heap.size = w2.heap.size + 2 := by rw [hw3]; simp
  have HL2 := aM' hP2.lt
  have HS := aM' hS
  have HN := aM' hN
  have HP3 := aM' hP3
  have HZ := aM' hz3
  have HB3 := aM' hb3
  clear hw3 hS hN hP3 hz3 hP2 hb3 hnum
  gi_wp2_with fail
  refine wpIn_rangeFunc_ownH (α := { j : Nat // j < m }) (n := 3) rfl (by omega) (gf := 133) (lb := #[.pointer (some ⟨w2.heap.size, 0, none⟩), .pointer (some ⟨w2.heap.size + 1, 0, none⟩)]) rfl trivial (enters_of Tryd.func133 (by kernel_rfl) rfl) (encs := fun x => #[chunkV ad x.1]) (Kp := KeepS (fun k => k = w2.heap.size ∨ k = w2.heap.size + 1))
    (S := fun xs => xs.map Subtype.val = List.range m) (Sp := fun pre => True) (N := m) (w0 := w3) ?hseq (fun h k => KeepS.trans h k) ?hKb (Below.refl _ _) (fun _ => rfl)
    (fun pre W => (∀ x ∈ pre, twoOk xl x.1) ∧ PrS w B m b3 b4 b5 bx b6 (pre.map fun x => twoV wd xl x.1) (.slice none 0 0) 0 W ∧ w3.heap.size ≤ W.heap.size)
    (fun c pre W => c = .ret ∧ (∃ x ∈ pre, ¬ twoOk xl x.1) ∧ ∃ done, PrS w B m b3 b4 b5 bx b6 done (.slice none 0 0) 10 W)
    ?hI ?hIx ⟨fun x hx => absurd hx (List.not_mem_nil), HP3.out, Nat.le_refl _⟩
    (fun x a' W => a' = ({ tmps := #[.slice (some ad) xl.length c, closV B, undef, .pointer (some ⟨b3, 0, none⟩), .pointer (some ⟨b4, 0, none⟩), .pointer (some ⟨b5, 0, none⟩), .pointer (some ⟨b6, 0, none⟩), chunkV ad x.1, undef, undef, .slice (some ad) xl.length c, .int .i64 (xl.length : Int), .int .i64 (m : Int), .slice (some ⟨bx, 0, none⟩) 0 m, .slice (some ad) xl.length c, .func (.func 133) #[] #[.pointer (some ⟨w2.heap.size, 0, none⟩), .pointer (some ⟨w2.heap.size + 1, 0, none⟩)], chunkV ad x.1, undef, undef, undef, undef, undef, undef, undef, undef, undef, undef, undef, undef, undef, undef, undef, undef, undef, undef, undef], defers := [] } : Act)) ?hAx ?assign ?body ?done ?stop
  case hKb =>
    intro W l2 o o' hl2 ho hc hw k hk
    have := HZ.out
    exact World.putObj_heap_other (by rcases hk with rfl | rfl <;> omega)
  case hI =>
    rintro s X Y row ⟨h1, h2, h3⟩ hg hr
    exact ⟨h1, h2.grown hg (by rw [HZ.out]; have := HL2.out; omega) (fun r e => (hr r e).1), Nat.le_trans h3 hg.size⟩
  case hIx =>
    rintro c2 s X Y row ⟨rfl, h1, dn, h2⟩ hg hr
    exact ⟨rfl, h1, dn, h2.grown hg (by rw [HZ.out]; have := HL2.out; omega) (fun r e => (hr r e).1)⟩
  case hAx =>
    rintro x a' s X Y row h hg hr
    exact h
  case hseq =>
    intro l2 J Jx W hW hJ hJx hY h0
    refine (chunk1_in 2 (by omega) l2 w2.heap.size (w2.heap.size + 1) W.heap.size ad m xl.length c HLL.out HM.out HC.out (fun k => k = w2.heap.size ∨ k = w2.heap.size + 1) (.inl rfl) (.inr rfl)
      (fun pre W => ∃ pre' : List { j : Nat // j < m }, pre'.map Subtype.val = pre ∧ J pre' W) (fun pre W => ∃ pre' : List { j : Nat // j < m }, pre'.map Subtype.val = pre ∧ Jx pre' W)
      (fun s X Y row ⟨pre', e, h⟩ hg hr => ⟨pre', e, hJ _ _ _ row h hg hr⟩) ?_ W (blk_below HS.out hW) (blk_below HN.out hW) ⟨[], rfl, h0⟩).mono ?_
    · rintro j W1 ⟨pre', e1, hj⟩ hlt
      have hpl : pre'.length = j := by have := congrArg List.length e1; simpa using this
      obtain ⟨fn, tmps, asg, bd, hy, hR⟩ := hY pre' ⟨j, hlt⟩ W1 hj (by omega)
      refine ⟨fn, tmps, asg, bd, hy, hR.mono ?_⟩
      rintro e W2 (⟨rfl, h1, h2⟩ | ⟨rfl, h1⟩)
      · exact .inl ⟨rfl, ⟨_, by rw [List.map_append, e1, List.range_succ]; rfl, h1⟩, h2⟩
      · exact .inr ⟨rfl, ⟨_, by rw [List.map_append, e1, List.range_succ]; rfl, h1⟩⟩
    · rintro e W2 ⟨hv, ⟨ys', e1, h1⟩ | ⟨j, hj, pre', e1, h1⟩⟩
      · exact ⟨hv, .inl ⟨ys', e1, h1⟩⟩
      · exact ⟨hv, .inr ⟨pre', trivial, h1⟩⟩
  case assign =>
    rintro l2 pre x W K hI hK
    gi_wp2
    exact hK _ _ (KeepsFrom.refl _ _) (fun k hk => rfl) hI rfl
  case body =>
    rintro l2 pre ⟨j, hj⟩ a' Wb hl2 - ⟨hok, hP, hz⟩ rfl hlen
    have hjl : 2 * j + 1 < xl.length := by have := HLL.out; omega
    obtain ⟨na, ha⟩ : ∃ na, na = xl.getD (2 * j) zeroN := ⟨_, rfl⟩
    obtain ⟨nb, hb⟩ : ∃ nb, nb = xl.getD (2 * j + 1) zeroN := ⟨_, rfl⟩
    obtain ⟨ap, hap⟩ : ∃ ap, ap = ad.add (2 * j * 3) := ⟨_, rfl⟩
    have hka : NodeK wd na := HKN.out _ (by rw [ha]; have h1 : xl.getD (2 * j) zeroN = xl[2 * j]'(by omega) := (by simp [List.getD_eq_getElem?_getD, show 2 * j < xl.length by omega]); rw [h1]; exact List.getElem_mem _)
    have hkb : NodeK wd nb := HKN.out _ (by rw [hb]; have h1 : xl.getD (2 * j + 1) zeroN = xl[2 * j + 1] := (by simp [List.getD_eq_getElem?_getD, hjl]); rw [h1]; exact List.getElem_mem _)
    have htw : twoV wd xl j = joinV wd na nb := by rw [ha, hb]; rfl
    have hto : twoOk xl j ↔ valU na.f1 + valU nb.f1 < 340282366920938463463374607431768211456 := by rw [ha, hb]; rfl
    have HT := fun (V : World) (hV : Below w.heap.size w V) => two_at' (Kd.C_below HR.out hV) j hjl na nb ha hb ap hap
    have hch : chunkV ad j = .slice (some ap) 2 2 := by rw [hap]; rfl
    have HT := aM' HT
    have HKA := aM' hka
    have HKB := aM' hkb
    have HTW := aM' htw
    have HTO := aM' hto
    have HOK := aM' hok
    have HP := aM' hP
    have HZZ := aM' hz
    have HLEN := aM' hlen
    dsimp only
    rw [hch]
    clear ha hb hap hka hkb htw hto hok hP hz hlen hch hjl
    rcases hjn : joinI wd na nb with ⟨r1, r2, r3, r4⟩
    have HJN := aM' hjn
    clear hjn
    gi_wp2
    refine region_invIn (fun l a W => ∃ γ : Nat, a = ({ tmps := #[.slice (some ad) xl.length c, closV B, undef, .pointer (some ⟨b3, 0, none⟩), .pointer (some ⟨b4, 0, none⟩), .pointer (some ⟨b5, 0, none⟩), .pointer (some ⟨b6, 0, none⟩), .slice (some ap) 2 2, sel (l 11) (.pointer (some ⟨γ, 0, none⟩)) (undef), sel (l 13) (.int .i64 r4) (undef), .slice (some ad) xl.length c, .int .i64 (xl.length : Int), .int .i64 (m : Int), .slice (some ⟨bx, 0, none⟩) 0 m, .slice (some ad) xl.length c, .func (.func 133) #[] #[.pointer (some ⟨w2.heap.size, 0, none⟩), .pointer (some ⟨w2.heap.size + 1, 0, none⟩)], .slice (some ap) 2 2, sel (l 8) (.tuple #[.agg #[.string r1, .int .u64 r2, .int .u64 r3], .int .i64 r4]) (undef), sel (l 0) (closV B) (undef), sel (l 1) (.slice (some ap) 2 2) (undef), sel (l 2) (.pointer (some ap)) (undef), sel (l 3) (.agg #[.string na.f0, .int .u64 na.f1.f0, .int .u64 na.f1.f1]) (undef), sel (l 4) (.slice (some ap) 2 2) (undef), sel (l 5) (.pointer (some (ap.add 3))) (undef), sel (l 6) (.agg #[.string nb.f0, .int .u64 nb.f1.f0, .int .u64 nb.f1.f1]) (undef), sel (l 7) (.tuple #[.agg #[.string r1, .int .u64 r2, .int .u64 r3], .int .i64 r4]) (undef), sel (l 9) (.agg #[.string r1, .int .u64 r2, .int .u64 r3]) (undef), sel (l 10) (.int .i64 r4) (undef), undef, undef, undef, undef, undef, undef, undef, undef], defers := [] } : Act) ∧ Pr4 Wb W ⟨r1, ⟨r2, r3⟩⟩ l γ) 14 rfl rfl (by kernel_rfl) ?h0 ?hend ?hstep
    case h0 => exact ⟨0, rfl, below_drew (Below.refl _ _), (fun h => by cases h), (fun h => by cases h)⟩
    case hstep =>
      refine rg_cons (rg_cons (rg_cons (rg_cons (rg_cons (rg_cons (rg_cons (rg_cons (rg_cons (rg_cons (rg_cons (rg_cons (rg_cons (rg_cons (rg_nil) ?s0) ?s1) ?s2) ?s3) ?s4) ?s5) ?s6) ?s7) ?s8) ?s9) ?s10) ?s11) ?s12) ?s13
      case s0 =>
        refine rgi_step rfl ?_
        rintro l a W ⟨γ, rfl, hI⟩ hl hd
        clear hd
        have x0 := blk_cell ((HP.out.below hI.hB).h3) 0
        simp at x0
        refine rgi_val (v := closV B) (w' := W) (fun _ => trivial) rfl (fun _ h => by cases h) (by go_simp) ?_
        refine ⟨γ, ?_, ?_⟩
        · simp only [Act.put, List.setIfInBounds_toArray, List.set_cons_zero, List.set_cons_succ]; rfl
        · exact hI.other _ (by decide) (by decide) (Below.refl _ _)
      case s1 =>
        refine rgi_step rfl ?_
        rintro l a W ⟨γ, rfl, hI⟩ hl hd
        clear hd
        refine rgi_val (v := .slice (some ap) 2 2) (w' := W) (fun _ => trivial) rfl (fun _ h => by cases h) (by go_simp) ?_
        refine ⟨γ, ?_, ?_⟩
        · simp only [Act.put, List.setIfInBounds_toArray, List.set_cons_zero, List.set_cons_succ]; rfl
        · exact hI.other _ (by decide) (by decide) (Below.refl _ _)
      case s2 =>
        refine rgi_step rfl ?_
        rintro l a W ⟨γ, rfl, hI⟩ hl hd
        have d1 := hd 1 (by decide)
        clear hd
        refine rgi_val (v := .pointer (some ap)) (w' := W) (fun _ => trivial) rfl (fun _ h => by cases h) (by go_simp) ?_
        refine ⟨γ, ?_, ?_⟩
        · simp only [Act.put, List.setIfInBounds_toArray, List.set_cons_zero, List.set_cons_succ]; rfl
        · exact hI.other _ (by decide) (by decide) (Below.refl _ _)
      case s3 =>
        refine rgi_step rfl ?_
        rintro l a W ⟨γ, rfl, hI⟩ hl hd
        have d2 := hd 2 (by decide)
        clear hd
        obtain ⟨⟨x0, x1, x2⟩, y0, y1, y2⟩ := HT.out W (HP.out.hB.trans (hI.hB.mono HP.out.hB.size))
        refine rgi_val (v := .agg #[.string na.f0, .int .u64 na.f1.f0, .int .u64 na.f1.f1]) (w' := W) (fun _ => trivial) rfl (fun _ h => by cases h) (by go_simp) ?_
        refine ⟨γ, ?_, ?_⟩
        · simp only [Act.put, List.setIfInBounds_toArray, List.set_cons_zero, List.set_cons_succ]; rfl
        · exact hI.other _ (by decide) (by decide) (Below.refl _ _)
      case s4 =>
        refine rgi_step rfl ?_
        rintro l a W ⟨γ, rfl, hI⟩ hl hd
        clear hd
        refine rgi_val (v := .slice (some ap) 2 2) (w' := W) (fun _ => trivial) rfl (fun _ h => by cases h) (by go_simp) ?_
        refine ⟨γ, ?_, ?_⟩
        · simp only [Act.put, List.setIfInBounds_toArray, List.set_cons_zero, List.set_cons_succ]; rfl
        · exact hI.other _ (by decide) (by decide) (Below.refl _ _)
      case s5 =>
        refine rgi_step rfl ?_
        rintro l a W ⟨γ, rfl, hI⟩ hl hd
        have d4 := hd 4 (by decide)
        clear hd
        refine rgi_val (v := .pointer (some (ap.add 3))) (w' := W) (fun _ => trivial) rfl (fun _ h => by cases h) (by go_simp) ?_
        refine ⟨γ, ?_, ?_⟩
        · simp only [Act.put, List.setIfInBounds_toArray, List.set_cons_zero, List.set_cons_succ]; rfl
        · exact hI.other _ (by decide) (by decide) (Below.refl _ _)
      case s6 =>
        refine rgi_step rfl ?_
        rintro l a W ⟨γ, rfl, hI⟩ hl hd
        have d5 := hd 5 (by decide)
        clear hd
        obtain ⟨⟨x0, x1, x2⟩, y0, y1, y2⟩ := HT.out W (HP.out.hB.trans (hI.hB.mono HP.out.hB.size))
        refine rgi_val (v := .agg #[.string nb.f0, .int .u64 nb.f1.f0, .int .u64 nb.f1.f1]) (w' := W) (fun _ => trivial) rfl (fun _ h => by cases h) (by go_simp) ?_
        refine ⟨γ, ?_, ?_⟩
        · simp only [Act.put, List.setIfInBounds_toArray, List.set_cons_zero, List.set_cons_succ]; rfl
        · exact hI.other _ (by decide) (by decide) (Below.refl _ _)
      case s7 =>
        refine rgi_step rfl ?_
        rintro l a W ⟨γ, rfl, hI⟩ hl hd
        have d0 := hd 0 (by decide)
        have d3 := hd 3 (by decide)
        have d6 := hd 6 (by decide)
        clear hd
        refine rgi_call (fun _ => trivial) rfl rfl (fun _ h => by cases h) (by go_simp; exact ⟨rfl, rfl⟩) ?_
        refine (CallsIn.inRound l2 (callsIn_wide.2 (fold1.calls wd B na nb W (blk_below HBX.out (HP.out.hB.trans (hI.hB.mono HP.out.hB.size))) (HK.out.below (HP.out.hB.trans (hI.hB.mono HP.out.hB.size))) HKA.out.u HKB.out.u))).mono ?_
        rintro x W' ⟨rfl, hb⟩
        rw [HJN.out]
        refine ⟨_, rfl, γ, ?_, ?_⟩
        · simp only [Act.put, List.setIfInBounds_toArray, List.set_cons_zero, List.set_cons_succ]; rfl
        · exact hI.other 7 (by decide) (by decide) hb
      case s8 =>
        refine rgi_step rfl ?_
        rintro l a W ⟨γ, rfl, hI⟩ hl hd
        have d7 := hd 7 (by decide)
        clear hd
        refine rgi_val (v := .tuple #[.agg #[.string r1, .int .u64 r2, .int .u64 r3], .int .i64 r4]) (w' := W) (fun _ => trivial) rfl (fun _ h => by cases h) (by go_simp) ?_
        refine ⟨γ, ?_, ?_⟩
        · simp only [Act.put, List.setIfInBounds_toArray, List.set_cons_zero, List.set_cons_succ]; rfl
        · exact hI.other _ (by decide) (by decide) (Below.refl _ _)
      case s9 =>
        refine rgi_step rfl ?_
        rintro l a W ⟨γ, rfl, hI⟩ hl hd
        have d8 := hd 8 (by decide)
        clear hd
        refine rgi_val (v := .agg #[.string r1, .int .u64 r2, .int .u64 r3]) (w' := W) (fun _ => trivial) rfl (fun _ h => by cases h) (by go_simp) ?_
        refine ⟨γ, ?_, ?_⟩
        · simp only [Act.put, List.setIfInBounds_toArray, List.set_cons_zero, List.set_cons_succ]; rfl
        · exact hI.other _ (by decide) (by decide) (Below.refl _ _)
      case s10 =>
        refine rgi_step rfl ?_
        rintro l a W ⟨γ, rfl, hI⟩ hl hd
        have d8 := hd 8 (by decide)
        clear hd
        refine rgi_val (v := .int .i64 r4) (w' := W) (fun _ => trivial) rfl (fun _ h => by cases h) (by go_simp) ?_
        refine ⟨γ, ?_, ?_⟩
        · simp only [Act.put, List.setIfInBounds_toArray, List.set_cons_zero, List.set_cons_succ]; rfl
        · exact hI.other _ (by decide) (by decide) (Below.refl _ _)
      case s11 =>
        refine rgi_step rfl ?_
        rintro l a W ⟨γ, rfl, hI⟩ hl hd
        clear hd
        refine rgi_val (v := .pointer (some ⟨W.heap.size, 0, none⟩)) (w' := W.alloc (.cells #[.string ⟨#[]⟩, .int .u64 0, .int .u64 0] 28 (0, 0))) (fun _ => trivial) rfl (fun _ h => by cases h) (by go_simp) ?_
        refine ⟨W.heap.size, ?_, ?_⟩
        · simp only [Act.put, List.setIfInBounds_toArray, List.set_cons_zero, List.set_cons_succ]; rfl
        · exact hI.alloc hl
      case s12 =>
        refine rgi_step rfl ?_
        rintro l a W ⟨γ, rfl, hI⟩ hl hd
        have d11 := hd 11 (by decide)
        have d9 := hd 9 (by decide)
        clear hd
        have hg := (hI.hg d11).2
        rw [show l 12 = false from hl, if_neg (by decide)] at hg
        have y0 := blk_cell hg 0
        have y1 := blk_cell hg 1
        have y2 := blk_cell hg 2
        have yf := fun i => blk_frozen hg i
        simp at y0 y1 y2
        refine rgi_skip (fun _ => trivial) rfl (fun _ h => by cases h) (by go_simp; rfl) ?_
        refine ⟨γ, ?_, ?_⟩
        · simp only [Act.put, List.setIfInBounds_toArray, List.set_cons_zero, List.set_cons_succ]; rfl
        · exact hI.store d11 hl
      case s13 =>
        refine rgi_step rfl ?_
        rintro l a W ⟨γ, rfl, hI⟩ hl hd
        have d10 := hd 10 (by decide)
        clear hd
        refine rgi_val (v := .int .i64 r4) (w' := W) (fun _ => trivial) rfl (fun _ h => by cases h) (by go_simp) ?_
        refine ⟨γ, ?_, ?_⟩
        · simp only [Act.put, List.setIfInBounds_toArray, List.set_cons_zero, List.set_cons_succ]; rfl
        · exact hI.other _ (by decide) (by decide) (Below.refl _ _)
    case hend =>
      rintro l a W ⟨γ, rfl, hI⟩ hall
      have e0 := hall 0 (by decide)
      have e1 := hall 1 (by decide)
      have e2 := hall 2 (by decide)
      have e3 := hall 3 (by decide)
      have e4 := hall 4 (by decide)
      have e5 := hall 5 (by decide)
      have e6 := hall 6 (by decide)
      have e7 := hall 7 (by decide)
      have e8 := hall 8 (by decide)
      have e9 := hall 9 (by decide)
      have e10 := hall 10 (by decide)
      have e11 := hall 11 (by decide)
      have e12 := hall 12 (by decide)
      have e13 := hall 13 (by decide)
      clear hall
      have hD := hI.hg e11
      rw [if_pos e12] at hD
      obtain ⟨hγ, hγc⟩ := hD
      have hBb := hI.hB
      have hP5 := HP.out.below hBb
      have HBb := aM' hBb
      have HP5 := aM' hP5
      have HG := aM' hγ
      have HGC := aM' hγc
      clear hI hγ hγc hBb hP5 HP
      simp only [e0, e1, e2, e3, e4, e5, e6, e7, e8, e9, e10, e11, e12, e13, sel_true]
      clear e0 e1 e2 e3 e4 e5 e6 e7 e8 e9 e10 e11 e12 e13
      obtain ⟨dn, hdn⟩ : ∃ dn, (pre.map fun x => twoV wd xl x.1) = dn := ⟨_, rfl⟩
      rw [hdn] at HP5
      have hdl : dn.length = pre.length := by rw [← hdn]; simp
      have HDN := aM' hdn
      have HDL := aM' hdl
      have hnx := HP5.out.nx
      have hn6 := HP5.out.n6
      have hn4 := HP5.out.n4
      have hn5 := HP5.out.n5
      have hlt := HP5.out.lt
      have hl2 := HL2.out
      have hbz := HBb.out.size
      have hzz := HZZ.out
      have hz2 := HZ.out
      have hfar : ∀ k, (k = w2.heap.size ∨ k = w2.heap.size + 1) → k < Wb.heap.size ∧ k ≠ bx ∧ k ≠ b6 ∧ k ≠ b4 ∧ k ≠ b5 := by rintro k (rfl | rfl) <;> omega
      have HFAR := aM' hfar
      have HNX := aM' (show bx < w3.heap.size ∧ b6 < w3.heap.size ∧ b4 < w3.heap.size ∧ b5 < w3.heap.size ∧ bx < W.heap.size ∧ b6 < W.heap.size ∧ b6 ≠ bx from ⟨by omega, by omega, by omega, by omega, by omega, by omega, by omega⟩)
      have y6 : W.cell? ⟨b6, 0, none⟩ = some (.slice (some ⟨bx, 0, none⟩) dn.length m) := blk_cell HP5.out.h6 0
      have y0 : W.cell? ⟨γ, 0, none⟩ = some (.string r1) := blk_cell HGC.out 0
      have y1 : W.cell? ⟨γ, 1, none⟩ = some (.int .u64 r2) := blk_cell HGC.out 1
      have y2 : W.cell? ⟨γ, 2, none⟩ = some (.int .u64 r3) := blk_cell HGC.out 2
      clear hnx hn6 hn4 hn5 hlt hl2 hbz hzz hz2 hfar hdn hdl
      by_cases h0 : r4 = 0
      · subst h0
        have hroom : valU na.f1 + valU nb.f1 < 340282366920938463463374607431768211456 := by
          rcases Int.lt_or_le (valU na.f1 + valU nb.f1) 340282366920938463463374607431768211456 with h | h
          · exact h
          · have := joinI_full HKA.out HKB.out (by omega)
            rw [HJN.out] at this
            simp at this
        have hjv : (⟨r1, ⟨r2, r3⟩⟩ : SNode) = joinV wd na nb := by
          have := joinI_room HKA.out HKB.out hroom
          rw [HJN.out] at this
          simp only [Prod.mk.injEq] at this
          obtain ⟨e1, e2, e3, -⟩ := this
          rw [e1, e2, e3]
        have HRM := aM' hroom
        have HJV := aM' hjv
        clear hroom hjv
        gi_upto_region 7 with (fail)
        refine wpIn_region_list ?_
        refine li_val (v := .slice (some ⟨bx, 0, none⟩) dn.length m) (w' := W) rfl (fun _ => trivial) (fun _ h => by cases h) (by go_simp; done) ?_
        refine li_val (v := .agg #[.string r1, .int .u64 r2, .int .u64 r3]) (w' := W) rfl (fun _ => trivial) (fun _ h => by cases h) (by go_simp; done) ?_
        refine li_val (v := .slice (some ⟨W.heap.size, 0, none⟩) 1 1) (w' := W.alloc (.cells #[.string r1, .int .u64 r2, .int .u64 r3] 28 (0, 0))) rfl (fun _ => trivial) (fun _ h => by cases h) (by go_simp; done) ?_
        refine wpListIn_append_fits _ rfl _ _ 22 rfl w.heap.size 28 i0 3 Tryd.underlying22 hi hz1 bx dn.length m (cellsN dn) rfl ?own ⟨W.heap.size, 0, none⟩ 1 1 [.string r1, .int .u64 r2, .int .u64 r3] rfl rfl ?cells ?one ?room ?_
        (case own => exact own_keep HP5.out.own (Below.heap_alloc _ _ _ HNX.out.2.2.2.2.1))
        (case cells => exact World.news_of_block (blk_new W _))
        (case one => intro u hu; simp at hu; rcases hu with rfl | rfl | rfl <;> rfl)
        (case room => have h1 := HLEN.out; have h2 := HDL.out; omega)
        intro w7 hown hgr
        have HOWN := aM' hown
        have HGR := aM' hgr
        have hz6 := (hgr.block b6 (by rw [World.size_alloc]; exact Nat.lt_succ_of_lt HNX.out.2.2.2.2.2.1) (fun e => HNX.out.2.2.2.2.2.2 (Option.some.inj e))).trans (blk_alloc HP5.out.h6 _)
        have z6 : w7.cell? ⟨b6, 0, none⟩ = some (.slice (some ⟨bx, 0, none⟩) dn.length m) := blk_cell hz6 0
        have zf : ∀ i, w7.frozen? ⟨b6, i, none⟩ = false := fun i => blk_frozen hz6 i
        clear hown hgr hz6
        refine li_skip (w' := w7.setCell ⟨b6, 0, none⟩ (.slice (some ⟨bx, 0, none⟩) (dn.length + 1) m)) rfl (fun _ => trivial) (fun _ h => by cases h) (by go_simp; first | done | rfl) ?_
        gi_wp2
        have hend := bar_trans (bar_alloc (bar_below HBb.out bx) (.cells #[.string r1, .int .u64 r2, .int .u64 r3] 28)) HGR.out
        refine ⟨(KeepsFrom.of_grownBy hend (fun j e => by have := Option.some.inj e; have := HNX.out; omega)).trans (KeepsFrom.of_grownBy (grownBy_setCell' _ b6 _) (fun j e => by have := Option.some.inj e; have := HNX.out; omega)), ?_, ?_, ?_, ?_⟩
        · intro k hk
          have hf := HFAR.out k hk
          exact (Below.heap_setCell _ _ _ _ hf.2.2.1).trans (hend.block k hf.1 (fun e => hf.2.1 (Option.some.inj e)))
        · intro y hy
          rcases List.mem_append.1 hy with hy | hy
          · exact HOK.out y hy
          · obtain rfl := List.mem_singleton.1 hy
            exact HTO.out.2 HRM.out
        · have hm := (HP5.out.below (below_alloc (Below.refl _ _) (.cells #[.string r1, .int .u64 r2, .int .u64 r3] 28))).more ⟨r1, ⟨r2, r3⟩⟩ HGR.out HOWN.out
          rw [List.map_append, HDN.out]
          have hx : (List.map (fun x : { j : Nat // j < m } => twoV wd xl x.1) [⟨j, hj⟩]) = [⟨r1, ⟨r2, r3⟩⟩] := by rw [HJV.out, ← HTW.out]; rfl
          rw [hx]
          exact hm
        · exact Nat.le_trans HZZ.out (Nat.le_trans hend.size (by simp))
      · have b1 : (r4 != 0) = true := by simp [h0]
        have hroom : ¬ valU na.f1 + valU nb.f1 < 340282366920938463463374607431768211456 := fun h => by
          have := joinI_room HKA.out HKB.out h
          rw [HJN.out] at this
          simp only [Prod.mk.injEq] at this
          exact h0 this.2.2.2
        have h10 : r4 = 10 := by
          have := joinI_full HKA.out HKB.out hroom
          rw [HJN.out] at this
          simp only [Prod.mk.injEq] at this
          exact this.2.2.2
        have HRM := aM' hroom
        clear hroom
        have y4 : W.cell? ⟨b4, 0, none⟩ = some (.slice none 0 0) := blk_cell HP5.out.h4 0
        have f4 : ∀ i, W.frozen? ⟨b4, i, none⟩ = false := fun i => blk_frozen HP5.out.h4 i
        have y5 : W.cell? ⟨b5, 0, none⟩ = some (.int .i64 0) := blk_cell HP5.out.h5 0
        have f5 : ∀ i, W.frozen? ⟨b5, i, none⟩ = false := fun i => blk_frozen HP5.out.h5 i
        have n45 : b5 ≠ b4 := by have h1 := HP5.out.n4; have h2 := HP5.out.n5; omega
        gi_wp2
        refine ⟨(KeepsFrom.of_grownBy (bar_set (bar_below HBb.out b4) (a := ⟨b4, 0, none⟩) (.inl rfl)) (fun j e => by have := Option.some.inj e; have := HNX.out; omega)).trans (KeepsFrom.of_grownBy (grownBy_setCell' _ b5 _) (fun j e => by have := Option.some.inj e; have := HNX.out; omega)), rfl, ⟨j, ⟨hj, by simp⟩, fun h => absurd (HTO.out.1 h) (by have := HRM.out; omega)⟩, dn, by first | exact HP5.out.put _ 10 | (rw [h10]; exact HP5.out.put _ 10)⟩
  case done =>
    rintro D xs W hD hxs ⟨hok, hP, hz⟩ hdf
    have hdn : (xs.map fun x => twoV wd xl x.1) = pairsV wd xl := by
      rw [pairsV_range wd m xl HLL.out, ← hxs, List.map_map]; rfl
    have hpo : pairsOk xl = true := (pairsOk_range m xl HLL.out).2 (fun j hj => by
      have h1 : j ∈ xs.map Subtype.val := by rw [hxs]; exact List.mem_range.2 hj
      obtain ⟨x, hx, rfl⟩ := List.mem_map.1 h1
      exact hok x hx)
    rw [hdn] at hP
    have hlen : (pairsV wd xl).length = m := pairsV_len wd m xl HLL.out
    obtain ⟨dn, hdd⟩ : ∃ dn, pairsV wd xl = dn := ⟨_, rfl⟩
    rw [hdd] at hP hlen
    have HDD := aM' hdd
    clear hdd
    have y6 : W.cell? ⟨b6, 0, none⟩ = some (.slice (some ⟨bx, 0, none⟩) dn.length m) := blk_cell hP.h6 0
    have y4 : W.cell? ⟨b4, 0, none⟩ = some (.slice none 0 0) := blk_cell hP.h4 0
    have f4 : ∀ i, W.frozen? ⟨b4, i, none⟩ = false := fun i => blk_frozen hP.h4 i
    have y5 : W.cell? ⟨b5, 0, none⟩ = some (.int .i64 0) := blk_cell hP.h5 0
    have f5 : ∀ i, W.frozen? ⟨b5, i, none⟩ = false := fun i => blk_frozen hP.h5 i
    have h4 := hP.n4
    have h5 := hP.n5
    have n45 : b5 ≠ b4 := by omega
    have hDn : w.heap.size + 4 < D := by have := HZ.out; have := HL2.out; omega
    have HP := aM' hP
    have HDF := aM' hdf
    have HPO := aM' hpo
    have HLEN := aM' hlen
    have HDN := aM' hDn
    have H45 := aM' (show D ≠ b4 ∧ D ≠ b5 from ⟨by omega, by omega⟩)
    clear hok hP hz hdf hdn hpo hxs hD hlen h4 h5 hDn
    gi_wp2
    refine pairs_retD (HP.out.put (.slice (some ⟨bx, 0, none⟩) dn.length m) 0) HDN.out ((Below.heap_setCell _ _ _ _ H45.out.2).trans ((Below.heap_setCell _ _ _ _ H45.out.1).trans HDF.out)) rfl rfl (fun W' h => ⟨h.hB, .inl ⟨HPO.out, bx, m, ?_, Nat.le_refl _, ?_⟩⟩)
    · rw [HLEN.out]
    · have := (ownNodes_C h.own).2.2
      rw [HLEN.out] at this
      rw [HDD.out]
      exact this
  case stop =>
    rintro D c2 pre W hD - ⟨rfl, ⟨x, hx, hno⟩, dn, hP⟩ hdf
    have hpo : pairsOk xl = false := by
      cases h : pairsOk xl with
      | false => rfl
      | true => exact absurd ((pairsOk_range m xl HLL.out).1 h x.1 x.2) hno
    have hDn : w.heap.size + 4 < D := by have := HZ.out; have := HL2.out; omega
    have HP := aM' hP
    have HDF := aM' hdf
    have HPO := aM' hpo
    have HDN := aM' hDn
    clear hno hP hdf hpo hDn
    gi_wp2
    exact pairs_retD HP.out HDN.out HDF.out rfl rfl (fun W' h => ⟨h.hB, .inr ⟨HPO.out, rfl⟩⟩)
end Go.Proofs.YtijfifphcchbbaaDoor.P
namespace Go.Proofs.YtijfifphcchbbaaDoor.P
open Go.RowKit Go.Proofs.YtijfifphcchbbaaDoorW.PrintWords Go.Proofs.YtijfifphcchbbaaDoorW.PrintLast Go.Proofs.YtijfifphcchbbaaDoorW.PrintMore
set_option linter.unusedVariables false
set_option linter.unusedSimpArgs false
set_option linter.unnecessarySimpa false
def onesI (a0 : Int) : Int := (Go.bits .and .i64 (wrap64 (IntKind.u64.wrap ((IntKind.u64.wrap ((IntKind.u64.wrap ((Go.bits .and .u64 (IntKind.u64.wrap (((IntKind.u64.wrap ((Go.bits .and .u64 ((IntKind.u64.wrap ((Go.bits .and .u64 (a0 / 2) 6148914691236517205) + (Go.bits .and .u64 a0 6148914691236517205))) / 4) 3689348814741910323) + (Go.bits .and .u64 (IntKind.u64.wrap ((Go.bits .and .u64 (a0 / 2) 6148914691236517205) + (Go.bits .and .u64 a0 6148914691236517205))) 3689348814741910323))) / 16) + (IntKind.u64.wrap ((Go.bits .and .u64 ((IntKind.u64.wrap ((Go.bits .and .u64 (a0 / 2) 6148914691236517205) + (Go.bits .and .u64 a0 6148914691236517205))) / 4) 3689348814741910323) + (Go.bits .and .u64 (IntKind.u64.wrap ((Go.bits .and .u64 (a0 / 2) 6148914691236517205) + (Go.bits .and .u64 a0 6148914691236517205))) 3689348814741910323))))) 1085102592571150095) + ((Go.bits .and .u64 (IntKind.u64.wrap (((IntKind.u64.wrap ((Go.bits .and .u64 ((IntKind.u64.wrap ((Go.bits .and .u64 (a0 / 2) 6148914691236517205) + (Go.bits .and .u64 a0 6148914691236517205))) / 4) 3689348814741910323) + (Go.bits .and .u64 (IntKind.u64.wrap ((Go.bits .and .u64 (a0 / 2) 6148914691236517205) + (Go.bits .and .u64 a0 6148914691236517205))) 3689348814741910323))) / 16) + (IntKind.u64.wrap ((Go.bits .and .u64 ((IntKind.u64.wrap ((Go.bits .and .u64 (a0 / 2) 6148914691236517205) + (Go.bits .and .u64 a0 6148914691236517205))) / 4) 3689348814741910323) + (Go.bits .and .u64 (IntKind.u64.wrap ((Go.bits .and .u64 (a0 / 2) 6148914691236517205) + (Go.bits .and .u64 a0 6148914691236517205))) 3689348814741910323))))) 1085102592571150095) / 256))) + ((IntKind.u64.wrap ((Go.bits .and .u64 (IntKind.u64.wrap (((IntKind.u64.wrap ((Go.bits .and .u64 ((IntKind.u64.wrap ((Go.bits .and .u64 (a0 / 2) 6148914691236517205) + (Go.bits .and .u64 a0 6148914691236517205))) / 4) 3689348814741910323) + (Go.bits .and .u64 (IntKind.u64.wrap ((Go.bits .and .u64 (a0 / 2) 6148914691236517205) + (Go.bits .and .u64 a0 6148914691236517205))) 3689348814741910323))) / 16) + (IntKind.u64.wrap ((Go.bits .and .u64 ((IntKind.u64.wrap ((Go.bits .and .u64 (a0 / 2) 6148914691236517205) + (Go.bits .and .u64 a0 6148914691236517205))) / 4) 3689348814741910323) + (Go.bits .and .u64 (IntKind.u64.wrap ((Go.bits .and .u64 (a0 / 2) 6148914691236517205) + (Go.bits .and .u64 a0 6148914691236517205))) 3689348814741910323))))) 1085102592571150095) + ((Go.bits .and .u64 (IntKind.u64.wrap (((IntKind.u64.wrap ((Go.bits .and .u64 ((IntKind.u64.wrap ((Go.bits .and .u64 (a0 / 2) 6148914691236517205) + (Go.bits .and .u64 a0 6148914691236517205))) / 4) 3689348814741910323) + (Go.bits .and .u64 (IntKind.u64.wrap ((Go.bits .and .u64 (a0 / 2) 6148914691236517205) + (Go.bits .and .u64 a0 6148914691236517205))) 3689348814741910323))) / 16) + (IntKind.u64.wrap ((Go.bits .and .u64 ((IntKind.u64.wrap ((Go.bits .and .u64 (a0 / 2) 6148914691236517205) + (Go.bits .and .u64 a0 6148914691236517205))) / 4) 3689348814741910323) + (Go.bits .and .u64 (IntKind.u64.wrap ((Go.bits .and .u64 (a0 / 2) 6148914691236517205) + (Go.bits .and .u64 a0 6148914691236517205))) 3689348814741910323))))) 1085102592571150095) / 256))) / 65536))) + ((IntKind.u64.wrap ((IntKind.u64.wrap ((Go.bits .and .u64 (IntKind.u64.wrap (((IntKind.u64.wrap ((Go.bits .and .u64 ((IntKind.u64.wrap ((Go.bits .and .u64 (a0 / 2) 6148914691236517205) + (Go.bits .and .u64 a0 6148914691236517205))) / 4) 3689348814741910323) + (Go.bits .and .u64 (IntKind.u64.wrap ((Go.bits .and .u64 (a0 / 2) 6148914691236517205) + (Go.bits .and .u64 a0 6148914691236517205))) 3689348814741910323))) / 16) + (IntKind.u64.wrap ((Go.bits .and .u64 ((IntKind.u64.wrap ((Go.bits .and .u64 (a0 / 2) 6148914691236517205) + (Go.bits .and .u64 a0 6148914691236517205))) / 4) 3689348814741910323) + (Go.bits .and .u64 (IntKind.u64.wrap ((Go.bits .and .u64 (a0 / 2) 6148914691236517205) + (Go.bits .and .u64 a0 6148914691236517205))) 3689348814741910323))))) 1085102592571150095) + ((Go.bits .and .u64 (IntKind.u64.wrap (((IntKind.u64.wrap ((Go.bits .and .u64 ((IntKind.u64.wrap ((Go.bits .and .u64 (a0 / 2) 6148914691236517205) + (Go.bits .and .u64 a0 6148914691236517205))) / 4) 3689348814741910323) + (Go.bits .and .u64 (IntKind.u64.wrap ((Go.bits .and .u64 (a0 / 2) 6148914691236517205) + (Go.bits .and .u64 a0 6148914691236517205))) 3689348814741910323))) / 16) + (IntKind.u64.wrap ((Go.bits .and .u64 ((IntKind.u64.wrap ((Go.bits .and .u64 (a0 / 2) 6148914691236517205) + (Go.bits .and .u64 a0 6148914691236517205))) / 4) 3689348814741910323) + (Go.bits .and .u64 (IntKind.u64.wrap ((Go.bits .and .u64 (a0 / 2) 6148914691236517205) + (Go.bits .and .u64 a0 6148914691236517205))) 3689348814741910323))))) 1085102592571150095) / 256))) + ((IntKind.u64.wrap ((Go.bits .and .u64 (IntKind.u64.wrap (((IntKind.u64.wrap ((Go.bits .and .u64 ((IntKind.u64.wrap ((Go.bits .and .u64 (a0 / 2) 6148914691236517205) + (Go.bits .and .u64 a0 6148914691236517205))) / 4) 3689348814741910323) + (Go.bits .and .u64 (IntKind.u64.wrap ((Go.bits .and .u64 (a0 / 2) 6148914691236517205) + (Go.bits .and .u64 a0 6148914691236517205))) 3689348814741910323))) / 16) + (IntKind.u64.wrap ((Go.bits .and .u64 ((IntKind.u64.wrap ((Go.bits .and .u64 (a0 / 2) 6148914691236517205) + (Go.bits .and .u64 a0 6148914691236517205))) / 4) 3689348814741910323) + (Go.bits .and .u64 (IntKind.u64.wrap ((Go.bits .and .u64 (a0 / 2) 6148914691236517205) + (Go.bits .and .u64 a0 6148914691236517205))) 3689348814741910323))))) 1085102592571150095) + ((Go.bits .and .u64 (IntKind.u64.wrap (((IntKind.u64.wrap ((Go.bits .and .u64 ((IntKind.u64.wrap ((Go.bits .and .u64 (a0 / 2) 6148914691236517205) + (Go.bits .and .u64 a0 6148914691236517205))) / 4) 3689348814741910323) + (Go.bits .and .u64 (IntKind.u64.wrap ((Go.bits .and .u64 (a0 / 2) 6148914691236517205) + (Go.bits .and .u64 a0 6148914691236517205))) 3689348814741910323))) / 16) + (IntKind.u64.wrap ((Go.bits .and .u64 ((IntKind.u64.wrap ((Go.bits .and .u64 (a0 / 2) 6148914691236517205) + (Go.bits .and .u64 a0 6148914691236517205))) / 4) 3689348814741910323) + (Go.bits .and .u64 (IntKind.u64.wrap ((Go.bits .and .u64 (a0 / 2) 6148914691236517205) + (Go.bits .and .u64 a0 6148914691236517205))) 3689348814741910323))))) 1085102592571150095) / 256))) / 65536))) / 4294967296)))) 127)
set_option maxHeartbeats 8000000 in
set_option maxRecDepth 100000 in
theorem ones64.calls (a0 : Int) (w : World) : Calls Tryd.prog 100 #[.int .u64 a0] w fun e w' => e = .returned (.int .i64 (onesI a0)) ∧ Drawn0 w w' := by
 unfold onesI
 go_enter Tryd.func100, Tryd.ntmps100
 go_wp2
 go_ret
 exact ⟨by first | rfl | (simp; done) | (simp [*]; done), by repeat (first | exact Drawn0.refl _ | apply Drawn0.step)⟩
theorem ones.calls (a0 : Int) (w : World) : Calls Tryd.prog 56 #[.int .u64 a0] w fun e w' => e = .returned (.int .i64 (onesI a0)) ∧ Drawn0 w w' := by
 obtain ⟨r, hr⟩ : ∃ r, onesI a0 = r := ⟨_, rfl⟩
 rw [hr]
 go_enter Tryd.func56, Tryd.ntmps56
 go_wp2_with fail
 refine (ones64.calls a0 _).mono ?_
 rw [hr]
 rintro e w1 ⟨rfl, hb⟩
 go_wp2
 go_ret
 exact ⟨rfl, hb⟩
theorem ones_all : ∀ n ∈ List.range 301, (onesI (n : Int) != 1) = !isPow n := by decide +kernel
theorem ones_pow (n : Nat) (h : n ≤ 300) : (onesI (n : Int) != 1) = !isPow n := ones_all n (List.mem_range.2 (by omega))
end Go.Proofs.YtijfifphcchbbaaDoor.P
namespace Go.Proofs.YtijfifphcchbbaaDoor.P
open Go.RowKit Go.Proofs.YtijfifphcchbbaaDoorW.PrintWords Go.Proofs.YtijfifphcchbbaaDoorW.PrintLast Go.Proofs.YtijfifphcchbbaaDoorW.PrintMore
set_option linter.unusedVariables false
set_option linter.unusedSimpArgs false
set_option linter.unnecessarySimpa false
theorem refAll_loop (w : Int) (l : List SNode) (hl : l.length ≤ 9223372036854775807) : ∀ d i : Nat, i + d = l.length → Ev (fun k => paymasterref14_all.l0 k w l (i : Int)) (if (l.drop i).all (nodeOf w) then (decide (1 ≤ w) && decide (w ≤ 32)) else false) := by
 intro d
 induction d with
 | zero =>
  intro i hi
  refine Ev.step (f := fun _ => some (decide (1 ≤ w) && decide (w ≤ 32))) (fun k => ?_) (ev_eq (Ev.now _) ?_)
  ·
   simp only [paymasterref14_all.l0]; rw [if_neg (by omega)]
   by_cases h1 : w ≥ 1
   ·
    rw [if_pos h1]; have h1' : 1 ≤ w := h1; simp [h1']
   ·
    rw [if_neg h1]; have h1' : ¬ 1 ≤ w := h1; simp [h1']
  ·
   rw [List.drop_of_length_le (by omega)]; rfl
 | succ d ih =>
  intro i hi
  have hlt : i < l.length := by omega
  rw [List.drop_eq_getElem_cons hlt, List.all_cons]
  cases hb : nodeOf w l[i] with
  | false =>
   refine Ev.step (f := fun _ => some false) (fun k => ?_) (ev_eq (Ev.now false) (by simp))
   simp only [paymasterref14_all.l0]; rw [if_pos (by omega), if_pos (by omega), rdNode_nat l i hlt, ref14Of_eq, hb]; rfl
  | true =>
   refine Ev.step (f := fun k => paymasterref14_all.l0 k w l ((i + 1 : Nat) : Int)) (fun k => ?_) (ev_eq (ih (i + 1) (by omega)) (by simp))
   simp only [paymasterref14_all.l0]; rw [if_pos (by omega), if_pos (by omega), rdNode_nat l i hlt, ref14Of_eq, hb, wrap64_id (by omega) (by omega)]; rfl
theorem refAll_ev (w : Int) (l : List SNode) (hl : l.length ≤ 9223372036854775807) : Ev (fun k => paymasterref14_all.f k w l) (if l.all (nodeOf w) then (decide (1 ≤ w) && decide (w ≤ 32)) else false) := refAll_loop w l hl l.length 0 (by omega)
end Go.Proofs.YtijfifphcchbbaaDoor.P
namespace Go.Proofs.YtijfifphcchbbaaDoor.P
open Go.RowKit Go.Proofs.YtijfifphcchbbaaDoorW.PrintWords Go.Proofs.YtijfifphcchbbaaDoorW.PrintLast Go.Proofs.YtijfifphcchbbaaDoorW.PrintMore
set_option linter.unusedVariables false
set_option linter.unusedSimpArgs false
set_option linter.unnecessarySimpa false
def lenV : Value → Nat
 | .slice _ n _ => n
 | _ => 0
structure FoS (w : World) (wd : Int) (W : World) : Prop where
 h2 : W.heap[w.heap.size]? = some (.cells #[.int .i64 wd] 3 (0, 0))
 h4 : W.heap[w.heap.size + 1]? = some (.cells #[.string ⟨#[]⟩, .int .u64 0, .int .u64 0] 28 (0, 0))
 hB : Below w.heap.size w W
theorem FoS.below {w W W' : World} {wd : Int} (h : FoS w wd W) (hb : Below W.heap.size W W') : FoS w wd W' := ⟨blk_below h.h2 hb, blk_below h.h4 hb, h.hB.trans (hb.mono h.hB.size)⟩
theorem first_at {W : World} {ad : Addr} {l : List SNode} (h : Kd.C kNode W (some ad) l.length l) (h1 : l.length = 1) : W.cell? ad = some (.string (l.headD zeroN).f0) ∧ W.cell? ⟨ad.block, ad.off + 1, none⟩ = some (.int .u64 (l.headD zeroN).f1.f0) ∧ W.cell? ⟨ad.block, ad.off + 2, none⟩ = some (.int .u64 (l.headD zeroN).f1.f1) := by
 obtain ⟨a1, e1, p0, p1, p2⟩ := at_TNode h 0 (by omega) (by omega)
 cases e1
 match l, h1 with
 | [x], _ => exact ⟨p0, p1, p2⟩
set_option maxRecDepth 100000 in
set_option maxHeartbeats 4000000 in
theorem fold.calls (wd : Int) (A : Option Addr) (c : Nat) (l : List SNode) (w : World) (hK : Laid w) (hr : Kd.C kNode w A l.length l) (hc : l.length ≤ c) (h300 : l.length ≤ 300) (ul : ∀ x ∈ l, OkU x.f1) :
  Calls Tryd.prog 14 #[.int .i64 wd, .slice A l.length c] w fun e w' => e = .returned (.tuple #[nodeV (nodeJ (foldI wd l)), .int .i64 (foldI wd l).2.2.2]) ∧ Below w.heap.size w w' := by
 have hu := Tryd.underlying28
 have HR := aM' hr
 have HK := aM' hK
 have HC := aM' hc
 have H3 := aM' h300
 have UL := aM' ul
 clear hr hK hc h300 ul
 go_enter Tryd.func14, Tryd.ntmps14
 go_wp2_with fail
 have hs0 : FoS w wd ((w.alloc (.cells #[.int .i64 wd] 3)).alloc (.cells #[.string ⟨#[]⟩, .int .u64 0, .int .u64 0] 28)) :=
  ⟨blk_alloc (blk_new w _) _, by have := blk_new (w.alloc (.cells #[.int .i64 wd] 3)) (.cells #[.string ⟨#[]⟩, .int .u64 0, .int .u64 0] 28); rwa [World.size_alloc] at this, below_alloc (below_alloc (Below.refl _ _) _) _⟩
 refine (all.calls wd A c l _ (Kd.C_below HR.out hs0.hB)).mono ?_
 rintro e w1 ⟨rfl, hb⟩
 have hs1 := hs0.below hb
 have HS1 := aM' hs1
 clear hs0 hb
 have y0 : w1.cell? ⟨w.heap.size + 1, 0, none⟩ = some (.string ⟨#[]⟩) := blk_cell hs1.h4 0
 have y1 : w1.cell? ⟨w.heap.size + 1, 1, none⟩ = some (.int .u64 0) := blk_cell hs1.h4 1
 have y2 : w1.cell? ⟨w.heap.size + 1, 2, none⟩ = some (.int .u64 0) := blk_cell hs1.h4 2
 have yf : ∀ i, w1.frozen? ⟨w.heap.size + 1, i, none⟩ = false := fun i => blk_frozen hs1.h4 i
 clear hs1
 by_cases hal : 1 ≤ wd ∧ wd ≤ 32 ∧ l.all (nodeOf wd) = true
 ·
  have hb1 : (decide (1 ≤ wd) && (decide (wd ≤ 32) && l.all (nodeOf wd))) = true := by simp [hal]
  rw [hb1]
  have HAL := aM' hal
  clear hal hb1
  go_wp2_with fail
  refine (ones.calls _ _).mono ?_
  rintro e w2 ⟨rfl, ⟨⟨nd, rfl⟩⟩⟩
  have hop := ones_pow l.length H3.out
  rw [← wrapu64_id (x := (l.length : Int)) (by omega) (by have := H3.out; omega)] at hop
  generalize onesI (IntKind.u64.wrap (l.length : Int)) = pv at hop ⊢
  cases hp : isPow l.length with
  | false =>
   rw [hp] at hop
   have HI := aM' (show foldI wd l = (⟨#[]⟩, 0, 0, 2) by unfold foldI; rw [if_pos HAL.out, if_neg (by rw [hp]; decide)])
   go_wp2
   refine bodyPost_ret (v := .tuple #[.agg #[.string ⟨#[]⟩, .int .u64 0, .int .u64 0], .int .i64 2]) ?_ rfl ⟨by rw [HI.out], ?_⟩
   ·
    simp [results, Tryd.results14, go_sem, hu, y0, y1, y2]
   ·
    exact below_set (below_set (below_set (pw_below_drewN HS1.out.hB _) (by (try dsimp only); omega)) (by (try dsimp only); omega)) (by (try dsimp only); omega)
  | true =>
   rw [hp] at hop
   obtain ⟨K, hK2⟩ := isPow_spec hp
   have hk : ∀ x ∈ l, NodeK wd x := allK HAL.out.2.2 UL.out
   have HI := aM' (foldI_pow HAL.out.1 HAL.out.2.1 hK2 HAL.out.2.2)
   have hA : ∃ ad, A = some ad := by
    obtain ⟨_, _, h3⟩ := HR.out
    obtain ⟨a, ha, _⟩ := h3 (by rw [hK2]; exact Nat.two_pow_pos K)
    exact ⟨a, ha⟩
   obtain ⟨ad0, rfl⟩ := hA
   have HS2 := aM' (HS1.out.below (pw_below_drewN (Below.refl _ _) nd))
   have HK2 := aM' hK2
   have HKK := aM' hk
   clear hK2 hk hp
   go_wp2
   go_loopw [1] (fun v wr => ∃ (ad : Addr) (cc : Nat) (cur : List SNode), v = .slice (some ad) cur.length cc ∧ Aside0 (cur.length ≤ cc ∧ cur.length ≤ 300) ∧ Aside0 (∃ k, cur.length = 2 ^ k ∧ treeV wd k cur = treeV wd K l) ∧ Aside0 (totL cur = totL l) ∧ Aside0 (∀ x ∈ cur, NodeK wd x) ∧ Aside0 (Kd.C kNode wr (some ad) cur.length cur) ∧ Aside0 (FoS w wd wr)) (fun v _ => lenV v)
   case atStart => exact ⟨ad0, c, l, rfl, ⟨HC.out, H3.out⟩, ⟨K, HK2.out, rfl⟩, ⟨rfl⟩, HKK, ⟨Kd.C_below HR.out HS2.out.hB⟩, HS2⟩
   case round =>
    obtain ⟨ad, cc, cur, rfl, HCC, HT, HTT, HN, HCR, HS⟩ := hrel
    by_cases hlt : 1 < cur.length
    ·
     have b1 : decide ((1 : Int) < (cur.length : Int)) = true := decide_eq_true (by omega)
     obtain ⟨k, hk1, hk2⟩ := HT.out
     obtain ⟨k, rfl⟩ : ∃ k', k = k' + 1 := by
      cases k with
      | zero => rw [hk1] at hlt; simp at hlt
      | succ k => exact ⟨k, rfl⟩
     have hm2 : cur.length = 2 * 2 ^ k := by rw [hk1, Nat.pow_succ, Nat.mul_comm]
     have hm1 : 1 ≤ 2 ^ k := Nat.two_pow_pos k
     have HK1 := aM' hk1
     have HK2' := aM' hk2
     have HM2 := aM' hm2
     have HM1 := aM' hm1
     clear hk1 hk2 hm2 hm1
     go_wp2_with fail
     refine (pairs.calls wd w.heap.size ad cc (2 ^ k) cur wr (HK.out.below HS.out.hB) HS.out.h2 HM2.out HM1.out (by have := HCC.out; have := HM2.out; omega) HCC.out.1 HCR.out HN.out).mono ?_
     rintro e w3 ⟨hb, h⟩
     have HS3 := aM' (HS.out.below hb)
     clear hb
     obtain ⟨hpo, g, cap, rfl, hcap, hC⟩ | ⟨hpo, rfl⟩ := h
     ·
      have hl3 : (pairsV wd cur).length = 2 ^ k := pairsV_len wd _ _ HM2.out
      have HT3 := aM' (show ∃ k, (pairsV wd cur).length = 2 ^ k ∧ treeV wd k (pairsV wd cur) = treeV wd K l from ⟨k, hl3, by rw [← treeV_pairs wd k cur HK1.out]; exact HK2'.out⟩)
      have HTT3 := aM' ((pairsV_tot wd _ _ HM2.out).trans HTT.out)
      have HN3 := aM' (pairsV_k _ _ HM2.out HN.out hpo)
      rw [← hl3] at hC hcap ⊢
      have hlt3 : (pairsV wd cur).length < cur.length := by rw [hl3]; have := HM2.out; have := HM1.out; omega
      generalize pairsV wd cur = nx at hl3 HT3 HTT3 HN3 hC hcap hlt3 ⊢
      have HC3 := aM' hC
      have HCC3 := aM' (show nx.length ≤ cap ∧ nx.length ≤ 300 from ⟨hcap, by have := HCC.out; omega⟩)
      have HLT3 := aM' hlt3
      clear hl3 hC hcap hpo hlt3
      go_wp2
      go_roundw
      case rel => exact ⟨⟨g, 0, none⟩, cap, nx, rfl, HCC3, HT3, HTT3, HN3, HC3, HS3⟩
      case measure => exact HLT3.out
     ·
      have hno : ¬ totL l < 340282366920938463463374607431768211456 := by rw [← HTT.out]; exact pairsOk_tot _ _ HM2.out HN.out hpo
      have HI2 := aM' (show foldI wd l = (⟨#[]⟩, 0, 0, 10) by rw [HI.out, if_neg hno])
      have z0 : w3.cell? ⟨w.heap.size + 1, 0, none⟩ = some (.string ⟨#[]⟩) := blk_cell HS3.out.h4 0
      have z1 : w3.cell? ⟨w.heap.size + 1, 1, none⟩ = some (.int .u64 0) := blk_cell HS3.out.h4 1
      have z2 : w3.cell? ⟨w.heap.size + 1, 2, none⟩ = some (.int .u64 0) := blk_cell HS3.out.h4 2
      have zf : ∀ i, w3.frozen? ⟨w.heap.size + 1, i, none⟩ = false := fun i => blk_frozen HS3.out.h4 i
      clear hno y0 y1 y2 yf hpo
      go_wp2
      refine bodyPost_ret (v := .tuple #[.agg #[.string ⟨#[]⟩, .int .u64 0, .int .u64 0], .int .i64 10]) ?_ rfl ⟨by rw [HI2.out], ?_⟩
      ·
       simp [results, Tryd.results14, go_sem, hu, z0, z1, z2]
      ·
       exact below_set (below_set (below_set HS3.out.hB (by (try dsimp only); omega)) (by (try dsimp only); omega)) (by (try dsimp only); omega)
    ·
     have b1 : decide ((1 : Int) < (cur.length : Int)) = false := decide_eq_false (by omega)
     obtain ⟨k, hk1, hk2⟩ := HT.out
     have hk0 : k = 0 := by
      rcases Nat.eq_zero_or_pos k with h | h
      ·
       exact h
      ·
       have := Nat.pow_lt_pow_right (a := 2) (by decide) h
       omega
     subst hk0
     have h1 : cur.length = 1 := hk1
     obtain ⟨p0, p1, p2⟩ := first_at HCR.out h1
     have g1 : (0 : Int) < (cur.length : Int) := by omega
     have hx : cur.headD zeroN = treeV wd K l := by rw [← hk2]; rfl
     rw [hx] at p0 p1 p2
     have htot : totL l < 340282366920938463463374607431768211456 := by
      rw [← HTT.out]
      match cur, h1, HN.out with
      | [x], _, hn => have := valU_lt (hn x (by simp)).u; simp [totL]; exact this
     have HI2 := aM' (show foldI wd l = ((treeV wd K l).f0, (treeV wd K l).f1.f0, (treeV wd K l).f1.f1, 0) by rw [HI.out, if_pos htot])
     have z0 : wr.cell? ⟨w.heap.size + 1, 0, none⟩ = some (.string ⟨#[]⟩) := blk_cell HS.out.h4 0
     have z1 : wr.cell? ⟨w.heap.size + 1, 1, none⟩ = some (.int .u64 0) := blk_cell HS.out.h4 1
     have z2 : wr.cell? ⟨w.heap.size + 1, 2, none⟩ = some (.int .u64 0) := blk_cell HS.out.h4 2
     have zf : ∀ i, wr.frozen? ⟨w.heap.size + 1, i, none⟩ = false := fun i => blk_frozen HS.out.h4 i
     clear hk1 hk2 hx htot y0 y1 y2 yf
     go_wp2
     refine bodyPost_ret (v := .tuple #[.agg #[.string (treeV wd K l).f0, .int .u64 (treeV wd K l).f1.f0, .int .u64 (treeV wd K l).f1.f1], .int .i64 0]) ?_ rfl ⟨by rw [HI2.out], ?_⟩
     ·
      simp [results, Tryd.results14, go_sem, hu, z0, z1, z2]
     ·
      exact below_set (below_set (below_set HS.out.hB (by (try dsimp only); omega)) (by (try dsimp only); omega)) (by (try dsimp only); omega)
 ·
  have hb1 : (decide (1 ≤ wd) && (decide (wd ≤ 32) && l.all (nodeOf wd))) = false := by
   cases h : (decide (1 ≤ wd) && (decide (wd ≤ 32) && l.all (nodeOf wd))) with
   | false => rfl
   | true => simp only [Bool.and_eq_true, decide_eq_true_eq] at h; exact absurd h hal
  rw [hb1]
  have HI := aM' (show foldI wd l = (⟨#[]⟩, 0, 0, 70) by unfold foldI; rw [if_neg hal])
  clear hal hb1
  go_wp2
  refine bodyPost_ret (v := .tuple #[.agg #[.string ⟨#[]⟩, .int .u64 0, .int .u64 0], .int .i64 70]) ?_ rfl ⟨by rw [HI.out], ?_⟩
  ·
   simp [results, Tryd.results14, go_sem, hu, y0, y1, y2]
  ·
   exact below_set (below_set (below_set HS1.out.hB (by (try dsimp only); omega)) (by (try dsimp only); omega)) (by (try dsimp only); omega)
def node_Fold.f (x0 : Int) (l : List SNode) : Option (ByteArray × Int × Int × Int) :=
 if l.length ≤ 300 ∧ ∀ x ∈ l, (0 ≤ x.f1.f0 ∧ x.f1.f0 < 18446744073709551616) ∧ (0 ≤ x.f1.f1 ∧ x.f1.f1 < 18446744073709551616) then some (foldI x0 l) else none
theorem node_Fold.calls (x0 : Int) (A : Option Addr) (c : Nat) (l : List SNode) (r1 : ByteArray) (r2 r3 r4 : Int) (w : World) (hK : Laid w) (hr : Kd.C kNode w A l.length l) (hc : l.length ≤ c) (h : node_Fold.f x0 l = some (r1, r2, r3, r4)) :
  Calls Tryd.prog 14 #[.int .i64 x0, .slice A l.length c] w fun e w' => e = .returned (.tuple #[.agg #[.string r1, .int .u64 r2, .int .u64 r3], .int .i64 r4]) ∧ Below w.heap.size w w' := by
 unfold node_Fold.f at h
 split at h
 ·
  rename_i hh
  have h2 := Option.some.inj h
  refine (fold.calls x0 A c l w hK hr hc hh.1 (fun x hx => ⟨(hh.2 x hx).1, (hh.2 x hx).2⟩)).mono ?_
  rintro e w' ⟨rfl, hb⟩
  rw [h2]
  exact ⟨rfl, hb⟩
 ·
  cases h
end Go.Proofs.YtijfifphcchbbaaDoor.P
namespace Go.Proofs.YtijfifphcchbbaaDoor.P
open Go.RowKit Go.Proofs.YtijfifphcchbbaaDoorW.PrintWords Go.Proofs.YtijfifphcchbbaaDoorW.PrintLast Go.Proofs.YtijfifphcchbbaaDoorW.PrintMore
set_option linter.unusedVariables false
set_option linter.unusedSimpArgs false
set_option linter.unnecessarySimpa false
theorem isPow_iff (n : Nat) : isPow n = true ↔ ∃ k, n = 2 ^ k := ⟨isPow_spec, fun ⟨k, h⟩ => by rw [h]; exact isPow_two k⟩
theorem isPow_half (n : Nat) (h : 1 < n) (h2 : n % 2 = 0) : isPow (n / 2) = isPow n := by
 rw [Bool.eq_iff_iff, isPow_iff, isPow_iff]
 constructor
 ·
  rintro ⟨k, hk⟩
  exact ⟨k + 1, by rw [Nat.pow_succ, ← hk]; omega⟩
 ·
  rintro ⟨k, hk⟩
  cases k with
  | zero => omega
  | succ k => exact ⟨k, by rw [Nat.pow_succ] at hk; omega⟩
theorem isPow_end (n : Nat) (h : ¬ (1 < n ∧ n % 2 = 0)) : isPow n = decide (n = 1) := by
 by_cases h1 : n = 1
 ·
  subst h1; rfl
 ·
  rw [decide_eq_false h1]
  cases hp : isPow n with
  | false => rfl
  | true =>
   obtain ⟨k, hk⟩ := isPow_spec hp
   cases k with
   | zero => exact absurd hk h1
   | succ k =>
    have : 0 < 2 ^ k := Nat.two_pow_pos k
    rw [Nat.pow_succ] at hk
    exact absurd ⟨by omega, by omega⟩ h
theorem slice_to (ad : Addr) (M c h : Nat) (hM : h ≤ M) (hc : M ≤ c) (hp : 0 < c) (wx : World) : (Instr.slice 22 (.slice (some ad) M c) none (some (.int .i64 (h : Int))) none).run Tryd.prog wx = .ok (.slice (some ad) h c) wx := by
 have h1 := run_slice_h (P := Tryd.prog) wx 22 (some ad) M c (by kernel_rfl) .i64 (h : Int) (by omega) (by omega)
 rw [h1]
 have hs : (sizeOf (Tryd.prog.elem 22)).run Tryd.prog wx = .ok 3 wx := by kernel_rfl
 rw [hs]
 simp only [Result.andThen, sliced, Int.toNat_natCast]
 rw [if_neg (by omega)]
 simp [Addr.add]
theorem foldI_halves {wd : Int} {l : List SNode} {k : Nat} (h1 : 1 ≤ wd) (h2 : wd ≤ 32) (hl : l.length = 2 ^ (k + 1)) (hal : l.all (nodeOf wd) = true) (ul : ∀ x ∈ l, OkU x.f1) :
  ((foldI wd (l.take (2 ^ k))).2.2.2 = 0 ∧ (foldI wd (l.drop (2 ^ k))).2.2.2 = 0 → joinI wd (nodeJ (foldI wd (l.take (2 ^ k)))) (nodeJ (foldI wd (l.drop (2 ^ k)))) = foldI wd l) ∧ (¬((foldI wd (l.take (2 ^ k))).2.2.2 = 0 ∧ (foldI wd (l.drop (2 ^ k))).2.2.2 = 0) → foldI wd l = (⟨#[]⟩, 0, 0, 10)) := by
 have hp : 2 ^ (k + 1) = 2 * 2 ^ k := by rw [Nat.pow_succ]; omega
 have hk := allK hal ul
 have k1 : ∀ x ∈ l.take (2 ^ k), NodeK wd x := fun x hx => hk x (List.mem_of_mem_take hx)
 have k2 : ∀ x ∈ l.drop (2 ^ k), NodeK wd x := fun x hx => hk x (List.mem_of_mem_drop hx)
 have t := totL_append (l.take (2 ^ k)) (l.drop (2 ^ k))
 rw [List.take_append_drop] at t
 have t1 := totL_nn k1
 have t2 := totL_nn k2
 have l1 : (l.take (2 ^ k)).length = 2 ^ k := by rw [List.length_take]; omega
 have l2 : (l.drop (2 ^ k)).length = 2 ^ k := by rw [List.length_drop]; omega
 have e1 := foldI_pow h1 h2 l1 (List.all_eq_true.2 fun x hx => (k1 x hx).of)
 have e2 := foldI_pow h1 h2 l2 (List.all_eq_true.2 fun x hx => (k2 x hx).of)
 have e := foldI_pow h1 h2 hl hal
 by_cases r1 : totL (l.take (2 ^ k)) < 340282366920938463463374607431768211456
 ·
  by_cases r2 : totL (l.drop (2 ^ k)) < 340282366920938463463374607431768211456
  ·
   rw [if_pos r1] at e1
   rw [if_pos r2] at e2
   rw [e1, e2]
   refine ⟨fun _ => ?_, fun h => absurd ⟨rfl, rfl⟩ h⟩
   have n1 := treeV_k k _ l1 k1 r1
   have n2 := treeV_k k _ l2 k2 r2
   have v1 := treeV_val (w := wd) k _ l1
   have v2 := treeV_val (w := wd) k _ l2
   by_cases r : totL l < 340282366920938463463374607431768211456
   ·
    rw [e, if_pos r]
    exact joinI_room n1 n2 (by rw [v1, v2]; omega)
   ·
    rw [e, if_neg r]
    exact joinI_full n1 n2 (by rw [v1, v2]; omega)
  ·
   rw [if_neg r2] at e2
   rw [e2]
   exact ⟨fun h => absurd h.2 (by decide), fun _ => by rw [e, if_neg (by omega)]⟩
 ·
  rw [if_neg r1] at e1
  rw [e1]
  exact ⟨fun h => absurd h.1 (by decide), fun _ => by rw [e, if_neg (by omega)]⟩
theorem foldI_ok {wd : Int} {l : List SNode} (ul : ∀ x ∈ l, OkU x.f1) : OkU (nodeJ (foldI wd l)).f1 := by
 have z : OkU (⟨0, 0⟩ : SU128) := ⟨⟨by decide, by decide⟩, ⟨by decide, by decide⟩⟩
 by_cases h : 1 ≤ wd ∧ wd ≤ 32 ∧ l.all (nodeOf wd) = true
 ·
  cases hp : isPow l.length with
  | false => unfold foldI; rw [if_pos h, if_neg (by rw [hp]; decide)]; exact z
  | true =>
   obtain ⟨k, hk⟩ := isPow_spec hp
   rw [foldI_pow h.1 h.2.1 hk h.2.2]
   by_cases r : totL l < 340282366920938463463374607431768211456
   ·
    rw [if_pos r]; exact (treeV_k k l hk (allK h.2.2 ul) r).u
   ·
    rw [if_neg r]; exact z
 ·
  unfold foldI; rw [if_neg h]; exact z
structure RFo (w W : World) : Prop where
 h4 : W.heap[w.heap.size]? = some (.cells #[.string ⟨#[]⟩, .int .u64 0, .int .u64 0] 28 (0, 0))
 hB : Below w.heap.size w W
theorem RFo.below {w W W' : World} (h : RFo w W) (hb : Below W.heap.size W W') : RFo w W' := ⟨blk_below h.h4 hb, h.hB.trans (hb.mono h.hB.size)⟩
set_option maxRecDepth 100000 in
set_option maxHeartbeats 4000000 in
theorem reffold.calls (wd : Int) : ∀ (N : Nat) (A : Option Addr) (c : Nat) (l : List SNode) (w : World), l.length < N → Kd.C kNode w A l.length l → l.length ≤ c → l.length ≤ 300 → (∀ x ∈ l, OkU x.f1) →
  Calls Tryd.prog 15 #[.int .i64 wd, .slice A l.length c] w fun e w' => e = .returned (.tuple #[nodeV (nodeJ (foldI wd l)), .int .i64 (foldI wd l).2.2.2]) ∧ Below w.heap.size w w' := by
 intro N
 induction N with
 | zero => intro A c l w h; exact absurd h (Nat.not_lt_zero _)
 | succ N ih =>
 intro A c l w hN hr hc h300 ul
 have hu := Tryd.underlying28
 have HIH := aM' ih
 have HR := aM' hr
 have HC := aM' hc
 have H3 := aM' h300
 have HN := aM' hN
 have UL := aM' ul
 obtain ⟨ka, hka⟩ := (refAll_ev wd l (by omega)).rounds
 have HAV := aM' hka
 clear hr hc h300 ul ih hN hka
 go_enter Tryd.func15, Tryd.ntmps15
 go_wp2_with fail
 have hs0 : RFo w (w.alloc (.cells #[.string ⟨#[]⟩, .int .u64 0, .int .u64 0] 28)) := ⟨blk_new w _, below_alloc (Below.refl _ _) _⟩
 refine (paymasterref14_all.calls ka wd A c l _ _ (Kd.C_below HR.out hs0.hB) HC.out HAV.out).mono ?_
 rintro e w1 ⟨rfl, hb⟩
 have hs1 := hs0.below hb
 have HS1 := aM' hs1
 clear hs0 hb
 have y0 : w1.cell? ⟨w.heap.size, 0, none⟩ = some (.string ⟨#[]⟩) := blk_cell hs1.h4 0
 have y1 : w1.cell? ⟨w.heap.size, 1, none⟩ = some (.int .u64 0) := blk_cell hs1.h4 1
 have y2 : w1.cell? ⟨w.heap.size, 2, none⟩ = some (.int .u64 0) := blk_cell hs1.h4 2
 have yf : ∀ i, w1.frozen? ⟨w.heap.size, i, none⟩ = false := fun i => blk_frozen hs1.h4 i
 clear hs1
 by_cases hal : 1 ≤ wd ∧ wd ≤ 32 ∧ l.all (nodeOf wd) = true
 ·
  have hb1 : (if l.all (nodeOf wd) = true then decide (1 ≤ wd) && decide (wd ≤ 32) else false) = true := by rw [if_pos hal.2.2]; simp [hal.1, hal.2.1]
  rw [hb1]
  have HAL := aM' hal
  clear hal hb1
  go_wp2
  go_loopw [6] (fun v wr => ∃ n : Nat, v = .int .i64 n ∧ Aside0 (n ≤ 300 ∧ isPow n = isPow l.length) ∧ wr = w1) (fun v _ => (intOf v).toNat)
  case atStart => exact ⟨l.length, rfl, ⟨H3.out, rfl⟩, rfl⟩
  case round =>
   obtain ⟨n, rfl, HNN, rfl⟩ := hrel
   by_cases hlt : 1 < n ∧ n % 2 = 0
   ·
    have b1 : decide (1 < n) = true := decide_eq_true hlt.1
    have b0 : decide ((1 : Int) < (n : Int)) = true := decide_eq_true (by omega)
    have b2 : (n : Int).tmod 2 = 0 := by rw [Int.tmod_eq_emod_of_nonneg (by omega)]; omega
    have b3 : (n : Int).tdiv 2 = ((n / 2 : Nat) : Int) := by rw [Int.tdiv_eq_ediv_of_nonneg (by omega)]; omega
    have wn : wrap64 (((n / 2 : Nat) : Int)) = ((n / 2 : Nat) : Int) := wrap64_id (by have := HNN.out; omega) (by have := HNN.out; omega)
    have HLT := aM' hlt
    clear hlt
    have wn2 : wrap64 ((n : Int) / 2) = ((n / 2 : Nat) : Int) := by rw [show (n : Int) / 2 = ((n / 2 : Nat) : Int) by omega]; exact wn
    go_wp2
    rw [wn2]
    refine ⟨⟨n / 2, rfl, ⟨by have := HNN.out; omega, (isPow_half n HLT.out.1 HLT.out.2).trans HNN.out.2⟩, trivial⟩, ?_⟩
    show (((n / 2 : Nat) : Int)).toNat < ((n : Int)).toNat
    have := HLT.out
    omega
   ·
    have hpe := isPow_end n hlt
    rw [HNN.out.2] at hpe
    by_cases hn1 : n = 1
    ·
     subst hn1
     obtain ⟨K, hK2⟩ := isPow_spec (hpe.trans (decide_eq_true rfl))
     have HK2 := aM' hK2
     have hA : ∃ ad, A = some ad := by
      obtain ⟨_, _, h3⟩ := HR.out
      obtain ⟨a, ha, _⟩ := h3 (by rw [hK2]; exact Nat.two_pow_pos K)
      exact ⟨a, ha⟩
     obtain ⟨ad, rfl⟩ := hA
     clear hlt hpe hK2
     by_cases hl1 : l.length = 1
     ·
      have b4 : ((l.length : Int) == 1) = true := by rw [hl1]; rfl
      obtain ⟨p0, p1, p2⟩ := first_at (Kd.C_below HR.out HS1.out.hB) hl1
      have g1 : (0 : Int) < (l.length : Int) := by omega
      have htot : totL l < 340282366920938463463374607431768211456 := by
       match l, hl1, UL.out with
       | [x], _, hn => have := valU_lt (hn x (by simp)); simp [totL]; exact this
      have HI2 := aM' (show foldI wd l = ((l.headD zeroN).f0, (l.headD zeroN).f1.f0, (l.headD zeroN).f1.f1, 0) by
       have := foldI_pow (k := 0) HAL.out.1 HAL.out.2.1 hl1 HAL.out.2.2
       rw [if_pos htot] at this
       exact this)
      clear htot
      go_wp2
      refine bodyPost_ret (v := .tuple #[.agg #[.string (l.headD zeroN).f0, .int .u64 (l.headD zeroN).f1.f0, .int .u64 (l.headD zeroN).f1.f1], .int .i64 0]) ?_ rfl ⟨by rw [HI2.out], ?_⟩
      ·
       simp [results, Tryd.results15, go_sem, hu, y0, y1, y2]
      ·
       exact below_set (below_set (below_set HS1.out.hB (by (try dsimp only); omega)) (by (try dsimp only); omega)) (by (try dsimp only); omega)
     ·
      have b4 : ((l.length : Int) == 1) = false := by simp; omega
      obtain ⟨k, rfl⟩ : ∃ k', K = k' + 1 := by
       cases K with
       | zero => exact absurd HK2.out hl1
       | succ k => exact ⟨k, rfl⟩
      have hp2 : 2 ^ (k + 1) = 2 * 2 ^ k := by rw [Nat.pow_succ]; omega
      have hpos : 1 ≤ 2 ^ k := Nat.two_pow_pos k
      have hlen : l.length = 2 * 2 ^ k := by rw [HK2.out, hp2]
      have hq : (l.length : Int).tdiv 2 = ((2 ^ k : Nat) : Int) := by rw [Int.tdiv_eq_ediv_of_nonneg (by omega)]; omega
      have hF := foldI_halves HAL.out.1 HAL.out.2.1 HK2.out HAL.out.2.2 UL.out
      have hC1 := Kd.C_take HR.out (show 2 ^ k ≤ l.length by omega)
      have hC2 := Kd.C_drop (c := c) HR.out (show 2 ^ k ≤ l.length by omega) HC.out
      have hl1' : (l.take (2 ^ k)).length = 2 ^ k := by rw [List.length_take]; omega
      have hl2' : (l.drop (2 ^ k)).length = l.length - 2 ^ k := by rw [List.length_drop]
      rw [if_neg (by have := HC.out; omega)] at hC2
      have hu1 : ∀ x ∈ l.take (2 ^ k), OkU x.f1 := fun x hx => UL.out x (List.mem_of_mem_take hx)
      have hu2 : ∀ x ∈ l.drop (2 ^ k), OkU x.f1 := fun x hx => UL.out x (List.mem_of_mem_drop hx)
      have s1 := fun wx => slice_to ad l.length c (2 ^ k) (by omega) HC.out (by have := HC.out; omega) wx
      have s2 := fun wx => slice_from ad l.length c (2 ^ k) (by omega) HC.out wx
      rw [hl1'] at hC1
      rw [hl2'] at hC2
      have wq : wrap64 (((2 ^ k : Nat) : Int)) = ((2 ^ k : Nat) : Int) := wrap64_id (by have := H3.out; omega) (by have := H3.out; omega)
      generalize l.take (2 ^ k) = la at hF hC1 hl1' hu1 ⊢
      generalize l.drop (2 ^ k) = lb at hF hC2 hl2' hu2 ⊢
      generalize 2 ^ k = h at *
      have HF := aM' hF
      have HC1 := aM' hC1
      have HC2 := aM' hC2
      have HL1 := aM' hl1'
      have HL2 := aM' hl2'
      have HU1 := aM' hu1
      have HU2 := aM' hu2
      have HLEN := aM' hlen
      clear hF hC1 hC2 hl1' hl2' hu1 hu2 hlen hp2 HK2 y0 y1 y2 yf
      have oka := foldI_ok (wd := wd) HU1.out
      have okb := foldI_ok (wd := wd) HU2.out
      have q1 := HIH.out (some ad) c la wr (by have := HL1.out; have := HLEN.out; have := HN.out; omega) (by rw [HL1.out]; exact Kd.C_below HC1.out HS1.out.hB) (by have := HL1.out; have := HLEN.out; have := HC.out; omega) (by have := HL1.out; have := HLEN.out; have := H3.out; omega) HU1.out
      have q2 := fun (W : World) (hW : Below w.heap.size w W) => HIH.out (some (ad.add (h * 3))) (c - h) lb W (by have := HL2.out; have := HLEN.out; have := HN.out; omega) (by rw [HL2.out]; exact Kd.C_below HC2.out hW) (by have := HL2.out; have := HLEN.out; have := HC.out; omega) (by have := HL2.out; have := HLEN.out; have := H3.out; omega) HU2.out
      rw [HL1.out] at q1
      rw [HL2.out] at q2
      have hF2 := HF.out
      rcases hfa : foldI wd la with ⟨a1, a2, a3, a4⟩
      rcases hfb : foldI wd lb with ⟨c1, c2, c3, c4⟩
      rw [hfa] at q1 oka hF2
      rw [hfb] at q2 okb hF2
      have HF2 := aM' hF2
      have Q1 := aM' q1
      have Q2 := aM' q2
      have OKA := aM' oka
      have OKB := aM' okb
      clear hF2 q1 q2 oka okb hfa hfb HF
      go_wp2_with fail
      refine Q1.out.mono ?_
      rintro e w2 ⟨rfl, hb2⟩
      have hs2 := HS1.out.below hb2
      have hs2a := hs2.below (below_alloc (Below.refl _ _) (.cells #[.string a1, .int .u64 a2, .int .u64 a3] 28))
      have HS2 := aM' hs2a
      clear hb2 hs2 hs2a Q1
      go_wp2_with fail
      refine (Q2.out _ HS2.out.hB).mono ?_
      rintro e w3 ⟨rfl, hb3⟩
      have HS3 := aM' (HS2.out.below hb3)
      have g7 := blk_below (blk_new w2 _) hb3
      generalize w2.heap.size = b7 at g7 ⊢
      have x0 : ∀ o, (w3.alloc o).cell? ⟨b7, 0, none⟩ = some (.string a1) := fun o => blk_cell (blk_alloc g7 o) 0
      have x1 : ∀ o, (w3.alloc o).cell? ⟨b7, 1, none⟩ = some (.int .u64 a2) := fun o => blk_cell (blk_alloc g7 o) 1
      have x2 : ∀ o, (w3.alloc o).cell? ⟨b7, 2, none⟩ = some (.int .u64 a3) := fun o => blk_cell (blk_alloc g7 o) 2
      have hn7 : b7 ≠ w3.heap.size := Nat.ne_of_lt (blk_lt g7)
      have HS4 := aM' (HS3.out.below (below_alloc (Below.refl _ _) (.cells #[.string c1, .int .u64 c2, .int .u64 c3] 28)))
      have z0 : ∀ o, (w3.alloc o).cell? ⟨w.heap.size, 0, none⟩ = some (.string ⟨#[]⟩) := fun o => blk_cell (blk_alloc HS3.out.h4 o) 0
      have z1 : ∀ o, (w3.alloc o).cell? ⟨w.heap.size, 1, none⟩ = some (.int .u64 0) := fun o => blk_cell (blk_alloc HS3.out.h4 o) 1
      have z2 : ∀ o, (w3.alloc o).cell? ⟨w.heap.size, 2, none⟩ = some (.int .u64 0) := fun o => blk_cell (blk_alloc HS3.out.h4 o) 2
      have zf : ∀ o i, (w3.alloc o).frozen? ⟨w.heap.size, i, none⟩ = false := fun o i => blk_frozen (blk_alloc HS3.out.h4 o) i
      clear hb3 g7 Q2
      by_cases h0 : a4 = 0 ∧ c4 = 0
      ·
       obtain ⟨rfl, rfl⟩ := h0
       have hj : joinI wd ⟨a1, ⟨a2, a3⟩⟩ ⟨c1, ⟨c2, c3⟩⟩ = foldI wd l := HF2.out.1 ⟨rfl, rfl⟩
       obtain ⟨kk, hkk⟩ := refJoin_ev wd ⟨a1, ⟨a2, a3⟩⟩ ⟨c1, ⟨c2, c3⟩⟩ OKA.out OKB.out
       have hkk2 := hkk kk (Nat.le_refl _)
       rw [hj] at hkk2
       rcases hfl : foldI wd l with ⟨r1, r2, r3, r4⟩
       rw [hfl] at hkk2
       have HKK := aM' hkk2
       have HFL := aM' hfl
       clear hkk hkk2 hj hfl
       go_wp2_with fail
       refine (paymasterref14_Join.calls kk wd a1 a2 a3 c1 c2 c3 r1 r2 r3 r4 _ HKK.out).mono ?_
       rintro e w5 ⟨rfl, hb5⟩
       have HS5 := aM' (HS4.out.below hb5)
       clear hb5 x0 x1 x2 z0 z1 z2 zf hn7
       have z0 : w5.cell? ⟨w.heap.size, 0, none⟩ = some (.string ⟨#[]⟩) := blk_cell HS5.out.h4 0
       have z1 : w5.cell? ⟨w.heap.size, 1, none⟩ = some (.int .u64 0) := blk_cell HS5.out.h4 1
       have z2 : w5.cell? ⟨w.heap.size, 2, none⟩ = some (.int .u64 0) := blk_cell HS5.out.h4 2
       have zf : ∀ i, w5.frozen? ⟨w.heap.size, i, none⟩ = false := fun i => blk_frozen HS5.out.h4 i
       go_wp2
       refine bodyPost_ret (v := .tuple #[.agg #[.string r1, .int .u64 r2, .int .u64 r3], .int .i64 r4]) ?_ rfl ⟨by rw [HFL.out], ?_⟩
       ·
        simp [results, Tryd.results15, go_sem, hu, z0, z1, z2]
       ·
        exact below_set (below_set (below_set HS5.out.hB (by (try dsimp only); omega)) (by (try dsimp only); omega)) (by (try dsimp only); omega)
      ·
       have hj := HF2.out.2 h0
       have HFL := aM' hj
       clear hj
       by_cases ha4 : a4 = 0
       ·
        have hc4 : ¬ c4 = 0 := fun h => h0 ⟨ha4, h⟩
        subst ha4
        have b6 : (c4 != 0) = true := by simp [hc4]
        clear h0 hc4
        go_wp2
        refine bodyPost_ret (v := .tuple #[.agg #[.string ⟨#[]⟩, .int .u64 0, .int .u64 0], .int .i64 10]) ?_ rfl ⟨by rw [HFL.out], ?_⟩
        ·
         simp [results, Tryd.results15, go_sem, hu, z0, z1, z2]
        ·
         exact below_set (below_set (below_set HS4.out.hB (by (try dsimp only); omega)) (by (try dsimp only); omega)) (by (try dsimp only); omega)
       ·
        have b6 : (a4 != 0) = true := by simp [ha4]
        clear h0 ha4
        go_wp2
        refine bodyPost_ret (v := .tuple #[.agg #[.string ⟨#[]⟩, .int .u64 0, .int .u64 0], .int .i64 10]) ?_ rfl ⟨by rw [HFL.out], ?_⟩
        ·
         simp [results, Tryd.results15, go_sem, hu, z0, z1, z2]
        ·
         exact below_set (below_set (below_set HS4.out.hB (by (try dsimp only); omega)) (by (try dsimp only); omega)) (by (try dsimp only); omega)
    ·
     have hpf : isPow l.length = false := hpe.trans (decide_eq_false hn1)
     have HI := aM' (show foldI wd l = (⟨#[]⟩, 0, 0, 2) by unfold foldI; rw [if_pos HAL.out, if_neg (by rw [hpf]; decide)])
     have b5 : ((n : Int) != 1) = true := by simp; omega
     by_cases h1n : 1 < n
     ·
      have b0 : decide ((1 : Int) < (n : Int)) = true := decide_eq_true (by omega)
      have b1 : decide (1 < n) = true := decide_eq_true h1n
      have b2 : (n : Int).tmod 2 = 1 := by rw [Int.tmod_eq_emod_of_nonneg (by omega)]; omega
      clear hlt hpe hpf
      go_wp2
      refine bodyPost_ret (v := .tuple #[.agg #[.string ⟨#[]⟩, .int .u64 0, .int .u64 0], .int .i64 2]) ?_ rfl ⟨by rw [HI.out], ?_⟩
      ·
       simp [results, Tryd.results15, go_sem, hu, y0, y1, y2]
      ·
       exact below_set (below_set (below_set HS1.out.hB (by (try dsimp only); omega)) (by (try dsimp only); omega)) (by (try dsimp only); omega)
     ·
      have b0 : decide ((1 : Int) < (n : Int)) = false := decide_eq_false (by omega)
      have b1 : decide (1 < n) = false := decide_eq_false h1n
      clear hlt hpe hpf
      go_wp2
      refine bodyPost_ret (v := .tuple #[.agg #[.string ⟨#[]⟩, .int .u64 0, .int .u64 0], .int .i64 2]) ?_ rfl ⟨by rw [HI.out], ?_⟩
      ·
       simp [results, Tryd.results15, go_sem, hu, y0, y1, y2]
      ·
       exact below_set (below_set (below_set HS1.out.hB (by (try dsimp only); omega)) (by (try dsimp only); omega)) (by (try dsimp only); omega)
 ·
  have hb1 : (if l.all (nodeOf wd) = true then decide (1 ≤ wd) && decide (wd ≤ 32) else false) = false := by
   cases h : (if l.all (nodeOf wd) = true then decide (1 ≤ wd) && decide (wd ≤ 32) else false) with
   | false => rfl
   | true =>
    split at h
    ·
     rename_i h0
     simp only [Bool.and_eq_true, decide_eq_true_eq] at h; exact absurd ⟨h.1, h.2, h0⟩ hal
    ·
     cases h
  rw [hb1]
  have HI := aM' (show foldI wd l = (⟨#[]⟩, 0, 0, 70) by unfold foldI; rw [if_neg hal])
  clear hal hb1
  go_wp2
  refine bodyPost_ret (v := .tuple #[.agg #[.string ⟨#[]⟩, .int .u64 0, .int .u64 0], .int .i64 70]) ?_ rfl ⟨by rw [HI.out], ?_⟩
  ·
   simp [results, Tryd.results15, go_sem, hu, y0, y1, y2]
  ·
   exact below_set (below_set (below_set HS1.out.hB (by (try dsimp only); omega)) (by (try dsimp only); omega)) (by (try dsimp only); omega)
def paymasterref14_Fold.f (x0 : Int) (l : List SNode) : Option (ByteArray × Int × Int × Int) :=
 if l.length ≤ 300 ∧ ∀ x ∈ l, (0 ≤ x.f1.f0 ∧ x.f1.f0 < 18446744073709551616) ∧ (0 ≤ x.f1.f1 ∧ x.f1.f1 < 18446744073709551616) then some (foldI x0 l) else none
theorem paymasterref14_Fold.calls (x0 : Int) (A : Option Addr) (c : Nat) (l : List SNode) (r1 : ByteArray) (r2 r3 r4 : Int) (w : World) (hK : Laid w) (hr : Kd.C kNode w A l.length l) (hc : l.length ≤ c) (h : paymasterref14_Fold.f x0 l = some (r1, r2, r3, r4)) :
  Calls Tryd.prog 15 #[.int .i64 x0, .slice A l.length c] w fun e w' => e = .returned (.tuple #[.agg #[.string r1, .int .u64 r2, .int .u64 r3], .int .i64 r4]) ∧ Below w.heap.size w w' := by
 unfold paymasterref14_Fold.f at h
 split at h
 ·
  rename_i hh
  have h2 := Option.some.inj h
  refine (reffold.calls x0 (l.length + 1) A c l w (Nat.lt_succ_self _) hr hc hh.1 (fun x hx => ⟨(hh.2 x hx).1, (hh.2 x hx).2⟩)).mono ?_
  rintro e w' ⟨rfl, hb⟩
  rw [h2]
  exact ⟨rfl, hb⟩
 ·
  cases h
end Go.Proofs.YtijfifphcchbbaaDoor.P
namespace Go.Proofs.YtijfifphcchbbaaDoor.P
open Go.RowKit Go.Proofs.YtijfifphcchbbaaDoorW.PrintWords Go.Proofs.YtijfifphcchbbaaDoorW.PrintLast Go.Proofs.YtijfifphcchbbaaDoorW.PrintMore
attribute [local go_sem] max2_int min2_int max_two min_two max_three min_three max_four min_four-- for this text's walks alone
set_option linter.unusedVariables false
set_option linter.unusedSimpArgs false
attribute [local go_sem high] eqANode
def paymasterlaw14_NodeFolds.f (k : Nat) (a0 : Int) (l1 : List (SNode)) : Option (Bool) := (paymasterlaw14_Great.f k l1).bind fun t101 => (if t101 = true then (some true) else ((some (([] : List (SNode)) : List (SNode))).bind fun y102 => (if y102.length + l1.length < 4398046511104 then ((some (y102 ++ l1 : List (SNode))).bind fun y105 => ((node_Fold.f a0 y105).bind fun bt108 => ((paymasterref14_Fold.f a0 l1).bind fun bt113 => (if (bt108.1.toList == bt113.1.toList && ((bt108.2.1 == bt113.2.1 && (bt108.2.2.1 == bt113.2.2.1)))) = true then (if bt108.2.2.2 = bt113.2.2.2 then ((paymasterref14_Same.f k y105 l1).bind fun t118 => (some t118)) else (some false)) else (some false))))) else (none))))
set_option maxHeartbeats 8000000 in
set_option maxRecDepth 100000 in
theorem paymasterlaw14_NodeFolds.calls (k : Nat) (a0 : Int) (A1 : Option Addr) (c1 : Nat) (l1 : List (SNode)) (r : Bool) (w : World) (hK : Laid w) (hr1 : Kd.C kNode w A1 l1.length l1) (hc1 : l1.length ≤ c1) (h : paymasterlaw14_NodeFolds.f k a0 l1 = some r) :
  Calls Tryd.prog 3 #[.int .i64 a0, .slice A1 l1.length c1] w fun e w' => e = .returned (.bool r) ∧ Below w.heap.size w w' := by
 have hu28 := Tryd.underlying28
 have HR1 := aM' hr1
 have HC1 := aM' hc1
 clear hr1 hc1
 have HB := aM' (Below.refl w.heap.size w)
 have HLD := aM' hK
 clear hK
 have H : ((paymasterlaw14_Great.f k l1).bind fun t101 => (if t101 = true then (some true) else ((some (([] : List (SNode)) : List (SNode))).bind fun y102 => (if y102.length + l1.length < 4398046511104 then ((some (y102 ++ l1 : List (SNode))).bind fun y105 => ((node_Fold.f a0 y105).bind fun bt108 => ((paymasterref14_Fold.f a0 l1).bind fun bt113 => (if (bt108.1.toList == bt113.1.toList && ((bt108.2.1 == bt113.2.1 && (bt108.2.2.1 == bt113.2.2.1)))) = true then (if bt108.2.2.2 = bt113.2.2.2 then ((paymasterref14_Same.f k y105 l1).bind fun t118 => (some t118)) else (some false)) else (some false))))) else (none))))) = some r := h
 clear h
 replace H := Option.bind_eq_some_iff.mp H
 obtain ⟨t101, A30, H⟩ := H
 replace H : (if t101 = true then (some true) else ((some (([] : List (SNode)) : List (SNode))).bind fun y102 => (if y102.length + l1.length < 4398046511104 then ((some (y102 ++ l1 : List (SNode))).bind fun y105 => ((node_Fold.f a0 y105).bind fun bt108 => ((paymasterref14_Fold.f a0 l1).bind fun bt113 => (if (bt108.1.toList == bt113.1.toList && ((bt108.2.1 == bt113.2.1 && (bt108.2.2.1 == bt113.2.2.1)))) = true then (if bt108.2.2.2 = bt113.2.2.2 then ((paymasterref14_Same.f k y105 l1).bind fun t118 => (some t118)) else (some false)) else (some false))))) else (none)))) = some r := H
 have A3 := aM' A30
 clear A30
 by_cases c4 : t101 = true
 ·
  subst c4
  have H1 : (some true) = some r := by rw [if_pos rfl] at H; exact H
  clear H
  have H := H1
  clear H1
  obtain rfl := Option.some.inj H
  go_enter Tryd.func3, Tryd.ntmps3
  go_wp2_with (first | ((with_reducible refine gate_callee (f := 13) rfl ?_); refine goesL_ (some 11) rfl rfl Tryd.func13 (by kernel_rfl) rfl #[.slice A1 l1.length c1] rfl (by (try simp only [List.map_toArray, List.map_cons, List.map_nil]); first | done | rfl | (simp only [List.length_drop, List.length_take]; rfl)) ?_; (with_reducible refine (paymasterlaw14_Great.calls k _ _ l1 true _ ?side1 ?side2 A3.out).mono ?_); (case side1 => repeat (first | exact HR1.out | (with_reducible refine Kd.C_alloc ?_ _) | (with_reducible refine Kd.C_drewN ?_ _) | (with_reducible refine Kd.C_drew ?_))); (case side2 => exact HC1.out); rintro e w' ⟨rfl, ⟨nd, rfl⟩⟩; refine ⟨_, rfl, ?_⟩))
  go_ret
  exact ⟨by first | rfl | (simp [errW_none, errW_some] <;> rfl) | (simp [*, errW_none, errW_some] <;> rfl), by repeat (first | (with_reducible first | exact HB.out | apply below_alloc | apply pw_below_drewN | apply below_drew1) | exact HB.out)⟩
 ·
  replace c4 := Bool.eq_false_iff.mpr c4
  subst c4
  have H1 : ((some (([] : List (SNode)) : List (SNode))).bind fun y102 => (if y102.length + l1.length < 4398046511104 then ((some (y102 ++ l1 : List (SNode))).bind fun y105 => ((node_Fold.f a0 y105).bind fun bt108 => ((paymasterref14_Fold.f a0 l1).bind fun bt113 => (if (bt108.1.toList == bt113.1.toList && ((bt108.2.1 == bt113.2.1 && (bt108.2.2.1 == bt113.2.2.1)))) = true then (if bt108.2.2.2 = bt113.2.2.2 then ((paymasterref14_Same.f k y105 l1).bind fun t118 => (some t118)) else (some false)) else (some false))))) else (none))) = some r := by rw [if_neg (show ¬ (false = true) by decide)] at H; exact H
  clear H
  have H := H1
  clear H1
  obtain ⟨y102, hy102⟩ : ∃ y_ : List (SNode), y_ = (([] : List (SNode))) := ⟨_, rfl⟩
  replace H : (if y102.length + l1.length < 4398046511104 then ((some (y102 ++ l1 : List (SNode))).bind fun y105 => ((node_Fold.f a0 y105).bind fun bt108 => ((paymasterref14_Fold.f a0 l1).bind fun bt113 => (if (bt108.1.toList == bt113.1.toList && ((bt108.2.1 == bt113.2.1 && (bt108.2.2.1 == bt113.2.2.1)))) = true then (if bt108.2.2.2 = bt113.2.2.2 then ((paymasterref14_Same.f k y105 l1).bind fun t118 => (some t118)) else (some false)) else (some false))))) else (none)) = some r := by first | (rw [hy102]; with_reducible exact H) | (have H2_ := (Option.bind_some _ _).symm.trans H; rw [hy102]; with_reducible exact H2_) | (have H2_ := (Option.bind_some _ _).symm.trans H; with_reducible exact H2_) | with_reducible exact H | (rw [hy102]; exact H) | exact H
  have Ny102 := aM' hy102
  clear hy102
  by_cases c5 : y102.length + l1.length < 4398046511104
  ·
   rw [if_pos c5] at H
   have LMc5 := aM' c5
   clear c5
   obtain ⟨y105, hy105⟩ : ∃ y_ : List (SNode), y_ = (y102 ++ l1) := ⟨_, rfl⟩
   replace H : ((node_Fold.f a0 y105).bind fun bt108 => ((paymasterref14_Fold.f a0 l1).bind fun bt113 => (if (bt108.1.toList == bt113.1.toList && ((bt108.2.1 == bt113.2.1 && (bt108.2.2.1 == bt113.2.2.1)))) = true then (if bt108.2.2.2 = bt113.2.2.2 then ((paymasterref14_Same.f k y105 l1).bind fun t118 => (some t118)) else (some false)) else (some false)))) = some r := by first | (rw [hy105]; with_reducible exact H) | (have H2_ := (Option.bind_some _ _).symm.trans H; rw [hy105]; with_reducible exact H2_) | (have H2_ := (Option.bind_some _ _).symm.trans H; with_reducible exact H2_) | with_reducible exact H | (rw [hy105]; exact H) | exact H
   have Ny105 := aM' hy105
   clear hy105
   replace H := Option.bind_eq_some_iff.mp H
   obtain ⟨⟨t108, t109, t110, t111⟩, A60, H⟩ := H
   replace H : ((paymasterref14_Fold.f a0 l1).bind fun bt113 => (if (t108.toList == bt113.1.toList && ((t109 == bt113.2.1 && (t110 == bt113.2.2.1)))) = true then (if t111 = bt113.2.2.2 then ((paymasterref14_Same.f k y105 l1).bind fun t118 => (some t118)) else (some false)) else (some false))) = some r := H
   have A6 := aM' A60
   clear A60
   replace H := Option.bind_eq_some_iff.mp H
   obtain ⟨⟨t113, t114, t115, t116⟩, A70, H⟩ := H
   replace H : (if (t108.toList == t113.toList && ((t109 == t114 && (t110 == t115)))) = true then (if t111 = t116 then ((paymasterref14_Same.f k y105 l1).bind fun t118 => (some t118)) else (some false)) else (some false)) = some r := H
   have A7 := aM' A70
   clear A70
   by_cases c8 : (t108.toList == t113.toList && ((t109 == t114 && (t110 == t115)))) = true
   ·
    rw [if_pos c8] at H
    have c8b0 : (t108.toList == t113.toList && ((t109 == t114 && (t110 == t115)))) = true := c8
    (try (have c8b1 : decide (t108.toList = t113.toList && ((t109 == t114 && (t110 == t115)))) = true := by simpa using c8))
    (try (have c8b2 : (t108.toList == t113.toList && ((t109 == t114 && (t110 == t115)))) = true := by simpa using c8))
    clear c8
    by_cases c9 : t111 = t116
    ·
     rw [if_pos c9] at H
     have c9b0 : (t111 == t116) = true := beq_iff_eq.mpr c9
     have c9b1 : (t111 != t116) = false := bne_eq_false_iff_eq.mpr c9
     clear c9
     replace H := Option.bind_eq_some_iff.mp H
     obtain ⟨t118, A100, H⟩ := H
     replace H : (some t118) = some r := H
     have A10 := aM' A100
     clear A100
     obtain rfl := Option.some.inj H
     go_enter Tryd.func3, Tryd.ntmps3
     go_wp2_with (first | ((with_reducible refine gate_callee (f := 13) rfl ?_); refine goesL_ (some 11) rfl rfl Tryd.func13 (by kernel_rfl) rfl #[.slice A1 l1.length c1] rfl (by (try simp only [List.map_toArray, List.map_cons, List.map_nil]); first | done | rfl | (simp only [List.length_drop, List.length_take]; rfl)) ?_; (with_reducible refine (paymasterlaw14_Great.calls k _ _ l1 false _ ?side1 ?side2 A3.out).mono ?_); (case side1 => repeat (first | exact HR1.out | (with_reducible refine Kd.C_alloc ?_ _) | (with_reducible refine Kd.C_drewN ?_ _) | (with_reducible refine Kd.C_drew ?_))); (case side2 => exact HC1.out); rintro e w' ⟨rfl, ⟨nd, rfl⟩⟩; refine ⟨_, rfl, ?_⟩) | ((with_reducible refine gate_dst (N := 12) rfl ?_); refine Kd.R_lit kNode _ 28 ?hg (N := 12) ?hd (xs := ([] : List (SNode))) (inner := []) (ok := fun _ => True) (okp := fun _ => True) ?hr ?hp (fun _ hk => hk) trivial (Below.refl _ _) (Nat.le_refl _) (by simp) ?_; (case hd => rfl); (case hg => rfl); (case hr => first | (go_simp; done) | (go_simp; rfl)); (case hp => exact (Reps.none _ _)); intro v103 w11 ho12 hb hg_ hnew_; clear hg_ hnew_; (first | rw [← Ny102.out] at ho12 | (simp only [Int.reduceToNat] at ho12; rw [← Ny102.out] at ho12)); have n0_ := aM' (Kd.R_lower ho12 (below_size (by repeat (first | (with_reducible first | exact HB.out | apply below_alloc | apply pw_below_drewN | apply below_drew1) | exact HB.out)))); have n1_ := aM' (below_step (by repeat (first | (with_reducible first | exact HB.out | apply below_alloc | apply pw_below_drewN | apply below_drew1) | exact HB.out)) hb); clear HB; have HO104 := n0_; have HB := n1_; clear n0_ n1_; clear hb ho12) | ((with_reducible refine gate_builtin (b := .append) (xs := #[.tmp 12, .tmp 13]) rfl ?_); at_builtin; refine Kd.R_append_rows kNode (w0 := w) w.heap.size rfl (.tmp 12) (.tmp 13) 22 28 (.agg #[(.string ⟨#[]⟩), (.int .u64 0), (.int .u64 0)]) 32 rfl Tryd.underlying22 infoNode rfl (by decide) (by omega) v103 y102 l1 _ _ _ (fun _ => True) (fun _ => False) rfl rfl ?aO ?aR (fun _ _ h => h) (fun _ h => h.elim) ?aF ?aB ?aS ?aL ?_; (case aR => repeat (first | exact (Kd.C_below HR1.out HB.out) | (with_reducible refine Kd.C_alloc ?_ _) | (with_reducible refine Kd.C_drewN ?_ _) | (with_reducible refine Kd.C_drew ?_))); (case aB => exact (by repeat (first | (with_reducible first | exact HB.out | apply below_alloc | apply pw_below_drewN | apply below_drew1) | exact HB.out))); (case aF => exact (fun _ _ => trivial)); (case aO => exact (by (with_reducible repeat (first | apply Kd.R_alloc | apply Kd.R_drewN | apply Kd.R_drew)); exact HO104.out)); (case aS => exact (below_size (by repeat (first | (with_reducible first | exact HB.out | apply below_alloc | apply pw_below_drewN | apply below_drew1) | exact HB.out)))); (case aL => have := LMc5.out; omega); intro v106 w13 ho hb hg hat; rw [← Ny105.out] at ho; have n0_ := aM' (hb); have n1_ := aM' (ho); clear HB; clear HO104; have HB := n0_; have HO107 := n1_; clear n0_ n1_; clear ho hb hg hat; obtain ⟨Ao14, co14, eo14⟩ := Kd.R_slice HO107.out; subst eo14) | ((with_reducible refine gate_callee (f := 14) rfl ?_); refine goesL_ (some 18) rfl rfl Tryd.func14 (by kernel_rfl) rfl #[.int .i64 a0, .slice Ao14 y105.length co14] rfl (by (try simp only [List.map_toArray, List.map_cons, List.map_nil]); first | done | rfl | (simp only [List.length_drop, List.length_take]; rfl)) ?_; (with_reducible refine (node_Fold.calls a0 _ _ y105 t108 t109 t110 t111 _ ?side1 ?side2 ?side3 A6.out).mono ?_); (case side1 => exact Laid.below HLD.out (by repeat (first | (with_reducible first | exact HB.out | apply below_alloc | apply pw_below_drewN | apply below_drew1) | exact HB.out))); (case side2 => repeat (first | exact (Kd.R_reads' HO107.out).2.2 | (with_reducible refine Kd.C_alloc ?_ _) | (with_reducible refine Kd.C_drewN ?_ _) | (with_reducible refine Kd.C_drew ?_))); (case side3 => exact (Kd.R_reads' HO107.out).2.1); rintro e w15 ⟨rfl, hb⟩; refine ⟨_, rfl, ?_⟩; have n0_ := aM' (Kd.R_below (by (with_reducible repeat (first | apply Kd.R_alloc | apply Kd.R_drewN | apply Kd.R_drew)); exact HO107.out) hb); have n1_ := aM' (below_step (by repeat (first | (with_reducible first | exact HB.out | apply below_alloc | apply pw_below_drewN | apply below_drew1) | exact HB.out)) hb); clear HO107; clear HB; have HO107 := n0_; have HB := n1_; clear n0_ n1_; (try clear hb); (try clear hb2); (try clear hk); (try clear hi)) | ((with_reducible refine gate_dst (N := 6) rfl ?_); refine box_event ?hg (N := 6) ?hd (cs := #[.string (⟨#[]⟩ : ByteArray), .int .u64 0, .int .u64 0]) (t := 28) ?hr ?_; (case hd => rfl); (case hg => rfl); (case hr => first | (go_simp; done) | (go_simp; rfl)); intro gb112 hg w16 hbox hb; have n0_ := aM' (Kd.R_below (Kd.R_elderB (by (with_reducible repeat (first | apply Kd.R_alloc | apply Kd.R_drewN | apply Kd.R_drew)); exact HO107.out) gb112 (Nat.le_of_eq hg.symm)) hb); have n1_ := aM' (below_step (by repeat (first | (with_reducible first | exact HB.out | apply below_alloc | apply pw_below_drewN | apply below_drew1) | exact HB.out)) hb); have n2_ := aM' (hbox); have n3_ := aM' ((by rw [hg]; exact (below_size (by repeat (first | (with_reducible first | exact HB.out | apply below_alloc | apply pw_below_drewN | apply below_drew1) | exact HB.out))) : w.heap.size ≤ gb112)); have n4_ := aM' ((by rw [hg]; exact (below_size (by repeat (first | (with_reducible first | exact HB.out | apply below_alloc | apply pw_below_drewN | apply below_drew1) | exact HB.out))) : w.heap.size ≤ gb112)); clear HO107; clear HB; have HO107 := n0_; have HB := n1_; have BK112 := n2_; have GW112 := n3_; have GE112 := n4_; clear n0_ n1_ n2_ n3_ n4_; clear hb hbox hg; have hcz17_0 : w16.cell? ⟨gb112, 0, none⟩ = some (.string (⟨#[]⟩ : ByteArray)) := (blk_cell BK112.out 0).trans rfl; have hcz17_1 : w16.cell? ⟨gb112, 1, none⟩ = some (.int .u64 0) := (blk_cell BK112.out 1).trans rfl; have hcz17_2 : w16.cell? ⟨gb112, 2, none⟩ = some (.int .u64 0) := (blk_cell BK112.out 2).trans rfl; have hfz17_0 := blk_frozen BK112.out 0; have hfz17_1 := blk_frozen BK112.out 1; have hfz17_2 := blk_frozen BK112.out 2) | ((with_reducible refine gate_callee (f := 15) rfl ?_); refine goesL_ (some 24) rfl rfl Tryd.func15 (by kernel_rfl) rfl #[.int .i64 a0, .slice A1 l1.length c1] rfl (by (try simp only [List.map_toArray, List.map_cons, List.map_nil]); first | done | rfl | (simp only [List.length_drop, List.length_take]; rfl)) ?_; (with_reducible refine (paymasterref14_Fold.calls a0 _ _ l1 t113 t114 t115 t116 _ ?side1 ?side2 ?side3 A7.out).mono ?_); (case side1 => exact Laid.below HLD.out (by repeat (first | (with_reducible first | exact HB.out | apply below_alloc | apply pw_below_drewN | apply below_drew1 | refine below_set ?_ GE112.out) | exact HB.out))); (case side2 => exact Kd.C_below HR1.out (by repeat (first | (with_reducible first | exact HB.out | apply below_alloc | apply pw_below_drewN | apply below_drew1 | refine below_set ?_ GE112.out) | exact HB.out))); (case side3 => exact HC1.out); rintro e w18 ⟨rfl, hb⟩; refine ⟨_, rfl, ?_⟩; have n0_ := aM' (Kd.R_below (by (with_reducible repeat (first | apply Kd.R_alloc | apply Kd.R_drewN | apply Kd.R_drew)); exact (Kd.R_mono (Kd.R_far (p := ⟨gb112, 2, none⟩) (Kd.R_far (p := ⟨gb112, 1, none⟩) (Kd.R_far (p := ⟨gb112, 0, none⟩) (Kd.R_mono HO107.out (fun k_ hk => (⟨hk, hk.2⟩ : _ ∧ k_ ≠ gb112))) (fun _ hk => hk.2) (.string t108)) (fun _ hk => hk.2) (.int .u64 t109)) (fun _ hk => hk.2) (.int .u64 t110)) (fun _ h_ => h_.1))) hb); have n1_ := aM' (blk_below (g := gb112) (o := .cells #[.string t108, .int .u64 t109, .int .u64 t110] 28 (0, 0)) (by (with_reducible repeat (first | refine blk_drewN ?_ _ | refine blk_drew ?_ | refine blk_alloc ?_ _)); refine blk_put (cs := #[.string t108, .int .u64 t109, .int .u64 0]) ?_ 2 _ rfl; (with_reducible repeat (first | refine blk_drewN ?_ _ | refine blk_drew ?_ | refine blk_alloc ?_ _)); refine blk_put (cs := #[.string t108, .int .u64 0, .int .u64 0]) ?_ 1 _ rfl; (with_reducible repeat (first | refine blk_drewN ?_ _ | refine blk_drew ?_ | refine blk_alloc ?_ _)); refine blk_put (cs := #[.string (⟨#[]⟩ : ByteArray), .int .u64 0, .int .u64 0]) ?_ 0 _ rfl; (with_reducible repeat (first | refine blk_drewN ?_ _ | refine blk_drew ?_ | refine blk_alloc ?_ _)); exact BK112.out) hb); have n2_ := aM' (below_step (by repeat (first | (with_reducible first | exact HB.out | apply below_alloc | apply pw_below_drewN | apply below_drew1 | refine below_set ?_ GE112.out) | exact HB.out)) hb); clear HO107; clear BK112; clear HB; have HO107 := n0_; have BK112 := n1_; have HB := n2_; clear n0_ n1_ n2_; (try clear hb); (try clear hb2); (try clear hk); (try clear hi)) | ((with_reducible refine gate_dst (N := 8) rfl ?_); refine box_event ?hg (N := 8) ?hd (cs := #[.string (⟨#[]⟩ : ByteArray), .int .u64 0, .int .u64 0]) (t := 28) ?hr ?_; (case hd => rfl); (case hg => rfl); (case hr => first | (go_simp; done) | (go_simp; rfl)); intro gb117 hg w19 hbox hb; have n0_ := aM' (Kd.R_below (Kd.R_elderB (by (with_reducible repeat (first | apply Kd.R_alloc | apply Kd.R_drewN | apply Kd.R_drew)); exact HO107.out) gb117 (Nat.le_of_eq hg.symm)) hb); have n1_ := aM' (blk_below (g := gb112) (o := .cells #[.string t108, .int .u64 t109, .int .u64 t110] 28 (0, 0)) (by (with_reducible repeat (first | refine blk_drewN ?_ _ | refine blk_drew ?_ | refine blk_alloc ?_ _)); exact BK112.out) hb); have n2_ := aM' (below_step (by repeat (first | (with_reducible first | exact HB.out | apply below_alloc | apply pw_below_drewN | apply below_drew1 | refine below_set ?_ GE112.out) | exact HB.out)) hb); have n3_ := aM' (hbox); have n4_ := aM' ((by rw [hg]; exact (below_size (by repeat (first | (with_reducible first | exact HB.out | apply below_alloc | apply pw_below_drewN | apply below_drew1 | refine below_set ?_ GE112.out) | exact HB.out))) : w.heap.size ≤ gb117)); have n5_ := aM' ((by rw [hg]; exact (below_size (by repeat (first | (with_reducible first | exact HB.out | apply below_alloc | apply pw_below_drewN | apply below_drew1 | refine below_set ?_ GE112.out) | exact HB.out))) : w.heap.size ≤ gb117)); have n6_ := aM' ((by rw [hg]; exact Nat.ne_of_lt (blk_lt (g := gb112) (o := .cells #[.string t108, .int .u64 t109, .int .u64 t110] 28 (0, 0)) (by (with_reducible repeat (first | refine blk_drewN ?_ _ | refine blk_drew ?_ | refine blk_alloc ?_ _)); exact BK112.out)) : gb112 ≠ gb117)); have n7_ := aM' ((by rw [hg]; exact Nat.ne_of_gt (blk_lt (g := gb112) (o := .cells #[.string t108, .int .u64 t109, .int .u64 t110] 28 (0, 0)) (by (with_reducible repeat (first | refine blk_drewN ?_ _ | refine blk_drew ?_ | refine blk_alloc ?_ _)); exact BK112.out)) : gb117 ≠ gb112)); clear HO107; clear BK112; clear HB; have HO107 := n0_; have BK112 := n1_; have HB := n2_; have BK117 := n3_; have GW117 := n4_; have GE117 := n5_; have NB112_117 := n6_; have NB117_112 := n7_; clear n0_ n1_ n2_ n3_ n4_ n5_ n6_ n7_; clear hb hbox hg; have hnb20 := NB117_112.out; have hnc20 := NB112_117.out; have hcz21_0 : w19.cell? ⟨gb117, 0, none⟩ = some (.string (⟨#[]⟩ : ByteArray)) := (blk_cell BK117.out 0).trans rfl; have hcz21_1 : w19.cell? ⟨gb117, 1, none⟩ = some (.int .u64 0) := (blk_cell BK117.out 1).trans rfl; have hcz21_2 : w19.cell? ⟨gb117, 2, none⟩ = some (.int .u64 0) := (blk_cell BK117.out 2).trans rfl; have hfz21_0 := blk_frozen BK117.out 0; have hfz21_1 := blk_frozen BK117.out 1; have hfz21_2 := blk_frozen BK117.out 2; have hcz22_0 : w19.cell? ⟨gb112, 0, none⟩ = some (.string t108) := (blk_cell BK112.out 0).trans rfl; have hcz22_1 : w19.cell? ⟨gb112, 1, none⟩ = some (.int .u64 t109) := (blk_cell BK112.out 1).trans rfl; have hcz22_2 : w19.cell? ⟨gb112, 2, none⟩ = some (.int .u64 t110) := (blk_cell BK112.out 2).trans rfl; have hfz22_0 := blk_frozen BK112.out 0; have hfz22_1 := blk_frozen BK112.out 1; have hfz22_2 := blk_frozen BK112.out 2) | (go_at_call 16; (with_reducible refine (paymasterref14_Same.calls k _ _ y105 _ _ l1 t118 _ ?side1 ?side2 ?side3 ?side4 A10.out).mono ?_); (case side1 => refine (Kd.R_reads' (e := 28) (base := w.heap.size) (ok := fun k_ => ((True ∧ k_ ≠ gb112) ∧ k_ ≠ gb117)) (n := y105.length) (c := co14) ?_).2.2; exact (by (with_reducible repeat (first | apply Kd.R_alloc | apply Kd.R_drewN | apply Kd.R_drew)); exact (Kd.R_mono (Kd.R_far (p := ⟨gb117, 2, none⟩) (Kd.R_far (p := ⟨gb117, 1, none⟩) (Kd.R_far (p := ⟨gb117, 0, none⟩) (Kd.R_mono HO107.out (fun k_ hk => (⟨hk, hk.2⟩ : _ ∧ k_ ≠ gb117))) (fun _ hk => hk.2) (.string t113)) (fun _ hk => hk.2) (.int .u64 t114)) (fun _ hk => hk.2) (.int .u64 t115)) (fun _ h_ => h_.1)))); (case side2 => exact (Kd.R_reads' HO107.out).2.1); (case side3 => exact Kd.C_below HR1.out (by repeat (first | (with_reducible first | exact HB.out | apply below_alloc | apply pw_below_drewN | apply below_drew1 | refine below_set ?_ GE112.out | refine below_set ?_ GE117.out) | exact HB.out))); (case side4 => exact HC1.out); rintro e w' ⟨rfl, ⟨nd, rfl⟩⟩))
     go_ret
     exact ⟨by first | rfl | (simp [errW_none, errW_some] <;> rfl) | (simp [*, errW_none, errW_some] <;> rfl), by repeat (first | (with_reducible first | exact HB.out | apply below_alloc | apply pw_below_drewN | apply below_drew1 | refine below_set ?_ GE112.out | refine below_set ?_ GE117.out) | exact HB.out)⟩
    ·
     rw [if_neg c9] at H
     have c9b0 : (t111 == t116) = false := beq_eq_false_iff_ne.mpr c9
     have c9b1 : (t111 != t116) = true := bne_iff_ne.mpr c9
     obtain rfl := Option.some.inj H
     go_enter Tryd.func3, Tryd.ntmps3
     go_wp2_with (first | ((with_reducible refine gate_callee (f := 13) rfl ?_); refine goesL_ (some 11) rfl rfl Tryd.func13 (by kernel_rfl) rfl #[.slice A1 l1.length c1] rfl (by (try simp only [List.map_toArray, List.map_cons, List.map_nil]); first | done | rfl | (simp only [List.length_drop, List.length_take]; rfl)) ?_; (with_reducible refine (paymasterlaw14_Great.calls k _ _ l1 false _ ?side1 ?side2 A3.out).mono ?_); (case side1 => repeat (first | exact HR1.out | (with_reducible refine Kd.C_alloc ?_ _) | (with_reducible refine Kd.C_drewN ?_ _) | (with_reducible refine Kd.C_drew ?_))); (case side2 => exact HC1.out); rintro e w' ⟨rfl, ⟨nd, rfl⟩⟩; refine ⟨_, rfl, ?_⟩) | ((with_reducible refine gate_dst (N := 12) rfl ?_); refine Kd.R_lit kNode _ 28 ?hg (N := 12) ?hd (xs := ([] : List (SNode))) (inner := []) (ok := fun _ => True) (okp := fun _ => True) ?hr ?hp (fun _ hk => hk) trivial (Below.refl _ _) (Nat.le_refl _) (by simp) ?_; (case hd => rfl); (case hg => rfl); (case hr => first | (go_simp; done) | (go_simp; rfl)); (case hp => exact (Reps.none _ _)); intro v103 w23 ho24 hb hg_ hnew_; clear hg_ hnew_; (first | rw [← Ny102.out] at ho24 | (simp only [Int.reduceToNat] at ho24; rw [← Ny102.out] at ho24)); have n0_ := aM' (Kd.R_lower ho24 (below_size (by repeat (first | (with_reducible first | exact HB.out | apply below_alloc | apply pw_below_drewN | apply below_drew1) | exact HB.out)))); have n1_ := aM' (below_step (by repeat (first | (with_reducible first | exact HB.out | apply below_alloc | apply pw_below_drewN | apply below_drew1) | exact HB.out)) hb); clear HB; have HO104 := n0_; have HB := n1_; clear n0_ n1_; clear hb ho24) | ((with_reducible refine gate_builtin (b := .append) (xs := #[.tmp 12, .tmp 13]) rfl ?_); at_builtin; refine Kd.R_append_rows kNode (w0 := w) w.heap.size rfl (.tmp 12) (.tmp 13) 22 28 (.agg #[(.string ⟨#[]⟩), (.int .u64 0), (.int .u64 0)]) 32 rfl Tryd.underlying22 infoNode rfl (by decide) (by omega) v103 y102 l1 _ _ _ (fun _ => True) (fun _ => False) rfl rfl ?aO ?aR (fun _ _ h => h) (fun _ h => h.elim) ?aF ?aB ?aS ?aL ?_; (case aR => repeat (first | exact (Kd.C_below HR1.out HB.out) | (with_reducible refine Kd.C_alloc ?_ _) | (with_reducible refine Kd.C_drewN ?_ _) | (with_reducible refine Kd.C_drew ?_))); (case aB => exact (by repeat (first | (with_reducible first | exact HB.out | apply below_alloc | apply pw_below_drewN | apply below_drew1) | exact HB.out))); (case aF => exact (fun _ _ => trivial)); (case aO => exact (by (with_reducible repeat (first | apply Kd.R_alloc | apply Kd.R_drewN | apply Kd.R_drew)); exact HO104.out)); (case aS => exact (below_size (by repeat (first | (with_reducible first | exact HB.out | apply below_alloc | apply pw_below_drewN | apply below_drew1) | exact HB.out)))); (case aL => have := LMc5.out; omega); intro v106 w25 ho hb hg hat; rw [← Ny105.out] at ho; have n0_ := aM' (hb); have n1_ := aM' (ho); clear HB; clear HO104; have HB := n0_; have HO107 := n1_; clear n0_ n1_; clear ho hb hg hat; obtain ⟨Ao26, co26, eo26⟩ := Kd.R_slice HO107.out; subst eo26) | ((with_reducible refine gate_callee (f := 14) rfl ?_); refine goesL_ (some 18) rfl rfl Tryd.func14 (by kernel_rfl) rfl #[.int .i64 a0, .slice Ao26 y105.length co26] rfl (by (try simp only [List.map_toArray, List.map_cons, List.map_nil]); first | done | rfl | (simp only [List.length_drop, List.length_take]; rfl)) ?_; (with_reducible refine (node_Fold.calls a0 _ _ y105 t108 t109 t110 t111 _ ?side1 ?side2 ?side3 A6.out).mono ?_); (case side1 => exact Laid.below HLD.out (by repeat (first | (with_reducible first | exact HB.out | apply below_alloc | apply pw_below_drewN | apply below_drew1) | exact HB.out))); (case side2 => repeat (first | exact (Kd.R_reads' HO107.out).2.2 | (with_reducible refine Kd.C_alloc ?_ _) | (with_reducible refine Kd.C_drewN ?_ _) | (with_reducible refine Kd.C_drew ?_))); (case side3 => exact (Kd.R_reads' HO107.out).2.1); rintro e w27 ⟨rfl, hb⟩; refine ⟨_, rfl, ?_⟩; have n0_ := aM' (Kd.R_below (by (with_reducible repeat (first | apply Kd.R_alloc | apply Kd.R_drewN | apply Kd.R_drew)); exact HO107.out) hb); have n1_ := aM' (below_step (by repeat (first | (with_reducible first | exact HB.out | apply below_alloc | apply pw_below_drewN | apply below_drew1) | exact HB.out)) hb); clear HO107; clear HB; have HO107 := n0_; have HB := n1_; clear n0_ n1_; (try clear hb); (try clear hb2); (try clear hk); (try clear hi)) | ((with_reducible refine gate_dst (N := 6) rfl ?_); refine box_event ?hg (N := 6) ?hd (cs := #[.string (⟨#[]⟩ : ByteArray), .int .u64 0, .int .u64 0]) (t := 28) ?hr ?_; (case hd => rfl); (case hg => rfl); (case hr => first | (go_simp; done) | (go_simp; rfl)); intro gb112 hg w28 hbox hb; have n0_ := aM' (Kd.R_below (Kd.R_elderB (by (with_reducible repeat (first | apply Kd.R_alloc | apply Kd.R_drewN | apply Kd.R_drew)); exact HO107.out) gb112 (Nat.le_of_eq hg.symm)) hb); have n1_ := aM' (below_step (by repeat (first | (with_reducible first | exact HB.out | apply below_alloc | apply pw_below_drewN | apply below_drew1) | exact HB.out)) hb); have n2_ := aM' (hbox); have n3_ := aM' ((by rw [hg]; exact (below_size (by repeat (first | (with_reducible first | exact HB.out | apply below_alloc | apply pw_below_drewN | apply below_drew1) | exact HB.out))) : w.heap.size ≤ gb112)); have n4_ := aM' ((by rw [hg]; exact (below_size (by repeat (first | (with_reducible first | exact HB.out | apply below_alloc | apply pw_below_drewN | apply below_drew1) | exact HB.out))) : w.heap.size ≤ gb112)); clear HO107; clear HB; have HO107 := n0_; have HB := n1_; have BK112 := n2_; have GW112 := n3_; have GE112 := n4_; clear n0_ n1_ n2_ n3_ n4_; clear hb hbox hg; have hcz29_0 : w28.cell? ⟨gb112, 0, none⟩ = some (.string (⟨#[]⟩ : ByteArray)) := (blk_cell BK112.out 0).trans rfl; have hcz29_1 : w28.cell? ⟨gb112, 1, none⟩ = some (.int .u64 0) := (blk_cell BK112.out 1).trans rfl; have hcz29_2 : w28.cell? ⟨gb112, 2, none⟩ = some (.int .u64 0) := (blk_cell BK112.out 2).trans rfl; have hfz29_0 := blk_frozen BK112.out 0; have hfz29_1 := blk_frozen BK112.out 1; have hfz29_2 := blk_frozen BK112.out 2) | ((with_reducible refine gate_callee (f := 15) rfl ?_); refine goesL_ (some 24) rfl rfl Tryd.func15 (by kernel_rfl) rfl #[.int .i64 a0, .slice A1 l1.length c1] rfl (by (try simp only [List.map_toArray, List.map_cons, List.map_nil]); first | done | rfl | (simp only [List.length_drop, List.length_take]; rfl)) ?_; (with_reducible refine (paymasterref14_Fold.calls a0 _ _ l1 t113 t114 t115 t116 _ ?side1 ?side2 ?side3 A7.out).mono ?_); (case side1 => exact Laid.below HLD.out (by repeat (first | (with_reducible first | exact HB.out | apply below_alloc | apply pw_below_drewN | apply below_drew1 | refine below_set ?_ GE112.out) | exact HB.out))); (case side2 => exact Kd.C_below HR1.out (by repeat (first | (with_reducible first | exact HB.out | apply below_alloc | apply pw_below_drewN | apply below_drew1 | refine below_set ?_ GE112.out) | exact HB.out))); (case side3 => exact HC1.out); rintro e w30 ⟨rfl, hb⟩; refine ⟨_, rfl, ?_⟩; have n0_ := aM' (Kd.R_below (by (with_reducible repeat (first | apply Kd.R_alloc | apply Kd.R_drewN | apply Kd.R_drew)); exact (Kd.R_mono (Kd.R_far (p := ⟨gb112, 2, none⟩) (Kd.R_far (p := ⟨gb112, 1, none⟩) (Kd.R_far (p := ⟨gb112, 0, none⟩) (Kd.R_mono HO107.out (fun k_ hk => (⟨hk, hk.2⟩ : _ ∧ k_ ≠ gb112))) (fun _ hk => hk.2) (.string t108)) (fun _ hk => hk.2) (.int .u64 t109)) (fun _ hk => hk.2) (.int .u64 t110)) (fun _ h_ => h_.1))) hb); have n1_ := aM' (blk_below (g := gb112) (o := .cells #[.string t108, .int .u64 t109, .int .u64 t110] 28 (0, 0)) (by (with_reducible repeat (first | refine blk_drewN ?_ _ | refine blk_drew ?_ | refine blk_alloc ?_ _)); refine blk_put (cs := #[.string t108, .int .u64 t109, .int .u64 0]) ?_ 2 _ rfl; (with_reducible repeat (first | refine blk_drewN ?_ _ | refine blk_drew ?_ | refine blk_alloc ?_ _)); refine blk_put (cs := #[.string t108, .int .u64 0, .int .u64 0]) ?_ 1 _ rfl; (with_reducible repeat (first | refine blk_drewN ?_ _ | refine blk_drew ?_ | refine blk_alloc ?_ _)); refine blk_put (cs := #[.string (⟨#[]⟩ : ByteArray), .int .u64 0, .int .u64 0]) ?_ 0 _ rfl; (with_reducible repeat (first | refine blk_drewN ?_ _ | refine blk_drew ?_ | refine blk_alloc ?_ _)); exact BK112.out) hb); have n2_ := aM' (below_step (by repeat (first | (with_reducible first | exact HB.out | apply below_alloc | apply pw_below_drewN | apply below_drew1 | refine below_set ?_ GE112.out) | exact HB.out)) hb); clear HO107; clear BK112; clear HB; have HO107 := n0_; have BK112 := n1_; have HB := n2_; clear n0_ n1_ n2_; (try clear hb); (try clear hb2); (try clear hk); (try clear hi)) | ((with_reducible refine gate_dst (N := 8) rfl ?_); refine box_event ?hg (N := 8) ?hd (cs := #[.string (⟨#[]⟩ : ByteArray), .int .u64 0, .int .u64 0]) (t := 28) ?hr ?_; (case hd => rfl); (case hg => rfl); (case hr => first | (go_simp; done) | (go_simp; rfl)); intro gb117 hg w31 hbox hb; have n0_ := aM' (Kd.R_below (Kd.R_elderB (by (with_reducible repeat (first | apply Kd.R_alloc | apply Kd.R_drewN | apply Kd.R_drew)); exact HO107.out) gb117 (Nat.le_of_eq hg.symm)) hb); have n1_ := aM' (blk_below (g := gb112) (o := .cells #[.string t108, .int .u64 t109, .int .u64 t110] 28 (0, 0)) (by (with_reducible repeat (first | refine blk_drewN ?_ _ | refine blk_drew ?_ | refine blk_alloc ?_ _)); exact BK112.out) hb); have n2_ := aM' (below_step (by repeat (first | (with_reducible first | exact HB.out | apply below_alloc | apply pw_below_drewN | apply below_drew1 | refine below_set ?_ GE112.out) | exact HB.out)) hb); have n3_ := aM' (hbox); have n4_ := aM' ((by rw [hg]; exact (below_size (by repeat (first | (with_reducible first | exact HB.out | apply below_alloc | apply pw_below_drewN | apply below_drew1 | refine below_set ?_ GE112.out) | exact HB.out))) : w.heap.size ≤ gb117)); have n5_ := aM' ((by rw [hg]; exact (below_size (by repeat (first | (with_reducible first | exact HB.out | apply below_alloc | apply pw_below_drewN | apply below_drew1 | refine below_set ?_ GE112.out) | exact HB.out))) : w.heap.size ≤ gb117)); have n6_ := aM' ((by rw [hg]; exact Nat.ne_of_lt (blk_lt (g := gb112) (o := .cells #[.string t108, .int .u64 t109, .int .u64 t110] 28 (0, 0)) (by (with_reducible repeat (first | refine blk_drewN ?_ _ | refine blk_drew ?_ | refine blk_alloc ?_ _)); exact BK112.out)) : gb112 ≠ gb117)); have n7_ := aM' ((by rw [hg]; exact Nat.ne_of_gt (blk_lt (g := gb112) (o := .cells #[.string t108, .int .u64 t109, .int .u64 t110] 28 (0, 0)) (by (with_reducible repeat (first | refine blk_drewN ?_ _ | refine blk_drew ?_ | refine blk_alloc ?_ _)); exact BK112.out)) : gb117 ≠ gb112)); clear HO107; clear BK112; clear HB; have HO107 := n0_; have BK112 := n1_; have HB := n2_; have BK117 := n3_; have GW117 := n4_; have GE117 := n5_; have NB112_117 := n6_; have NB117_112 := n7_; clear n0_ n1_ n2_ n3_ n4_ n5_ n6_ n7_; clear hb hbox hg; have hnb32 := NB117_112.out; have hnc32 := NB112_117.out; have hcz33_0 : w31.cell? ⟨gb117, 0, none⟩ = some (.string (⟨#[]⟩ : ByteArray)) := (blk_cell BK117.out 0).trans rfl; have hcz33_1 : w31.cell? ⟨gb117, 1, none⟩ = some (.int .u64 0) := (blk_cell BK117.out 1).trans rfl; have hcz33_2 : w31.cell? ⟨gb117, 2, none⟩ = some (.int .u64 0) := (blk_cell BK117.out 2).trans rfl; have hfz33_0 := blk_frozen BK117.out 0; have hfz33_1 := blk_frozen BK117.out 1; have hfz33_2 := blk_frozen BK117.out 2; have hcz34_0 : w31.cell? ⟨gb112, 0, none⟩ = some (.string t108) := (blk_cell BK112.out 0).trans rfl; have hcz34_1 : w31.cell? ⟨gb112, 1, none⟩ = some (.int .u64 t109) := (blk_cell BK112.out 1).trans rfl; have hcz34_2 : w31.cell? ⟨gb112, 2, none⟩ = some (.int .u64 t110) := (blk_cell BK112.out 2).trans rfl; have hfz34_0 := blk_frozen BK112.out 0; have hfz34_1 := blk_frozen BK112.out 1; have hfz34_2 := blk_frozen BK112.out 2))
     go_ret
     exact ⟨by first | rfl | (simp [errW_none, errW_some] <;> rfl) | (simp [*, errW_none, errW_some] <;> rfl), by repeat (first | (with_reducible first | exact HB.out | apply below_alloc | apply pw_below_drewN | apply below_drew1 | refine below_set ?_ GE112.out | refine below_set ?_ GE117.out) | exact HB.out)⟩
   ·
    rw [if_neg c8] at H
    have c8b0 : (t108.toList == t113.toList && ((t109 == t114 && (t110 == t115)))) = false := by simpa using c8
    (try (have c8b1 : decide (t108.toList = t113.toList && ((t109 == t114 && (t110 == t115)))) = false := by simpa using c8))
    (try (have c8b2 : (t108.toList == t113.toList && ((t109 == t114 && (t110 == t115)))) = false := by simpa using c8))
    (try (have c8b3 : ¬ (t108.toList = t113.toList && ((t109 == t114 && (t110 == t115)))) := by simpa using c8))
    clear c8
    obtain rfl := Option.some.inj H
    go_enter Tryd.func3, Tryd.ntmps3
    go_wp2_with (first | ((with_reducible refine gate_callee (f := 13) rfl ?_); refine goesL_ (some 11) rfl rfl Tryd.func13 (by kernel_rfl) rfl #[.slice A1 l1.length c1] rfl (by (try simp only [List.map_toArray, List.map_cons, List.map_nil]); first | done | rfl | (simp only [List.length_drop, List.length_take]; rfl)) ?_; (with_reducible refine (paymasterlaw14_Great.calls k _ _ l1 false _ ?side1 ?side2 A3.out).mono ?_); (case side1 => repeat (first | exact HR1.out | (with_reducible refine Kd.C_alloc ?_ _) | (with_reducible refine Kd.C_drewN ?_ _) | (with_reducible refine Kd.C_drew ?_))); (case side2 => exact HC1.out); rintro e w' ⟨rfl, ⟨nd, rfl⟩⟩; refine ⟨_, rfl, ?_⟩) | ((with_reducible refine gate_dst (N := 12) rfl ?_); refine Kd.R_lit kNode _ 28 ?hg (N := 12) ?hd (xs := ([] : List (SNode))) (inner := []) (ok := fun _ => True) (okp := fun _ => True) ?hr ?hp (fun _ hk => hk) trivial (Below.refl _ _) (Nat.le_refl _) (by simp) ?_; (case hd => rfl); (case hg => rfl); (case hr => first | (go_simp; done) | (go_simp; rfl)); (case hp => exact (Reps.none _ _)); intro v103 w35 ho36 hb hg_ hnew_; clear hg_ hnew_; (first | rw [← Ny102.out] at ho36 | (simp only [Int.reduceToNat] at ho36; rw [← Ny102.out] at ho36)); have n0_ := aM' (Kd.R_lower ho36 (below_size (by repeat (first | (with_reducible first | exact HB.out | apply below_alloc | apply pw_below_drewN | apply below_drew1) | exact HB.out)))); have n1_ := aM' (below_step (by repeat (first | (with_reducible first | exact HB.out | apply below_alloc | apply pw_below_drewN | apply below_drew1) | exact HB.out)) hb); clear HB; have HO104 := n0_; have HB := n1_; clear n0_ n1_; clear hb ho36) | ((with_reducible refine gate_builtin (b := .append) (xs := #[.tmp 12, .tmp 13]) rfl ?_); at_builtin; refine Kd.R_append_rows kNode (w0 := w) w.heap.size rfl (.tmp 12) (.tmp 13) 22 28 (.agg #[(.string ⟨#[]⟩), (.int .u64 0), (.int .u64 0)]) 32 rfl Tryd.underlying22 infoNode rfl (by decide) (by omega) v103 y102 l1 _ _ _ (fun _ => True) (fun _ => False) rfl rfl ?aO ?aR (fun _ _ h => h) (fun _ h => h.elim) ?aF ?aB ?aS ?aL ?_; (case aR => repeat (first | exact (Kd.C_below HR1.out HB.out) | (with_reducible refine Kd.C_alloc ?_ _) | (with_reducible refine Kd.C_drewN ?_ _) | (with_reducible refine Kd.C_drew ?_))); (case aB => exact (by repeat (first | (with_reducible first | exact HB.out | apply below_alloc | apply pw_below_drewN | apply below_drew1) | exact HB.out))); (case aF => exact (fun _ _ => trivial)); (case aO => exact (by (with_reducible repeat (first | apply Kd.R_alloc | apply Kd.R_drewN | apply Kd.R_drew)); exact HO104.out)); (case aS => exact (below_size (by repeat (first | (with_reducible first | exact HB.out | apply below_alloc | apply pw_below_drewN | apply below_drew1) | exact HB.out)))); (case aL => have := LMc5.out; omega); intro v106 w37 ho hb hg hat; rw [← Ny105.out] at ho; have n0_ := aM' (hb); have n1_ := aM' (ho); clear HB; clear HO104; have HB := n0_; have HO107 := n1_; clear n0_ n1_; clear ho hb hg hat; obtain ⟨Ao38, co38, eo38⟩ := Kd.R_slice HO107.out; subst eo38) | ((with_reducible refine gate_callee (f := 14) rfl ?_); refine goesL_ (some 18) rfl rfl Tryd.func14 (by kernel_rfl) rfl #[.int .i64 a0, .slice Ao38 y105.length co38] rfl (by (try simp only [List.map_toArray, List.map_cons, List.map_nil]); first | done | rfl | (simp only [List.length_drop, List.length_take]; rfl)) ?_; (with_reducible refine (node_Fold.calls a0 _ _ y105 t108 t109 t110 t111 _ ?side1 ?side2 ?side3 A6.out).mono ?_); (case side1 => exact Laid.below HLD.out (by repeat (first | (with_reducible first | exact HB.out | apply below_alloc | apply pw_below_drewN | apply below_drew1) | exact HB.out))); (case side2 => repeat (first | exact (Kd.R_reads' HO107.out).2.2 | (with_reducible refine Kd.C_alloc ?_ _) | (with_reducible refine Kd.C_drewN ?_ _) | (with_reducible refine Kd.C_drew ?_))); (case side3 => exact (Kd.R_reads' HO107.out).2.1); rintro e w39 ⟨rfl, hb⟩; refine ⟨_, rfl, ?_⟩; have n0_ := aM' (Kd.R_below (by (with_reducible repeat (first | apply Kd.R_alloc | apply Kd.R_drewN | apply Kd.R_drew)); exact HO107.out) hb); have n1_ := aM' (below_step (by repeat (first | (with_reducible first | exact HB.out | apply below_alloc | apply pw_below_drewN | apply below_drew1) | exact HB.out)) hb); clear HO107; clear HB; have HO107 := n0_; have HB := n1_; clear n0_ n1_; (try clear hb); (try clear hb2); (try clear hk); (try clear hi)) | ((with_reducible refine gate_dst (N := 6) rfl ?_); refine box_event ?hg (N := 6) ?hd (cs := #[.string (⟨#[]⟩ : ByteArray), .int .u64 0, .int .u64 0]) (t := 28) ?hr ?_; (case hd => rfl); (case hg => rfl); (case hr => first | (go_simp; done) | (go_simp; rfl)); intro gb112 hg w40 hbox hb; have n0_ := aM' (Kd.R_below (Kd.R_elderB (by (with_reducible repeat (first | apply Kd.R_alloc | apply Kd.R_drewN | apply Kd.R_drew)); exact HO107.out) gb112 (Nat.le_of_eq hg.symm)) hb); have n1_ := aM' (below_step (by repeat (first | (with_reducible first | exact HB.out | apply below_alloc | apply pw_below_drewN | apply below_drew1) | exact HB.out)) hb); have n2_ := aM' (hbox); have n3_ := aM' ((by rw [hg]; exact (below_size (by repeat (first | (with_reducible first | exact HB.out | apply below_alloc | apply pw_below_drewN | apply below_drew1) | exact HB.out))) : w.heap.size ≤ gb112)); have n4_ := aM' ((by rw [hg]; exact (below_size (by repeat (first | (with_reducible first | exact HB.out | apply below_alloc | apply pw_below_drewN | apply below_drew1) | exact HB.out))) : w.heap.size ≤ gb112)); clear HO107; clear HB; have HO107 := n0_; have HB := n1_; have BK112 := n2_; have GW112 := n3_; have GE112 := n4_; clear n0_ n1_ n2_ n3_ n4_; clear hb hbox hg; have hcz41_0 : w40.cell? ⟨gb112, 0, none⟩ = some (.string (⟨#[]⟩ : ByteArray)) := (blk_cell BK112.out 0).trans rfl; have hcz41_1 : w40.cell? ⟨gb112, 1, none⟩ = some (.int .u64 0) := (blk_cell BK112.out 1).trans rfl; have hcz41_2 : w40.cell? ⟨gb112, 2, none⟩ = some (.int .u64 0) := (blk_cell BK112.out 2).trans rfl; have hfz41_0 := blk_frozen BK112.out 0; have hfz41_1 := blk_frozen BK112.out 1; have hfz41_2 := blk_frozen BK112.out 2) | ((with_reducible refine gate_callee (f := 15) rfl ?_); refine goesL_ (some 24) rfl rfl Tryd.func15 (by kernel_rfl) rfl #[.int .i64 a0, .slice A1 l1.length c1] rfl (by (try simp only [List.map_toArray, List.map_cons, List.map_nil]); first | done | rfl | (simp only [List.length_drop, List.length_take]; rfl)) ?_; (with_reducible refine (paymasterref14_Fold.calls a0 _ _ l1 t113 t114 t115 t116 _ ?side1 ?side2 ?side3 A7.out).mono ?_); (case side1 => exact Laid.below HLD.out (by repeat (first | (with_reducible first | exact HB.out | apply below_alloc | apply pw_below_drewN | apply below_drew1 | refine below_set ?_ GE112.out) | exact HB.out))); (case side2 => exact Kd.C_below HR1.out (by repeat (first | (with_reducible first | exact HB.out | apply below_alloc | apply pw_below_drewN | apply below_drew1 | refine below_set ?_ GE112.out) | exact HB.out))); (case side3 => exact HC1.out); rintro e w42 ⟨rfl, hb⟩; refine ⟨_, rfl, ?_⟩; have n0_ := aM' (Kd.R_below (by (with_reducible repeat (first | apply Kd.R_alloc | apply Kd.R_drewN | apply Kd.R_drew)); exact (Kd.R_mono (Kd.R_far (p := ⟨gb112, 2, none⟩) (Kd.R_far (p := ⟨gb112, 1, none⟩) (Kd.R_far (p := ⟨gb112, 0, none⟩) (Kd.R_mono HO107.out (fun k_ hk => (⟨hk, hk.2⟩ : _ ∧ k_ ≠ gb112))) (fun _ hk => hk.2) (.string t108)) (fun _ hk => hk.2) (.int .u64 t109)) (fun _ hk => hk.2) (.int .u64 t110)) (fun _ h_ => h_.1))) hb); have n1_ := aM' (blk_below (g := gb112) (o := .cells #[.string t108, .int .u64 t109, .int .u64 t110] 28 (0, 0)) (by (with_reducible repeat (first | refine blk_drewN ?_ _ | refine blk_drew ?_ | refine blk_alloc ?_ _)); refine blk_put (cs := #[.string t108, .int .u64 t109, .int .u64 0]) ?_ 2 _ rfl; (with_reducible repeat (first | refine blk_drewN ?_ _ | refine blk_drew ?_ | refine blk_alloc ?_ _)); refine blk_put (cs := #[.string t108, .int .u64 0, .int .u64 0]) ?_ 1 _ rfl; (with_reducible repeat (first | refine blk_drewN ?_ _ | refine blk_drew ?_ | refine blk_alloc ?_ _)); refine blk_put (cs := #[.string (⟨#[]⟩ : ByteArray), .int .u64 0, .int .u64 0]) ?_ 0 _ rfl; (with_reducible repeat (first | refine blk_drewN ?_ _ | refine blk_drew ?_ | refine blk_alloc ?_ _)); exact BK112.out) hb); have n2_ := aM' (below_step (by repeat (first | (with_reducible first | exact HB.out | apply below_alloc | apply pw_below_drewN | apply below_drew1 | refine below_set ?_ GE112.out) | exact HB.out)) hb); clear HO107; clear BK112; clear HB; have HO107 := n0_; have BK112 := n1_; have HB := n2_; clear n0_ n1_ n2_; (try clear hb); (try clear hb2); (try clear hk); (try clear hi)) | ((with_reducible refine gate_dst (N := 8) rfl ?_); refine box_event ?hg (N := 8) ?hd (cs := #[.string (⟨#[]⟩ : ByteArray), .int .u64 0, .int .u64 0]) (t := 28) ?hr ?_; (case hd => rfl); (case hg => rfl); (case hr => first | (go_simp; done) | (go_simp; rfl)); intro gb117 hg w43 hbox hb; have n0_ := aM' (Kd.R_below (Kd.R_elderB (by (with_reducible repeat (first | apply Kd.R_alloc | apply Kd.R_drewN | apply Kd.R_drew)); exact HO107.out) gb117 (Nat.le_of_eq hg.symm)) hb); have n1_ := aM' (blk_below (g := gb112) (o := .cells #[.string t108, .int .u64 t109, .int .u64 t110] 28 (0, 0)) (by (with_reducible repeat (first | refine blk_drewN ?_ _ | refine blk_drew ?_ | refine blk_alloc ?_ _)); exact BK112.out) hb); have n2_ := aM' (below_step (by repeat (first | (with_reducible first | exact HB.out | apply below_alloc | apply pw_below_drewN | apply below_drew1 | refine below_set ?_ GE112.out) | exact HB.out)) hb); have n3_ := aM' (hbox); have n4_ := aM' ((by rw [hg]; exact (below_size (by repeat (first | (with_reducible first | exact HB.out | apply below_alloc | apply pw_below_drewN | apply below_drew1 | refine below_set ?_ GE112.out) | exact HB.out))) : w.heap.size ≤ gb117)); have n5_ := aM' ((by rw [hg]; exact (below_size (by repeat (first | (with_reducible first | exact HB.out | apply below_alloc | apply pw_below_drewN | apply below_drew1 | refine below_set ?_ GE112.out) | exact HB.out))) : w.heap.size ≤ gb117)); have n6_ := aM' ((by rw [hg]; exact Nat.ne_of_lt (blk_lt (g := gb112) (o := .cells #[.string t108, .int .u64 t109, .int .u64 t110] 28 (0, 0)) (by (with_reducible repeat (first | refine blk_drewN ?_ _ | refine blk_drew ?_ | refine blk_alloc ?_ _)); exact BK112.out)) : gb112 ≠ gb117)); have n7_ := aM' ((by rw [hg]; exact Nat.ne_of_gt (blk_lt (g := gb112) (o := .cells #[.string t108, .int .u64 t109, .int .u64 t110] 28 (0, 0)) (by (with_reducible repeat (first | refine blk_drewN ?_ _ | refine blk_drew ?_ | refine blk_alloc ?_ _)); exact BK112.out)) : gb117 ≠ gb112)); clear HO107; clear BK112; clear HB; have HO107 := n0_; have BK112 := n1_; have HB := n2_; have BK117 := n3_; have GW117 := n4_; have GE117 := n5_; have NB112_117 := n6_; have NB117_112 := n7_; clear n0_ n1_ n2_ n3_ n4_ n5_ n6_ n7_; clear hb hbox hg; have hnb44 := NB117_112.out; have hnc44 := NB112_117.out; have hcz45_0 : w43.cell? ⟨gb117, 0, none⟩ = some (.string (⟨#[]⟩ : ByteArray)) := (blk_cell BK117.out 0).trans rfl; have hcz45_1 : w43.cell? ⟨gb117, 1, none⟩ = some (.int .u64 0) := (blk_cell BK117.out 1).trans rfl; have hcz45_2 : w43.cell? ⟨gb117, 2, none⟩ = some (.int .u64 0) := (blk_cell BK117.out 2).trans rfl; have hfz45_0 := blk_frozen BK117.out 0; have hfz45_1 := blk_frozen BK117.out 1; have hfz45_2 := blk_frozen BK117.out 2; have hcz46_0 : w43.cell? ⟨gb112, 0, none⟩ = some (.string t108) := (blk_cell BK112.out 0).trans rfl; have hcz46_1 : w43.cell? ⟨gb112, 1, none⟩ = some (.int .u64 t109) := (blk_cell BK112.out 1).trans rfl; have hcz46_2 : w43.cell? ⟨gb112, 2, none⟩ = some (.int .u64 t110) := (blk_cell BK112.out 2).trans rfl; have hfz46_0 := blk_frozen BK112.out 0; have hfz46_1 := blk_frozen BK112.out 1; have hfz46_2 := blk_frozen BK112.out 2))
    go_ret
    exact ⟨by first | rfl | (simp [errW_none, errW_some] <;> rfl) | (simp [*, errW_none, errW_some] <;> rfl), by repeat (first | (with_reducible first | exact HB.out | apply below_alloc | apply pw_below_drewN | apply below_drew1 | refine below_set ?_ GE112.out | refine below_set ?_ GE117.out) | exact HB.out)⟩
  ·
   rw [if_neg c5] at H
   exact absurd H (by simp)
end Go.Proofs.YtijfifphcchbbaaDoor.P
namespace Go.Proofs.YtijfifphcchbbaaDoor.P
open Go.RowKit Go.Proofs.YtijfifphcchbbaaDoorW.PrintWords Go.Proofs.YtijfifphcchbbaaDoorW.PrintLast Go.Proofs.YtijfifphcchbbaaDoorW.PrintMore
set_option linter.unusedVariables false
set_option linter.unusedSimpArgs false
set_option linter.unnecessarySimpa false
def eqN (a b : SNode) : Bool := a.f0.toList == b.f0.toList && (a.f1.f0 == b.f1.f0 && a.f1.f1 == b.f1.f1)
theorem eqN_refl (a : SNode) : eqN a a = true := by simp [eqN]
theorem eqN_not (a b : SNode) : (!(a.f0.toList == b.f0.toList) || ((!(a.f1.f0 == b.f1.f0) || (!(a.f1.f1 == b.f1.f1))))) = !eqN a b := by
 unfold eqN
 cases (a.f0.toList == b.f0.toList) <;> cases (a.f1.f0 == b.f1.f0) <;> cases (a.f1.f1 == b.f1.f1) <;> rfl
def sameL : List SNode → List SNode → Bool
 | [], [] => true
 | a :: l, b :: m => eqN a b && sameL l m
 | _, _ => false
theorem sameL_refl : ∀ l, sameL l l = true
 | [] => rfl
 | a :: l => by rw [sameL, eqN_refl, sameL_refl l]; rfl
theorem sameL_len : ∀ l m : List SNode, l.length ≠ m.length → sameL l m = false
 | [], [], h => absurd rfl h
 | [], _ :: _, _ => rfl
 | _ :: _, [], _ => rfl
 | a :: l, b :: m, h => by rw [sameL, sameL_len l m (by simpa using h)]; simp
theorem sameL_drop (l m : List SNode) (i : Nat) (h : i < l.length) (h' : i < m.length) : sameL (l.drop i) (m.drop i) = (eqN l[i] m[i] && sameL (l.drop (i + 1)) (m.drop (i + 1))) := by
 rw [List.drop_eq_getElem_cons h, List.drop_eq_getElem_cons h', sameL]
theorem same14_loop (l m : List SNode) (hl : l.length ≤ 9223372036854775807) (hm : l.length = m.length) : ∀ d i : Nat, i + d = l.length → Ev (fun k => paymasterref14_Same.l0 k l m (i : Int)) (sameL (l.drop i) (m.drop i)) := by
 intro d
 induction d with
 | zero =>
  intro i hi
  refine Ev.step (f := fun _ => some true) (fun k => ?_) (ev_eq (Ev.now true) ?_)
  ·
   rw [paymasterref14_Same.l0, if_neg (by omega)]
  ·
   rw [List.drop_of_length_le (by omega), List.drop_of_length_le (by omega)]; rfl
 | succ d ih =>
  intro i hi
  have h1 : i < l.length := by omega
  have h2 : i < m.length := by omega
  rw [sameL_drop l m i h1 h2]
  cases hb : eqN l[i] m[i] with
  | false =>
   refine Ev.step (f := fun _ => some false) (fun k => ?_) (ev_eq (Ev.now false) (by simp))
   rw [paymasterref14_Same.l0, if_pos (by omega), if_pos (by omega), if_pos (by omega), rdNode_nat l i h1, rdNode_nat m i h2, eqN_not, hb, if_pos (by rfl)]
  | true =>
   refine Ev.step (f := fun k => paymasterref14_Same.l0 k l m ((i + 1 : Nat) : Int)) (fun k => ?_) (ev_eq (ih (i + 1) (by omega)) (by simp))
   rw [paymasterref14_Same.l0, if_pos (by omega), if_pos (by omega), if_pos (by omega), rdNode_nat l i h1, rdNode_nat m i h2, eqN_not, hb, if_neg (by simp), wrap64_id (by omega) (by omega)]; rfl
theorem same14_ev (l m : List SNode) (hl : l.length ≤ 9223372036854775807) : Ev (fun k => paymasterref14_Same.f k l m) (sameL l m) := by
 unfold paymasterref14_Same.f
 by_cases h : l.length = m.length
 ·
  refine Ev.congr (fun k => by rw [if_pos (by omega)]; rfl) (ev_eq (same14_loop l m hl h l.length 0 (by omega)) (by simp))
 ·
  exact Ev.some_ (fun k => by rw [if_neg (by omega), sameL_len l m h])
end Go.Proofs.YtijfifphcchbbaaDoor.P
namespace Go.Proofs.YtijfifphcchbbaaDoor.P
open Go.RowKit Go.Proofs.YtijfifphcchbbaaDoorW.PrintWords Go.Proofs.YtijfifphcchbbaaDoorW.PrintLast Go.Proofs.YtijfifphcchbbaaDoorW.PrintMore
set_option linter.unusedVariables false
set_option linter.unusedSimpArgs false
set_option linter.unnecessarySimpa false
theorem pure_NodeFolds : ∀ (y0 : Int) (y1 : (List SNode)), (Lit.int .i64 y0).wf = true → (y1.length ≤ 140737488355328 ∧ ∀ q0 ∈ y1, wfNode q0) → ∃ k, paymasterlaw14_NodeFolds.f k y0 y1 = some true := by
 intro wd l _ hl
 have ul : ∀ x ∈ l, (0 ≤ x.f1.f0 ∧ x.f1.f0 < 18446744073709551616) ∧ (0 ≤ x.f1.f1 ∧ x.f1.f1 < 18446744073709551616) := fun x hx => ⟨wf_u64 (hl.2 x hx).2.1, wf_u64 (hl.2 x hx).2.2⟩
 have hl2 : l.length ≤ 9223372036854775807 := by have := hl.1; omega
 refine Ev.rounds ?_
 unfold paymasterlaw14_NodeFolds.f
 refine Ev.bind (great14_ev l hl2) ?_
 cases hg : greatN l with
 | true => exact Ev.some_ (fun k => by rw [if_pos rfl])
 | false =>
  have h300 : l.length ≤ 300 := by
   unfold greatN at hg
   simp only [Bool.or_eq_false_iff, decide_eq_false_iff_not] at hg
   omega
  have e1 : node_Fold.f wd l = some (foldI wd l) := by unfold node_Fold.f; rw [if_pos ⟨h300, ul⟩]
  have e2 : paymasterref14_Fold.f wd l = some (foldI wd l) := by unfold paymasterref14_Fold.f; rw [if_pos ⟨h300, ul⟩]
  refine Ev.congr (f := fun k => (paymasterref14_Same.f k l l).bind fun t => some t) (fun k => ?_) ?_
  ·
   rw [if_neg (by decide)]
   simp only [Option.bind_some, List.nil_append, List.length_nil]
   rw [if_pos (by omega), e1, e2]
   simp
  ·
   refine Ev.bind (same14_ev l l hl2) ?_
   rw [sameL_refl]
   exact Ev.now _
end Go.Proofs.YtijfifphcchbbaaDoor.P
namespace Go.Proofs.YtijfifphcchbbaaDoor.nodeFolds
open Go.Proofs.YtijfifphcchbbaaDoor.P Go.ChangeShapes Go.WideShapes Go.ChangeAt Go.RowKit
open Go.ChangeMaps (open_string shut_string)
open Go.Proofs.YtijfifphcchbbaaDoorW.PrintWords Go.Proofs.YtijfifphcchbbaaDoorW.PrintLast Go.Proofs.YtijfifphcchbbaaDoorW.PrintMore
set_option linter.unusedVariables false
set_option linter.unusedSimpArgs false
theorem own : ownKnob Tryd.prog.godebug = none := by kernel_rfl
theorem laidOut : laidOutB Tryd.prog = true := by kernel_rfl
set_option maxRecDepth 100000 in
theorem lifted (os : Os) (started : os.Started) (H : Type) (enc : TypeId × Value → H) :
    ReturnsInHanded {} Tryd.checked os 3 .any (fun w args => (Rows.nodeFoldsSpec.pre enc Tryd.prog Tryd.f3 [] false w args ∧ laidMetH Tryd.prog Rows.nodeFoldsRow.laid w) ∧ sizedMet enc Tryd.prog Tryd.f3 (OpenSpec.ofChange Rows.nodeFoldsSpec) false w args)
      (Rows.nodeFoldsSpec.post enc Tryd.prog Tryd.f3 false true false false) := by
  refine returnsInHanded_of_change_and (C := Tryd.checked) (X := fun w _ => laidMetH Tryd.prog Rows.nodeFoldsRow.laid w) (fun _ _ _ hh h => h.of_heap hh) own started (by kernel_rfl) Tryd.func3
    (ChangeSpec.witness_at (enc := enc) (C := Tryd.checked) (os := os) (X := fun w _ => laidMetH Tryd.prog Rows.nodeFoldsRow.laid w) false (P.laidWorld os) #[.int .i64 0, .slice none 0 0] 8 rfl (by kernel_rfl) (by kernel_rfl) (by kernel_rfl) (by kernel_rfl) (by kernel_rfl) (P.laidWorld_met os _)) ?_
  intro W base args ds gs before hval0 hW _ hsz0 hL _
  have hval : ∀ (j : Nat) t v, Tryd.f3.params[j]? = some t → args[j]? = some v → Value.okWide Tryd.prog W .any base t v := hval0
  have hW' := hW
  obtain ⟨p, q, hA0, hV, rfl, hfz, hnd⟩ := hW
  have hA : DataW.TrodAll enc Tryd.prog W 0 (fun _ => true) true Tryd.f3.params.toList args.toList ds p := hA0
  rw [Tryd.params3] at hA hval
  obtain ⟨v0, vs0, d0, ds0, p0, q0, hargs, rfl, rfl, h0, r0⟩ := trodAll_cons hA
  obtain ⟨v1, vs1, d1, ds1, p1, q1, rfl, rfl, rfl, h1, r1⟩ := trodAll_cons r0
  obtain ⟨rfl, rfl, rfl⟩ := trodAll_nil r1
  obtain rfl : args = #[v0, v1] := by cases args; simp_all
  obtain ⟨rfl, rfl⟩ := trodVars_none hV
  have hz0 : Sized Tryd.prog 3 d0 := Sized.each hsz0 (j := 0) rfl rfl
  have hz1 : Sized Tryd.prog 22 d1 := Sized.each hsz0 (j := 1) rfl rfl
  have k0 := h0
  have lt0 : ∀ x ∈ p0, x.block < W.heap.size := by obtain ⟨m, hm⟩ := k0; exact DataW.trod_lt m _ _ _ hm
  obtain ⟨y0, rfl, rfl, rfl, w0⟩ := open_int Tryd.underlying3 (hval 0 3 v0 rfl rfl) h0
  have k1 := h1
  have lt1 : ∀ x ∈ p1, x.block < W.heap.size := by obtain ⟨m, hm⟩ := k1; exact DataW.trod_lt m _ _ _ hm
  obtain ⟨a1, len1, cap1, rfl⟩ := okWide_slice Tryd.underlying22 (hval 1 22 v1 rfl rfl)
  obtain ⟨y1, hk1, w1⟩ := (Rd.slice Tryd.underlying22 (by kernel_rfl) (of_decide_eq_true (by kernel_rfl)) rdNode).cell rfl h1 hz1
  obtain ⟨A1, c1, e1, l1, g1⟩ := hk1
  rw [List.cons.injEq] at e1
  obtain ⟨e1, -⟩ := e1
  injection e1 with ea1 el1 ec1
  subst ea1 el1 ec1
  clear hA0 hval0 hsz0
  obtain ⟨k, h⟩ := pure_NodeFolds y0 y1 w0 w1
  refine (paymasterlaw14_NodeFolds.calls k y0 _ _ y1 true W (P.laid_of_met hL) g1 l1 h).mono fun e W' ⟨he, bel0⟩ => ?_
  have bel := bel0
  subst he
  exact ⟨_, rfl, _, _, _, [], _, [], hW', trodAll_mk1 (shut_bool Tryd.underlying4 _), (trodAll_cons_mk (Below.trod laidOut (by kernel_rfl) (of_decide_eq_true (by kernel_rfl)) k0 bel lt0) (trodAll_cons_mk (Below.trod laidOut (by kernel_rfl) (of_decide_eq_true (by kernel_rfl)) k1 bel lt1) trodAll_mk0)), rfl, bel.frame _, fun h => by cases h⟩
theorem over : Rows.nodeFoldsRow.holds Tryd.pinned (OpenSpec.ofChange Rows.nodeFoldsSpec) :=
  OpenClaim.holds_of_wide 3 Tryd.f3 rfl rfl rfl rfl rfl rfl rfl ⟨rfl, rfl, rfl, rfl, rfl⟩ rfl rfl rfl rfl rfl (by kernel_rfl) Tryd.func3 (by kernel_rfl)
    (of_decide_eq_true (by kernel_rfl)) (by unfold Func.isWrapper; first | (rw [if_pos (by decide +kernel)]; kernel_rfl) | (rw [if_neg (by decide +kernel)]; exact ⟨rfl, rfl⟩))
    (fun os started H enc _ => lifted os started H enc)
set_option maxRecDepth 100000 in
theorem proved : Rows.NodeFoldsCardSaid :=
  Claim7.holds_tied_plain_at .later [] [.data] true (true, "165769d79d58bfc62aef2440c3d64497f5a859f08bfc759ed4b0f4abe4cad1c8") true
    over (fun _ h => by cases h) (by kernel_rfl) (fun _ h => by cases h) nodeFolds_row_tie rfl ⟨rfl, rfl⟩ (by kernel_rfl) rfl
    (fun f fn hf hfn => by
      obtain rfl : f = 3 := Option.some.inj ((show Tryd.prog.funcNamed "paymaster/paymasterlaw14.NodeFolds" = some 3 by kernel_rfl).symm.trans hf) |>.symm
      obtain rfl : fn = Tryd.f3 := (Option.some.inj (Tryd.func3.symm.trans hfn)).symm
      exact ⟨by kernel_rfl, fun j t ht => by
        rw [Tryd.params3] at ht
        have h3 : t ∈ [3, 22] := by
          have := List.mem_of_getElem? (l := [3, 22]) (i := j) (a := t) (by simpa using ht)
          exact this
        simp only [List.mem_cons, List.not_mem_nil, or_false] at h3
        rcases h3 with rfl | rfl
        · exact (show Tryd.prog.wantsStandIn 3 = false by kernel_rfl)
        · exact (show Tryd.prog.wantsStandIn 22 = false by kernel_rfl)
      ⟩)
    (by kernel_rfl)
#print axioms proved
end Go.Proofs.YtijfifphcchbbaaDoor.nodeFolds
namespace Go.Proofs.YtijfifphcchbbaaDoor
/-- The row, under a short name, for the claim. -/
theorem nodeFolds_holds : Rows.NodeFoldsCardSaid := nodeFolds.proved
end Go.Proofs.YtijfifphcchbbaaDoor
