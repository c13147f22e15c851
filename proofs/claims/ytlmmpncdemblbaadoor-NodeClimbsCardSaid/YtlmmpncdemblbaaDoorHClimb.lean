-- Hand-written contracts of this workplace, filled for this seat by a program.
import Derived.Test.YtlmmpncdemblbaaDoorPx0
import Derived.Test.YtlmmpncdemblbaaDoorPn0
import Derived.Test.YtlmmpncdemblbaaDoorPn5
import Derived.Test.YtlmmpncdemblbaaDoorPn8
import Derived.Test.YtlmmpncdemblbaaDoorHTurns
import Derived.Test.YtlmmpncdemblbaaDoorHTakes
import Derived.Test.YtlmmpncdemblbaaDoorHAll
import Derived.Test.YtlmmpncdemblbaaDoorUJoin
import Derived.Sort.CutIn
namespace Go.Proofs.YtlmmpncdemblbaaDoor.P
open Go.RowKit Go.Proofs.YtlmmpncdemblbaaDoorW.PrintWords Go.Proofs.YtlmmpncdemblbaaDoorW.PrintLast Go.Proofs.YtlmmpncdemblbaaDoorW.PrintMore
set_option linter.unusedVariables false
set_option linter.unusedSimpArgs false
set_option linter.unnecessarySimpa false
attribute [local go_sem] Oper.semAt_some
/-! Layer 14's climb. -/
theorem turns.calls (p : Int) (A : Option Addr) (m c : Nat) (w : World) : Calls Tryd.prog 35 #[.int .u64 p, .slice A m c] w fun e w' => e = .returned (.func (.func 68) #[] #[.pointer (some ⟨w.heap.size + 1, 0, none⟩), .pointer (some ⟨w.heap.size, 0, none⟩)]) ∧ w' = (w.alloc (.cells #[.int .u64 p] 22)).alloc (.cells #[.slice A m c] 27) := by
  go_enter Tryd.func35, Tryd.ntmps35
  go_wp2
  go_ret
  exact ⟨rfl, rfl⟩
/-- One step up. -/
def stepI (w : Int) (n : SNode) (x : SNode × Bool) : ByteArray × Int × Int × Int := if x.2 then joinI w n x.1 else joinI w x.1 n
abbrev nodeJ (j : ByteArray × Int × Int × Int) : SNode := ⟨j.1, ⟨j.2.1, j.2.2.1⟩⟩
/-- What one climbs to; the error. -/
def climbL (w : Int) : SNode → List (SNode × Bool) → ByteArray × Int × Int × Int
  | n, [] => (n.f0, n.f1.f0, n.f1.f1, 0)
  | n, x :: xs => if (stepI w n x).2.2.2 = 0 then climbL w (nodeJ (stepI w n x)) xs else (⟨#[]⟩, 0, 0, (stepI w n x).2.2.2)
def climbI (w : Int) (n : SNode) (p : Int) (l : List SNode) : ByteArray × Int × Int × Int :=
  if nodeOf w n = true ∧ l.all (nodeOf w) = true then (if 63 < l.length then (⟨#[]⟩, 0, 0, 2) else climbL w n (turnsTo p l l.length)) else (⟨#[]⟩, 0, 0, 70)
def upTo (w : Int) : SNode → List (SNode × Bool) → Option SNode
  | n, [] => some n
  | n, x :: xs => if (stepI w n x).2.2.2 = 0 then upTo w (nodeJ (stepI w n x)) xs else none
theorem climbL_up (w : Int) (rest : List (SNode × Bool)) : ∀ (pre : List (SNode × Bool)) (n st : SNode), upTo w n pre = some st → climbL w n (pre ++ rest) = climbL w st rest
  | [], n, st, h => by cases h; rfl
  | x :: xs, n, st, h => by
    unfold upTo at h
    split at h
    · rename_i h0
      show climbL w n (x :: (xs ++ rest)) = _
      unfold climbL
      rw [if_pos h0]
      have := climbL_up w rest xs _ st h
      rw [this]
      cases rest <;> rfl
    · cases h
theorem upTo_snoc (w : Int) (x : SNode × Bool) : ∀ (pre : List (SNode × Bool)) (n st : SNode), upTo w n pre = some st → (stepI w st x).2.2.2 = 0 → upTo w n (pre ++ [x]) = some (nodeJ (stepI w st x))
  | [], n, st, h, h0 => by cases h; show upTo w n [x] = _; unfold upTo; rw [if_pos h0]; rfl
  | y :: ys, n, st, h, h0 => by
    unfold upTo at h
    split at h
    · rename_i h1
      show upTo w n (y :: (ys ++ [x])) = _
      unfold upTo
      rw [if_pos h1]
      exact upTo_snoc w x ys _ st h h0
    · cases h
theorem turnsTo_pre (p : Int) (l : List SNode) (k : Nat) : ∀ d, ∃ rest, turnsTo p l (k + d) = turnsTo p l k ++ rest
  | 0 => ⟨[], by simp⟩
  | d + 1 => by
    obtain ⟨r, hr⟩ := turnsTo_pre p l k d
    refine ⟨r ++ [(l.getD (k + d) ⟨ByteArray.empty, ⟨0, 0⟩⟩, rightS p (k + d))], ?_⟩
    rw [← List.append_assoc, ← hr]
    simp [turnsTo, ← Nat.add_assoc, List.range_succ]
theorem addI128_ok (a b c d : Int) (ha : 0 ≤ a) (hb : 0 ≤ b) (hc : 0 ≤ c) (hd : 0 ≤ d) : 0 ≤ (addI128 a b c d).1 ∧ (addI128 a b c d).1 < 18446744073709551616 ∧ 0 ≤ (addI128 a b c d).2.1 ∧ (addI128 a b c d).2.1 < 18446744073709551616 := by
  unfold addI128
  split
  · refine ⟨?_, ?_, ?_, ?_⟩ <;> dsimp only <;> omega
  · refine ⟨?_, ?_, ?_, ?_⟩ <;> dsimp only <;> omega
theorem joinI_ok (w : Int) (l r : SNode) (ul : OkU l.f1) (ur : OkU r.f1) : OkU (nodeJ (joinI w l r)).f1 := by
  have h := addI128_ok l.f1.f0 l.f1.f1 r.f1.f0 r.f1.f1 ul.h0.1 ul.h1.1 ur.h0.1 ur.h1.1
  unfold joinI
  split
  · split
    · exact ⟨⟨h.1, h.2.1⟩, ⟨h.2.2.1, h.2.2.2⟩⟩
    · exact ⟨⟨by simp, by simp⟩, ⟨by simp, by simp⟩⟩
  · exact ⟨⟨by simp, by simp⟩, ⟨by simp, by simp⟩⟩
theorem joinI_err (w : Int) (l r : SNode) (h : (joinI w l r).2.2.2 ≠ 0) : joinI w l r = (⟨#[]⟩, 0, 0, (joinI w l r).2.2.2) := by
  unfold joinI at h ⊢
  split
  · split
    · rename_i h1 h2; rw [if_pos h1, if_pos h2] at h; exact absurd rfl h
    · rfl
  · rfl
abbrev nodeA (n : SNode) : Array Value := #[.string n.f0, .int .u64 n.f1.f0, .int .u64 n.f1.f1]
/-- A climb under way: the width, what one has climbed to, the results' boxes. -/
structure Clim (w : World) (wd : Int) (st r2 : SNode) (r3 : Int) (W : World) : Prop where
  h0 : W.heap[w.heap.size]? = some (.cells #[.int .i64 wd] 3 (0, 0))
  h1 : W.heap[w.heap.size + 1]? = some (.cells (nodeA st) 26 (0, 0))
  h2 : W.heap[w.heap.size + 1 + 1]? = some (.cells (nodeA r2) 26 (0, 0))
  h3 : W.heap[w.heap.size + 1 + 1 + 1]? = some (.cells #[.int .i64 r3] 29 (0, 0))
  hB : Below w.heap.size w W
theorem Clim.lt {w W : World} {wd r3 : Int} {st r2 : SNode} (h : Clim w wd st r2 r3 W) : w.heap.size + 1 + 1 + 1 < W.heap.size := blk_lt h.h3
theorem Clim.below {w W W' : World} {wd r3 : Int} {st r2 : SNode} (h : Clim w wd st r2 r3 W) (hb : Below W.heap.size W W') : Clim w wd st r2 r3 W' :=
  ⟨blk_below h.h0 hb, blk_below h.h1 hb, blk_below h.h2 hb, blk_below h.h3 hb, h.hB.trans (hb.mono h.hB.size)⟩
theorem Clim.own {w X Y : World} {wd r3 : Int} {st r2 : SNode} {B : Nat} {row : Option Nat} (h : Clim w wd st r2 r3 X) (hg : X.grownBy Y row) (hlt : w.heap.size + 1 + 1 + 1 < B) (hr : ∀ r, row = some r → B ≤ r) : Clim w wd st r2 r3 Y := by
  have hl := h.lt
  have hk : ∀ k, k ≤ w.heap.size + 1 + 1 + 1 → Y.heap[k]? = X.heap[k]? := fun k hk => hg.block k (by omega) (fun e => by have := hr k e.symm; omega)
  exact ⟨(hk _ (by omega)).trans h.h0, (hk _ (by omega)).trans h.h1, (hk _ (by omega)).trans h.h2, (hk _ (by omega)).trans h.h3, ⟨hg.os.trans h.hB.os, hg.tape.trans h.hB.tape, hg.output.trans h.hB.output, Nat.le_trans h.hB.size hg.size, fun i hi => (hk i (by omega)).trans (h.hB.block i hi)⟩⟩
theorem climb_results (tmps : Array Value) (W : World) (g2 g3 : Nat) (x y z e : Value) (h8 : tmps.getD 8 undef = .pointer (some ⟨g2, 0, none⟩)) (h9 : tmps.getD 9 undef = .pointer (some ⟨g3, 0, none⟩)) (hg2 : W.heap[g2]? = some (.cells #[x, y, z] 26 (0, 0))) (hg3 : W.heap[g3]? = some (.cells #[e] 29 (0, 0))) :
    (results Tryd.f14 tmps).run Tryd.prog W = .ok (.tuple #[.agg #[x, y, z], e]) W := by
  have h8' : tmps[8]?.getD undef = .pointer (some ⟨g2, 0, none⟩) := by simpa using h8
  have h9' : tmps[9]?.getD undef = .pointer (some ⟨g3, 0, none⟩) := by simpa using h9
  have hr : Tryd.f14.results = #[.cell 8 26, .cell 9 29] := rfl
  have hc : W.cell? ⟨g3, 0, none⟩ = some e := blk_cell hg3 0
  have h1 := run_loadVar_row W g2 26 26 #[x, y, z] (0, 0) _ hg2 Tryd.underlying26 rfl (by kernel_rfl)
  have hu := Tryd.underlying29
  have h2 : (loadVar 29 ⟨g3, 0, none⟩).run Tryd.prog W = .ok e W := by
    go_simp
  simp [results, hr, h8', h9', asAddr, h1, h2]
/-- The results are laid. -/
theorem Clim.put {w W : World} {wd r3 : Int} {st r2 : SNode} (h : Clim w wd st r2 r3 W) (x : SNode) (e : Int) :
    Clim w wd st x e ((((W.setCell ⟨w.heap.size + 1 + 1, 0, none⟩ (.string x.f0)).setCell ⟨w.heap.size + 1 + 1, 1, none⟩ (.int .u64 x.f1.f0)).setCell ⟨w.heap.size + 1 + 1, 2, none⟩ (.int .u64 x.f1.f1)).setCell ⟨w.heap.size + 1 + 1 + 1, 0, none⟩ (.int .i64 e)) := by
  have a1 := blk_put (cs' := nodeA ⟨x.f0, r2.f1⟩) h.h2 0 (.string x.f0) rfl
  have a2 := blk_put (cs' := nodeA ⟨x.f0, ⟨x.f1.f0, r2.f1.f1⟩⟩) a1 1 (.int .u64 x.f1.f0) rfl
  have a3 := blk_put (cs' := nodeA x) a2 2 (.int .u64 x.f1.f1) rfl
  exact ⟨blk_far (blk_far (blk_far (blk_far h.h0 (by (try dsimp only); omega) _) (by (try dsimp only); omega) _) (by (try dsimp only); omega) _) (by (try dsimp only); omega) _, blk_far (blk_far (blk_far (blk_far h.h1 (by (try dsimp only); omega) _) (by (try dsimp only); omega) _) (by (try dsimp only); omega) _) (by (try dsimp only); omega) _,
    blk_far a3 (by (try dsimp only); omega) _, blk_put (blk_far (blk_far (blk_far h.h3 (by (try dsimp only); omega) _) (by (try dsimp only); omega) _) (by (try dsimp only); omega) _) 0 (.int .i64 e) rfl,
    below_set (below_set (below_set (below_set h.hB (by (try dsimp only); omega)) (by (try dsimp only); omega)) (by (try dsimp only); omega)) (by (try dsimp only); omega)⟩
/-- The climb goes on. -/
theorem Clim.step {w W : World} {wd r3 : Int} {st r2 : SNode} (h : Clim w wd st r2 r3 W) (x : SNode) :
    Clim w wd x r2 r3 (((W.setCell ⟨w.heap.size + 1, 0, none⟩ (.string x.f0)).setCell ⟨w.heap.size + 1, 1, none⟩ (.int .u64 x.f1.f0)).setCell ⟨w.heap.size + 1, 2, none⟩ (.int .u64 x.f1.f1)) := by
  have a1 := blk_put (cs' := nodeA ⟨x.f0, st.f1⟩) h.h1 0 (.string x.f0) rfl
  have a2 := blk_put (cs' := nodeA ⟨x.f0, ⟨x.f1.f0, st.f1.f1⟩⟩) a1 1 (.int .u64 x.f1.f0) rfl
  have a3 := blk_put (cs' := nodeA x) a2 2 (.int .u64 x.f1.f1) rfl
  exact ⟨blk_far (blk_far (blk_far h.h0 (by (try dsimp only); omega) _) (by (try dsimp only); omega) _) (by (try dsimp only); omega) _, a3, blk_far (blk_far (blk_far h.h2 (by (try dsimp only); omega) _) (by (try dsimp only); omega) _) (by (try dsimp only); omega) _, blk_far (blk_far (blk_far h.h3 (by (try dsimp only); omega) _) (by (try dsimp only); omega) _) (by (try dsimp only); omega) _,
    below_set (below_set (below_set h.hB (by (try dsimp only); omega)) (by (try dsimp only); omega)) (by (try dsimp only); omega)⟩
theorem climb_ret {w W : World} {wd r3 : Int} {st r2 : SNode} {tmps : Array Value} {R : Ending → World → Prop} (h : Clim w wd st r2 r3 W) (h8 : tmps.getD 8 undef = .pointer (some ⟨w.heap.size + 1 + 1, 0, none⟩)) (h9 : tmps.getD 9 undef = .pointer (some ⟨w.heap.size + 1 + 1 + 1, 0, none⟩))
    (hR : R (.returned (.tuple #[nodeV r2, .int .i64 r3])) W) : bodyPostM Fence.wide 3 Tryd.prog Tryd.f14 R .ret { tmps := tmps, defers := [] } W :=
  ⟨_, climb_results _ _ _ _ _ _ _ _ h8 h9 h.h2 h.h3, hR⟩
theorem blk_res {W : World} {B2 B3 D : Nat} {o : Obj} (h : W.heap[D]? = some o) (h2 : D ≠ B2) (h3 : D ≠ B3) (a b c d : Value) :
    ((((W.setCell ⟨B2, 0, none⟩ a).setCell ⟨B2, 1, none⟩ b).setCell ⟨B2, 2, none⟩ c).setCell ⟨B3, 0, none⟩ d).heap[D]? = some o := by
  rw [Below.heap_setCell _ _ _ _ h3, Below.heap_setCell _ _ _ _ h2, Below.heap_setCell _ _ _ _ h2, Below.heap_setCell _ _ _ _ h2]
  exact h
theorem climb_retD {w W : World} {wd r3 : Int} {st r2 : SNode} {tmps : Array Value} {R : Ending → World → Prop} {D : Nat} (h : Clim w wd st r2 r3 W) (hD : w.heap.size + 1 + 1 + 1 < D) (hdf : W.heap[D]? = some (.deferred (some []))) (h8 : tmps.getD 8 undef = .pointer (some ⟨w.heap.size + 1 + 1, 0, none⟩)) (h9 : tmps.getD 9 undef = .pointer (some ⟨w.heap.size + 1 + 1 + 1, 0, none⟩))
    (hR : ∀ W', Below w.heap.size w W' → R (.returned (.tuple #[nodeV r2, .int .i64 r3])) W') : bodyPostM Fence.wide 3 Tryd.prog Tryd.f14 R .ret { tmps := tmps, defers := [{ target := .collected D, args := #[] }] } W := by
  refine ⟨by simp, .inl ⟨_, _, rfl, run_takeDeferred hdf, ?_⟩⟩
  refine ⟨_, climb_results _ _ _ _ _ _ _ _ h8 h9 ((World.putObj_heap_other (by omega)).trans h.h2) ((World.putObj_heap_other (by omega)).trans h.h3), hR _ ?_⟩
  exact ⟨h.hB.os, h.hB.tape, h.hB.output, by simpa using h.hB.size, fun i hi => (World.putObj_heap_other (by omega)).trans (h.hB.block i hi)⟩
theorem put3 {W : World} {g : Nat} {z : SNode} (h : W.heap[g]? = some (.cells (nodeA z) 26 (0, 0))) (x : SNode) :
    (((W.setCell ⟨g, 0, none⟩ (.string x.f0)).setCell ⟨g, 1, none⟩ (.int .u64 x.f1.f0)).setCell ⟨g, 2, none⟩ (.int .u64 x.f1.f1)).heap[g]? = some (.cells (nodeA x) 26 (0, 0)) := by
  have a1 := blk_put (cs' := nodeA ⟨x.f0, z.f1⟩) h 0 (.string x.f0) rfl
  have a2 := blk_put (cs' := nodeA ⟨x.f0, ⟨x.f1.f0, z.f1.f1⟩⟩) a1 1 (.int .u64 x.f1.f0) rfl
  exact blk_put (cs' := nodeA x) a2 2 (.int .u64 x.f1.f1) rfl
theorem far3 {W : World} {g k : Nat} {o : Obj} (h : W.heap[k]? = some o) (hn : k ≠ g) (a b c : Value) : (((W.setCell ⟨g, 0, none⟩ a).setCell ⟨g, 1, none⟩ b).setCell ⟨g, 2, none⟩ c).heap[k]? = some o := by
  rw [Below.heap_setCell _ _ _ _ hn, Below.heap_setCell _ _ _ _ hn, Below.heap_setCell _ _ _ _ hn]
  exact h
theorem below3 {W V : World} (h : Below W.heap.size W V) {g : Nat} (hg : W.heap.size ≤ g) (a b c : Value) : Below W.heap.size W (((V.setCell ⟨g, 0, none⟩ a).setCell ⟨g, 1, none⟩ b).setCell ⟨g, 2, none⟩ c) :=
  below_set (below_set (below_set h hg) hg) hg
/-- Two nodes in boxes of their own. -/
structure Two (W : World) (b12 b13 : Nat) (x s : SNode) (W' : World) : Prop where
  ne : b12 ≠ b13
  l12 : W.heap.size ≤ b12
  l13 : W.heap.size ≤ b13
  hB : Below W.heap.size W W'
  h12 : W'.heap[b12]? = some (.cells (nodeA x) 26 (0, 0))
  h13 : W'.heap[b13]? = some (.cells (nodeA s) 26 (0, 0))
theorem Two.put {W V : World} {b12 b13 : Nat} {x s : SNode} (h : Two W b12 b13 x s V) (x' s' : SNode) :
    Two W b12 b13 x' s' ((((((V.setCell ⟨b12, 0, none⟩ (.string x'.f0)).setCell ⟨b12, 1, none⟩ (.int .u64 x'.f1.f0)).setCell ⟨b12, 2, none⟩ (.int .u64 x'.f1.f1)).setCell ⟨b13, 0, none⟩ (.string s'.f0)).setCell ⟨b13, 1, none⟩ (.int .u64 s'.f1.f0)).setCell ⟨b13, 2, none⟩ (.int .u64 s'.f1.f1)) :=
  ⟨h.ne, h.l12, h.l13, below3 (below3 h.hB h.l12 _ _ _) h.l13 _ _ _, far3 (put3 h.h12 x') h.ne _ _ _, put3 (far3 h.h13 (Ne.symm h.ne) _ _ _) s'⟩
theorem climb_twoA (W : World) (x s : SNode) : Two W W.heap.size (W.heap.size + 1) x s ((W.alloc (.cells #[.string x.f0, .int .u64 x.f1.f0, .int .u64 x.f1.f1] 26)).alloc (.cells #[.string s.f0, .int .u64 s.f1.f0, .int .u64 s.f1.f1] 26)).drew := by
  have h0 := blk_drew (blk_alloc (blk_new W (.cells (nodeA x) 26)) (.cells (nodeA s) 26))
  have h1 := blk_new (W.alloc (.cells (nodeA x) 26)) (.cells (nodeA s) 26)
  rw [World.size_alloc] at h1
  exact ⟨by omega, by omega, by omega, below_drew (below_alloc (below_alloc (Below.refl _ _) _) _), h0, blk_drew h1⟩
theorem climb_twoB (W : World) (x s : SNode) : Two W (W.heap.size + 1) W.heap.size x s ((W.alloc (.cells #[.string s.f0, .int .u64 s.f1.f0, .int .u64 s.f1.f1] 26)).alloc (.cells #[.string x.f0, .int .u64 x.f1.f0, .int .u64 x.f1.f1] 26)).drew := by
  have h := climb_twoA W s x
  exact ⟨by omega, by omega, by omega, h.hB, h.h13, h.h12⟩
abbrev OkX := { x : SNode × Bool // OkU x.1.f1 }
/-- The blocks that the way over sides reads. -/
def climbS (w2 : World) (A : Option Addr) (l : List SNode) (k : Nat) : Prop := k = w2.heap.size + 1 ∨ k = w2.heap.size ∨ (0 < l.length ∧ ∃ a, A = some a ∧ k = a.block)
theorem nodes_block {w : World} {a : Addr} {l : List SNode} (h : Kd.C kNode w (some a) l.length l) (h0 : 0 < l.length) : a.block < w.heap.size := by
  obtain ⟨ad, e, hx, -, -⟩ := at_TNode h 0 (by omega) (by omega)
  cases e
  have := World.block_lt_of_cell? _ _ hx
  unfold Addr.add at this
  split at this <;> exact this
set_option maxRecDepth 100000 in
set_option maxHeartbeats 2000000 in
theorem climb.calls (wd : Int) (n : SNode) (p : Int) (A : Option Addr) (c : Nat) (l : List SNode) (w : World) (hK : Laid w) (hr : Kd.C kNode w A l.length l) (hp : 0 ≤ p) (un : OkU n.f1) (ul : ∀ x ∈ l, OkU x.f1) :
    Calls Tryd.prog 14 #[.int .i64 wd, nodeV n, .int .u64 p, .slice A l.length c] w fun e w' => e = .returned (.tuple #[nodeV (nodeJ (climbI wd n p l)), .int .i64 (climbI wd n p l).2.2.2]) ∧ Below w.heap.size w w' := by
  have HR := Aside0.mk hr
  have HK := Aside0.mk hK
  have UN := Aside0.mk un
  have UL := Aside0.mk ul
  clear hr hK un ul
  refine (callsIn_wide (n := 3)).1 ?_
  refine callsIn_of_wp_marks Tryd.func14 rfl trivial ?_ rfl
  simp only [Tryd.ntmps14, List.size_toArray, List.length_cons, List.length_nil, Nat.reduceAdd, Nat.reduceSub, Array.replicate_succ, Array.replicate_zero, List.push_toArray, List.append_toArray, List.nil_append, List.cons_append]
  gi_wp2_with fail
  refine ⟨trivial, ?_⟩
  refine (callsIn_wide.2 (node_Of.calls wd n.f0 n.f1.f0 n.f1.f1 (nodeOf wd n) _ (node_Of_eq wd n))).mono ?_
  rintro e w1 ⟨rfl, hb⟩
  have hB0 : Below w.heap.size w w1 := (below_alloc (below_alloc (below_alloc (below_alloc (Below.refl _ _) _) _) _) _).trans (hb.mono (by simp; omega))
  have hw0 : w1.heap[w.heap.size]? = some (.cells #[.int .i64 wd] 3 (0, 0)) := blk_below (blk_alloc (blk_alloc (blk_alloc (blk_new w _) _) _) _) hb
  have hw1 : w1.heap[w.heap.size + 1]? = some (.cells #[.string n.f0, .int .u64 n.f1.f0, .int .u64 n.f1.f1] 26 (0, 0)) := by
    refine blk_below (blk_alloc (blk_alloc ?_ _) _) hb
    have := blk_new (w.alloc (.cells #[.int .i64 wd] 3)) (.cells #[.string n.f0, .int .u64 n.f1.f0, .int .u64 n.f1.f1] 26)
    rwa [World.size_alloc] at this
  have hw2 : w1.heap[w.heap.size + 1 + 1]? = some (.cells #[.string ⟨#[]⟩, .int .u64 0, .int .u64 0] 26 (0, 0)) := by
    refine blk_below (blk_alloc ?_ _) hb
    have := blk_new ((w.alloc (.cells #[.int .i64 wd] 3)).alloc (.cells #[.string n.f0, .int .u64 n.f1.f0, .int .u64 n.f1.f1] 26)) (.cells #[.string ⟨#[]⟩, .int .u64 0, .int .u64 0] 26)
    rwa [World.size_alloc, World.size_alloc] at this
  have hw3 : w1.heap[w.heap.size + 1 + 1 + 1]? = some (.cells #[.int .i64 0] 29 (0, 0)) := by
    refine blk_below ?_ hb
    have := blk_new (((w.alloc (.cells #[.int .i64 wd] 3)).alloc (.cells #[.string n.f0, .int .u64 n.f1.f0, .int .u64 n.f1.f1] 26)).alloc (.cells #[.string ⟨#[]⟩, .int .u64 0, .int .u64 0] 26)) (.cells #[.int .i64 0] 29)
    rwa [World.size_alloc, World.size_alloc, World.size_alloc] at this
  have hC : Clim w wd n ⟨⟨#[]⟩, ⟨0, 0⟩⟩ 0 w1 := ⟨hw0, hw1, hw2, hw3, hB0⟩
  have HC := Aside0.mk hC
  have c0 : w1.cell? ⟨w.heap.size, 0, none⟩ = some (.int .i64 wd) := blk_cell hw0 0
  have cr0 : w1.cell? ⟨w.heap.size + 1 + 1, 0, none⟩ = some (.string ⟨#[]⟩) := blk_cell hw2 0
  have cr1 : w1.cell? ⟨w.heap.size + 1 + 1, 1, none⟩ = some (.int .u64 0) := blk_cell hw2 1
  have cr2 : w1.cell? ⟨w.heap.size + 1 + 1, 2, none⟩ = some (.int .u64 0) := blk_cell hw2 2
  have fr : ∀ i, w1.frozen? ⟨w.heap.size + 1 + 1, i, none⟩ = false := fun i => blk_frozen hw2 i
  have ce : w1.cell? ⟨w.heap.size + 1 + 1 + 1, 0, none⟩ = some (.int .i64 0) := blk_cell hw3 0
  have fe : ∀ i, w1.frozen? ⟨w.heap.size + 1 + 1 + 1, i, none⟩ = false := fun i => blk_frozen hw3 i
  clear hb hB0 hw0 hw1 hw2 hw3 hC
  cases hof : nodeOf wd n with
  | false =>
    have HI := Aside0.mk (show climbI wd n p l = (⟨#[]⟩, 0, 0, 70) by unfold climbI; rw [if_neg (by rw [hof]; simp)])
    gi_wp2_with (refine ⟨trivial, ?_⟩)
    rw [HI.out]
    exact climb_ret (HC.out.put ⟨⟨#[]⟩, ⟨0, 0⟩⟩ 70) rfl rfl ⟨rfl, (HC.out.put ⟨⟨#[]⟩, ⟨0, 0⟩⟩ 70).hB⟩
  | true =>
    gi_wp2_with fail
    refine ⟨trivial, ?_⟩
    refine (callsIn_wide.2 (all.calls wd A c l _ (Kd.C_below HR.out HC.out.hB))).mono ?_
    rintro e w2 ⟨rfl, hb⟩
    have h1 : (decide (1 ≤ wd) && (decide (wd ≤ 32) && l.all (nodeOf wd))) = l.all (nodeOf wd) := by
      obtain ⟨h1, h2, _⟩ := nodeOf_w hof
      simp [h1, h2]
    rw [h1]
    have hC2 := HC.out.below hb
    clear HC c0 cr0 cr1 cr2 fr ce fe h1 hb
    have HC := Aside0.mk hC2
    have cr0 : w2.cell? ⟨w.heap.size + 1 + 1, 0, none⟩ = some (.string ⟨#[]⟩) := blk_cell hC2.h2 0
    have cr1 : w2.cell? ⟨w.heap.size + 1 + 1, 1, none⟩ = some (.int .u64 0) := blk_cell hC2.h2 1
    have cr2 : w2.cell? ⟨w.heap.size + 1 + 1, 2, none⟩ = some (.int .u64 0) := blk_cell hC2.h2 2
    have fr : ∀ i, w2.frozen? ⟨w.heap.size + 1 + 1, i, none⟩ = false := fun i => blk_frozen hC2.h2 i
    have ce : w2.cell? ⟨w.heap.size + 1 + 1 + 1, 0, none⟩ = some (.int .i64 0) := blk_cell hC2.h3 0
    have fe : ∀ i, w2.frozen? ⟨w.heap.size + 1 + 1 + 1, i, none⟩ = false := fun i => blk_frozen hC2.h3 i
    clear hC2
    cases hal : l.all (nodeOf wd) with
    | false =>
      have HI := Aside0.mk (show climbI wd n p l = (⟨#[]⟩, 0, 0, 70) by unfold climbI; rw [if_neg (by rw [hal]; simp)])
      gi_wp2_with (refine ⟨trivial, ?_⟩)
      rw [HI.out]
      exact climb_ret (HC.out.put ⟨⟨#[]⟩, ⟨0, 0⟩⟩ 70) rfl rfl ⟨rfl, (HC.out.put ⟨⟨#[]⟩, ⟨0, 0⟩⟩ 70).hB⟩
    | true =>
      by_cases h63 : 63 < l.length
      · have b1 : decide (63 < (l.length : Int)) = true := decide_eq_true (by omega)
        have HI := Aside0.mk (show climbI wd n p l = (⟨#[]⟩, 0, 0, 2) by unfold climbI; rw [if_pos ⟨hof, hal⟩, if_pos h63])
        gi_wp2_with (refine ⟨trivial, ?_⟩)
        rw [HI.out]
        exact climb_ret (HC.out.put ⟨⟨#[]⟩, ⟨0, 0⟩⟩ 2) rfl rfl ⟨rfl, (HC.out.put ⟨⟨#[]⟩, ⟨0, 0⟩⟩ 2).hB⟩
      · have b1 : decide (63 < (l.length : Int)) = false := decide_eq_false (by omega)
        have HI := Aside0.mk (show climbI wd n p l = climbL wd n (turnsTo p l l.length) by unfold climbI; rw [if_pos ⟨hof, hal⟩, if_neg h63])
        gi_wp2_with fail
        refine ⟨trivial, ?_⟩
        refine (callsIn_wide.2 (turns.calls p A l.length c w2)).mono ?_
        rintro e w3 ⟨rfl, hw3⟩
        clear cr0 cr1 cr2 fr ce fe b1
        have hP : w3.heap[w2.heap.size]? = some (.cells #[.int .u64 p] 22 (0, 0)) := by rw [hw3]; exact blk_alloc (blk_new w2 _) _
        have hS : w3.heap[w2.heap.size + 1]? = some (.cells #[.slice A l.length c] 27 (0, 0)) := by
          rw [hw3]
          have := blk_new (w2.alloc (.cells #[.int .u64 p] 22)) (.cells #[.slice A l.length c] 27)
          rwa [World.size_alloc] at this
        have hC3 : Clim w wd n ⟨⟨#[]⟩, ⟨0, 0⟩⟩ 0 w3 := by rw [hw3]; exact HC.out.below (below_alloc (below_alloc (Below.refl _ _) _) _)
        have hz3 : w3.heap.size = w2.heap.size + 2 := by rw [hw3]; simp
        have hlt2 := HC.out.lt
        have HP := Aside0.mk hP
        have HS := Aside0.mk hS
        have HC3 := Aside0.mk hC3
        have HZ := Aside0.mk hz3
        have HL := Aside0.mk hlt2
        have HH := Aside0.mk h63
        clear hw3 hP hS hC3 hz3 hlt2 HC h63
        have HLT : ∀ k, climbS w2 A l k → k < w3.heap.size := by
          rintro k (rfl | rfl | ⟨h0, a, rfl, rfl⟩)
          · rw [HZ.out]; omega
          · rw [HZ.out]; omega
          · exact Nat.lt_of_lt_of_le (nodes_block HR.out h0) HC3.out.hB.size
        have HFAR : ∀ k, climbS w2 A l k → k ≠ w.heap.size + 1 := by
          rintro k (rfl | rfl | ⟨h0, a, rfl, rfl⟩)
          · have := HL.out; omega
          · have := HL.out; omega
          · have := nodes_block HR.out h0; omega
        have HLT := Aside0.mk HLT
        have HFAR := Aside0.mk HFAR
        gi_wp2_with fail
        refine wpIn_rangeFunc_ownH (α := OkX) (n := 3) rfl (by omega) (gf := 68) (lb := #[.pointer (some ⟨w2.heap.size + 1, 0, none⟩), .pointer (some ⟨w2.heap.size, 0, none⟩)]) rfl trivial (enters_of Tryd.func68 (by kernel_rfl) rfl) (encs := fun x => turnV x.1) (Kp := KeepS (climbS w2 A l))
          (S := fun xs => xs.map Subtype.val = turnsTo p l l.length) (Sp := fun pre => ∃ k, k ≤ l.length ∧ pre.map Subtype.val = turnsTo p l k) (N := l.length) (w0 := w3) ?hseq (fun h k => KeepS.trans h k) ?hKb (Below.refl _ _) (fun _ => rfl)
          (fun pre W => ∃ st, upTo wd n (pre.map Subtype.val) = some st ∧ OkU st.f1 ∧ Clim w wd st ⟨⟨#[]⟩, ⟨0, 0⟩⟩ 0 W ∧ w3.heap.size ≤ W.heap.size)
          (fun c pre W => c = .ret ∧ ∃ pre0 x st st', pre.map Subtype.val = pre0 ++ [x] ∧ upTo wd n pre0 = some st ∧ (stepI wd st x).2.2.2 ≠ 0 ∧ Clim w wd st' ⟨⟨#[]⟩, ⟨0, 0⟩⟩ (stepI wd st x).2.2.2 W)
          ?hI ?hIx ⟨n, rfl, UN.out, HC3.out, Nat.le_refl _⟩
          (fun x a' W => ∃ bx, w3.heap.size ≤ bx ∧ W.heap[bx]? = some (.cells (nodeA x.1.1) 26 (0, 0)) ∧ a' = ({ tmps := #[.int .i64 wd, nodeV n, .int .u64 p, .slice A l.length c, .pointer (some ⟨w.heap.size, 0, none⟩), .pointer (some ⟨w.heap.size + 1, 0, none⟩), undef, undef, .pointer (some ⟨w.heap.size + 1 + 1, 0, none⟩), .pointer (some ⟨w.heap.size + 1 + 1 + 1, 0, none⟩), .pointer (some ⟨bx, 0, none⟩), .bool x.1.2, undef, undef, undef, undef, .bool false, .int .i64 wd, .agg #[.string n.f0, .int .u64 n.f1.f0, .int .u64 n.f1.f1], .bool true, .bool false, .bool false, .int .i64 wd, .slice A l.length c, .bool true, .bool false, .bool false, undef, .bool false, .slice A l.length c, .int .i64 (l.length : Int), .bool false, undef, .int .u64 p, .slice A l.length c, .func (.func 68) #[] #[.pointer (some ⟨w2.heap.size + 1, 0, none⟩), .pointer (some ⟨w2.heap.size, 0, none⟩)], nodeV x.1.1, .bool x.1.2, undef, undef, undef, undef, undef, undef, undef, undef, undef, undef, undef, undef, undef, undef, undef, undef, undef, undef], defers := [] } : Act)) ?hAx ?assign ?body ?done ?stop
        case hKb =>
          intro W l2 o o' hl2 ho hc hw k hk
          have := HLT.out k hk
          exact World.putObj_heap_other (by omega)
        case hI =>
          rintro s X Y row ⟨st, h1, h2, h3, h4⟩ hg hr
          exact ⟨st, h1, h2, h3.own hg (by rw [HZ.out]; have := HL.out; omega) (fun r e => (hr r e).1), Nat.le_trans h4 hg.size⟩
        case hIx =>
          rintro c2 s X Y row ⟨rfl, pre0, x, st, st', h1, h2, h3, h4⟩ hg hr
          exact ⟨rfl, pre0, x, st, st', h1, h2, h3, h4.own hg (by rw [HZ.out]; have := HL.out; omega) (fun r e => (hr r e).1)⟩
        case hAx =>
          rintro x a' s X Y row ⟨bx, h1, h2, h3⟩ hg hr
          refine ⟨bx, h1, (hg.block bx (blk_lt h2) (fun e => ?_)).trans h2, h3⟩
          obtain ⟨-, o, ho, hc⟩ := hr bx e.symm
          rw [h2] at ho; cases ho; cases hc
        case hseq =>
          intro l2 J Jx W hW hJ hJx hY h0
          refine (turns1_in Fence.wide 2 trivial rfl (by omega) l2 (w2.heap.size + 1) w2.heap.size W.heap.size p hp A c l (by have := HH.out; omega) (climbS w2 A l) (.inl rfl) (.inr (.inl rfl)) (fun h0 a ha => .inr (.inr ⟨h0, a, ha, rfl⟩)) (fun x => OkU x.f1) UL.out
            (fun pre W => ∃ pre' : List OkX, pre'.map Subtype.val = pre ∧ J pre' W) (fun pre W => ∃ pre' : List OkX, pre'.map Subtype.val = pre ∧ Jx pre' W)
            (fun s X Y row ⟨pre', e, h⟩ hg hr => ⟨pre', e, hJ _ _ _ row h hg hr⟩) ?_ W (blk_below HS.out hW) (blk_below HP.out hW) (Kd.C_below HR.out (HC3.out.hB.trans (hW.mono HC3.out.hB.size))) (fun k hk => Nat.lt_of_lt_of_le (HLT.out k hk) hW.size) ⟨[], rfl, h0⟩).mono ?_
          · rintro pre x W1 hok ⟨pre', rfl, hj⟩ hlen
            obtain ⟨fn, tmps, asg, bd, hy, hR⟩ := hY pre' ⟨x, hok⟩ W1 hj (by simpa using hlen)
            refine ⟨fn, tmps, asg, bd, hy, hR.mono ?_⟩
            rintro e W2 (⟨rfl, h1, h2⟩ | ⟨rfl, h1⟩)
            · exact .inl ⟨rfl, ⟨_, by simp, h1⟩, h2⟩
            · exact .inr ⟨rfl, ⟨_, by simp, h1⟩⟩
          · rintro e W2 ⟨hv, ⟨ys, rfl, ys', e1, h1⟩ | ⟨pre, ⟨k, hk, rfl⟩, pre', e1, h1⟩⟩
            · exact ⟨hv, .inl ⟨ys', e1, h1⟩⟩
            · exact ⟨hv, .inr ⟨pre', ⟨k, hk, e1⟩, h1⟩⟩
        case assign =>
          rintro l2 pre x W K ⟨st, hu, hok, hC, hz⟩ hK
          gi_wp2
          have hg := World.grownBy_alloc W (.cells (nodeA x.1.1) 26) none
          refine hK _ _ (KeepsFrom.of_grownBy hg (fun j e => by cases e)) (fun k hk => hg.block k (Nat.lt_of_lt_of_le (HLT.out k hk) hz) (by simp)) ⟨st, hu, hok, hC.below (below_alloc (Below.refl _ _) _), by simp; omega⟩ ⟨W.heap.size, hz, blk_new W _, rfl⟩
        case body =>
          rintro l2 pre x a' W hl2 - ⟨st, hu, hok, hC, hz⟩ ⟨bx, hbx, hb, rfl⟩ hlen
          obtain ⟨B1, hB1⟩ : ∃ B1, w.heap.size + 1 = B1 := ⟨_, rfl⟩
          have cn0 : W.cell? ⟨B1, 0, none⟩ = some (.string st.f0) := by rw [← hB1]; exact blk_cell hC.h1 0
          have cn1 : W.cell? ⟨B1, 1, none⟩ = some (.int .u64 st.f1.f0) := by rw [← hB1]; exact blk_cell hC.h1 1
          have cn2 : W.cell? ⟨B1, 2, none⟩ = some (.int .u64 st.f1.f1) := by rw [← hB1]; exact blk_cell hC.h1 2
          have cs0 : W.cell? ⟨bx, 0, none⟩ = some (.string x.1.1.f0) := blk_cell hb 0
          have cs1 : W.cell? ⟨bx, 1, none⟩ = some (.int .u64 x.1.1.f1.f0) := blk_cell hb 1
          have cs2 : W.cell? ⟨bx, 2, none⟩ = some (.int .u64 x.1.1.f1.f1) := blk_cell hb 2
          have hlb : bx < W.heap.size := blk_lt hb
          have hlw : B1 < W.heap.size := by rw [← hB1]; exact blk_lt hC.h1
          have q1 : bx ≠ W.heap.size := by omega
          have q2 : bx ≠ W.heap.size + 1 := by omega
          have q3 : B1 ≠ W.heap.size := by omega
          have q4 : B1 ≠ W.heap.size + 1 := by omega
          have HU := Aside0.mk hu
          have HOK := Aside0.mk hok
          have HC := Aside0.mk hC
          have HZZ := Aside0.mk hz
          have HBX := Aside0.mk hbx
          have HBC := Aside0.mk hb
          have HB1 := Aside0.mk hB1
          clear hu hok hC hz hbx hb hlen
          rw [hB1]
          clear hB1
          gi_upto_region 8 with (fail)
          refine wpIn_mono (Q := fun e a' W' => e = .normal ∧ ∃ b12 b13, a' = ({ tmps := #[.int .i64 wd, nodeV n, .int .u64 p, .slice A l.length c, .pointer (some ⟨w.heap.size, 0, none⟩), .pointer (some ⟨B1, 0, none⟩), undef, undef, .pointer (some ⟨B1 + 1, 0, none⟩), .pointer (some ⟨B1 + 1 + 1, 0, none⟩), .pointer (some ⟨bx, 0, none⟩), .bool x.1.2, .pointer (some ⟨b12, 0, none⟩), .pointer (some ⟨b13, 0, none⟩), undef, undef, .bool false, .int .i64 wd, .agg #[.string n.f0, .int .u64 n.f1.f0, .int .u64 n.f1.f1], .bool true, .bool false, .bool false, .int .i64 wd, .slice A l.length c, .bool true, .bool false, .bool false, undef, .bool false, .slice A l.length c, .int .i64 (l.length : Int), .bool false, undef, .int .u64 p, .slice A l.length c, .func (.func 68) #[] #[.pointer (some ⟨w2.heap.size + 1, 0, none⟩), .pointer (some ⟨w2.heap.size, 0, none⟩)], nodeV x.1.1, .bool x.1.2, .agg #[.string x.1.1.f0, .int .u64 x.1.1.f1.f0, .int .u64 x.1.1.f1.f1], .agg #[.string st.f0, .int .u64 st.f1.f0, .int .u64 st.f1.f1], undef, undef, undef, undef, undef, undef, undef, undef, undef, undef, undef, undef, undef, undef, undef, undef], defers := [] } : Act) ∧ Two W b12 b13 x.1.1 st W') ?r8 ?k8
          case r8 =>
            clear HU HOK HC HZZ HBX HBC HI HR HK UN UL HP HS HC3 HZ HL HH HLT HFAR
            gi_region_with (fail)
            all_goals
              refine ⟨rfl, _, _, rfl, ?_⟩
              with_reducible first | exact climb_twoA W x.1.1 st | exact climb_twoB W x.1.1 st
          case k8 =>
            clear cn0 cn1 cn2 cs0 cs1 cs2 hlb hlw q1 q2 q3 q4
            rintro e a' W' ⟨rfl, b12, b13, rfl, hT⟩
            obtain ⟨⟨sd, right⟩, hx⟩ := x
            have HT := Aside0.mk hT
            have HX := Aside0.mk hx
            clear hT
            dsimp only
            cases right with
            | false =>
              have hC5 := HC.out.below HT.out.hB
              have HC5 := Aside0.mk hC5
              have g0 : W'.cell? ⟨w.heap.size, 0, none⟩ = some (.int .i64 wd) := blk_cell hC5.h0 0
              have g1 : W'.cell? ⟨b12, 0, none⟩ = some (.string sd.f0) := blk_cell HT.out.h12 0
              have g2 : W'.cell? ⟨b12, 1, none⟩ = some (.int .u64 sd.f1.f0) := blk_cell HT.out.h12 1
              have g3 : W'.cell? ⟨b12, 2, none⟩ = some (.int .u64 sd.f1.f1) := blk_cell HT.out.h12 2
              have g4 : W'.cell? ⟨b13, 0, none⟩ = some (.string st.f0) := blk_cell HT.out.h13 0
              have g5 : W'.cell? ⟨b13, 1, none⟩ = some (.int .u64 st.f1.f0) := blk_cell HT.out.h13 1
              have g6 : W'.cell? ⟨b13, 2, none⟩ = some (.int .u64 st.f1.f1) := blk_cell HT.out.h13 2
              clear hC5
              rcases hj : joinI wd sd st with ⟨r1, r2, r3, r4⟩
              have hs : stepI wd st (sd, false) = (r1, r2, r3, r4) := hj
              have hok2 := joinI_ok wd sd st hx HOK.out
              obtain ⟨kk, hkk⟩ := (join_ev wd sd st hx HOK.out)
              have HJ := Aside0.mk (hkk kk (Nat.le_refl _))
              have HS2 := Aside0.mk hs
              rw [hj] at HJ hok2
              have HOK2 := Aside0.mk hok2
              clear hkk hj hs hok2
              gi_wp2_with fail
              refine ⟨trivial, ?_⟩
              refine (CallsIn.inRound l2 (callsIn_wide.2 (node_Join.calls kk wd sd.f0 sd.f1.f0 sd.f1.f1 st.f0 st.f1.f0 st.f1.f1 r1 r2 r3 r4 _ (HK.out.below HC5.out.hB) HJ.out))).mono ?_
              rintro e w5 ⟨rfl, hb5⟩
              clear g0 g1 g2 g3 g4 g5 g6
              have HB5 := Aside0.mk hb5
              have hC6 := HC5.out.below hb5
              have HC6 := Aside0.mk hC6
              have hlz := hC6.lt
              have q3 : B1 ≠ w5.heap.size := by have := HB1.out; omega
              have q4 : B1 + 1 ≠ w5.heap.size := by have := HB1.out; omega
              have q5 : B1 + 1 + 1 ≠ w5.heap.size := by have := HB1.out; omega
              have z3 : B1 < w5.heap.size := by have := HB1.out; omega
              have z4 : B1 + 1 < w5.heap.size := by have := HB1.out; omega
              have z5 : B1 + 1 + 1 < w5.heap.size := by have := HB1.out; omega
              have hw3 : B1 + 1 + 1 < w3.heap.size := by have := HB1.out; have := HC3.out.lt; omega
              have HW3 := Aside0.mk hw3
              clear hb5 hlz hw3
              by_cases h0 : r4 = 0
              · subst h0
                have cn0 : w5.cell? ⟨B1, 0, none⟩ = some (.string st.f0) := by rw [← HB1.out]; exact blk_cell hC6.h1 0
                have cn1 : w5.cell? ⟨B1, 1, none⟩ = some (.int .u64 st.f1.f0) := by rw [← HB1.out]; exact blk_cell hC6.h1 1
                have cn2 : w5.cell? ⟨B1, 2, none⟩ = some (.int .u64 st.f1.f1) := by rw [← HB1.out]; exact blk_cell hC6.h1 2
                have fn : ∀ i, w5.frozen? ⟨B1, i, none⟩ = false := fun i => by rw [← HB1.out]; exact blk_frozen hC6.h1 i
                clear hC6
                gi_wp2
                have hend := bar_alloc (bar_set (bar_set (bar_set (bar_step (bar_below HT.out.hB B1) HB5.out) (a := ⟨B1, 0, none⟩) (v := .string r1) (.inl rfl)) (a := ⟨B1, 1, none⟩) (v := .int .u64 r2) (.inl rfl)) (a := ⟨B1, 2, none⟩) (v := .int .u64 r3) (.inl rfl)) (.cells #[.string r1, .int .u64 r2, .int .u64 r3] 26)
                change KeepsFrom _ W _ ∧ _ ∧ _
                refine ⟨KeepsFrom.of_grownBy hend (fun j e => by have := Option.some.inj e; have := HW3.out; omega), fun k hk => hend.block k (Nat.lt_of_lt_of_le (HLT.out k hk) HZZ.out) (fun e => HFAR.out k hk (by have := Option.some.inj e; have := HB1.out; omega)), nodeJ (r1, r2, r3, 0), ?_, HOK2.out, ?_, Nat.le_trans HZZ.out hend.size⟩
                · have := upTo_snoc wd (sd, false) _ _ _ HU.out (by rw [HS2.out])
                  rw [HS2.out] at this
                  rw [List.map_append]
                  exact this
                · have := (HC6.out.step (nodeJ (r1, r2, r3, 0))).below (below_alloc (Below.refl _ _) (.cells #[.string r1, .int .u64 r2, .int .u64 r3] 26))
                  rw [HB1.out] at this
                  exact this
              · have b1 : (r4 != 0) = true := by simp [h0]
                have cr0 : w5.cell? ⟨B1 + 1, 0, none⟩ = some (.string ⟨#[]⟩) := by rw [← HB1.out]; exact blk_cell hC6.h2 0
                have cr1 : w5.cell? ⟨B1 + 1, 1, none⟩ = some (.int .u64 0) := by rw [← HB1.out]; exact blk_cell hC6.h2 1
                have cr2 : w5.cell? ⟨B1 + 1, 2, none⟩ = some (.int .u64 0) := by rw [← HB1.out]; exact blk_cell hC6.h2 2
                have fr : ∀ i, w5.frozen? ⟨B1 + 1, i, none⟩ = false := fun i => by rw [← HB1.out]; exact blk_frozen hC6.h2 i
                have ce : w5.cell? ⟨B1 + 1 + 1, 0, none⟩ = some (.int .i64 0) := by rw [← HB1.out]; exact blk_cell hC6.h3 0
                have fe : ∀ i, w5.frozen? ⟨B1 + 1 + 1, i, none⟩ = false := fun i => by rw [← HB1.out]; exact blk_frozen hC6.h3 i
                clear hC6
                gi_wp2
                have hend := bar_set (bar_set (bar_set (bar_step (bar_below HT.out.hB (B1 + 1)) HB5.out) (a := ⟨B1 + 1, 0, none⟩) (v := .string ⟨#[]⟩) (.inl rfl)) (a := ⟨B1 + 1, 1, none⟩) (v := .int .u64 0) (.inl rfl)) (a := ⟨B1 + 1, 2, none⟩) (v := .int .u64 0) (.inl rfl)
                change KeepsFrom _ W _ ∧ _
                refine ⟨(KeepsFrom.of_grownBy hend (fun j e => by have := Option.some.inj e; have := HW3.out; omega)).trans ((KeepsFrom.of_grownBy (grownBy_setCell' _ (B1 + 1 + 1) (.int .i64 r4)) (fun j e => by have := Option.some.inj e; have := HW3.out; omega)).trans (KeepsFrom.of_grownBy (World.grownBy_alloc _ (.cells #[.string r1, .int .u64 r2, .int .u64 r3] 26) none) (fun j e => by cases e))), rfl, pre.map Subtype.val, (sd, false), st, st, by simp, HU.out, by rw [HS2.out]; exact h0, ?_⟩
                rw [HS2.out]
                have := (HC6.out.put ⟨⟨#[]⟩, ⟨0, 0⟩⟩ r4).below (below_alloc (Below.refl _ _) (.cells #[.string r1, .int .u64 r2, .int .u64 r3] 26))
                rw [HB1.out] at this
                exact this
            | true =>
              have hC5 := HC.out.below HT.out.hB
              have hbx2 : W'.heap[bx]? = some (.cells (nodeA sd) 26 (0, 0)) := blk_below HBC.out HT.out.hB
              have g1 : W'.cell? ⟨b12, 0, none⟩ = some (.string sd.f0) := blk_cell HT.out.h12 0
              have g2 : W'.cell? ⟨b12, 1, none⟩ = some (.int .u64 sd.f1.f0) := blk_cell HT.out.h12 1
              have g3 : W'.cell? ⟨b12, 2, none⟩ = some (.int .u64 sd.f1.f1) := blk_cell HT.out.h12 2
              have g4 : W'.cell? ⟨b13, 0, none⟩ = some (.string st.f0) := blk_cell HT.out.h13 0
              have g5 : W'.cell? ⟨b13, 1, none⟩ = some (.int .u64 st.f1.f0) := blk_cell HT.out.h13 1
              have g6 : W'.cell? ⟨b13, 2, none⟩ = some (.int .u64 st.f1.f1) := blk_cell HT.out.h13 2
              have f12 : ∀ i, W'.frozen? ⟨b12, i, none⟩ = false := fun i => blk_frozen HT.out.h12 i
              have f13 : ∀ i, W'.frozen? ⟨b13, i, none⟩ = false := fun i => blk_frozen HT.out.h13 i
              have n0 : W'.cell? ⟨B1, 0, none⟩ = some (.string st.f0) := by rw [← HB1.out]; exact blk_cell hC5.h1 0
              have n1 : W'.cell? ⟨B1, 1, none⟩ = some (.int .u64 st.f1.f0) := by rw [← HB1.out]; exact blk_cell hC5.h1 1
              have n2 : W'.cell? ⟨B1, 2, none⟩ = some (.int .u64 st.f1.f1) := by rw [← HB1.out]; exact blk_cell hC5.h1 2
              have s0 : W'.cell? ⟨bx, 0, none⟩ = some (.string sd.f0) := blk_cell hbx2 0
              have s1 : W'.cell? ⟨bx, 1, none⟩ = some (.int .u64 sd.f1.f0) := blk_cell hbx2 1
              have s2 : W'.cell? ⟨bx, 2, none⟩ = some (.int .u64 sd.f1.f1) := blk_cell hbx2 2
              have hlb : bx < W.heap.size := blk_lt HBC.out
              have hlw : B1 < W.heap.size := by rw [← HB1.out]; exact blk_lt HC.out.h1
              have u1 : bx ≠ b12 := by have := HT.out.l12; omega
              have u2 : bx ≠ b13 := by have := HT.out.l13; omega
              have u3 : B1 ≠ b12 := by have := HT.out.l12; omega
              have u4 : B1 ≠ b13 := by have := HT.out.l13; omega
              have u5 : b12 ≠ b13 := HT.out.ne
              have u6 : b13 ≠ b12 := Ne.symm HT.out.ne
              clear hC5 hbx2 hlb hlw
              gi_upto_region 10 with (fail)
              refine wpIn_mono (Q := fun e a' V => e = .normal ∧ a' = ({ tmps := #[.int .i64 wd, nodeV n, .int .u64 p, .slice A l.length c, .pointer (some ⟨w.heap.size, 0, none⟩), .pointer (some ⟨B1, 0, none⟩), undef, undef, .pointer (some ⟨B1 + 1, 0, none⟩), .pointer (some ⟨B1 + 1 + 1, 0, none⟩), .pointer (some ⟨bx, 0, none⟩), .bool true, .pointer (some ⟨b12, 0, none⟩), .pointer (some ⟨b13, 0, none⟩), undef, undef, .bool false, .int .i64 wd, .agg #[.string n.f0, .int .u64 n.f1.f0, .int .u64 n.f1.f1], .bool true, .bool false, .bool false, .int .i64 wd, .slice A l.length c, .bool true, .bool false, .bool false, undef, .bool false, .slice A l.length c, .int .i64 (l.length : Int), .bool false, undef, .int .u64 p, .slice A l.length c, .func (.func 68) #[] #[.pointer (some ⟨w2.heap.size + 1, 0, none⟩), .pointer (some ⟨w2.heap.size, 0, none⟩)], nodeV sd, .bool true, .agg #[.string sd.f0, .int .u64 sd.f1.f0, .int .u64 sd.f1.f1], .agg #[.string st.f0, .int .u64 st.f1.f0, .int .u64 st.f1.f1], .bool true, .agg #[.string st.f0, .int .u64 st.f1.f0, .int .u64 st.f1.f1], .agg #[.string sd.f0, .int .u64 sd.f1.f0, .int .u64 sd.f1.f1], undef, undef, undef, undef, undef, undef, undef, undef, undef, undef, undef, undef, undef], defers := [] } : Act) ∧ Two W b12 b13 st sd V) ?r10 ?k10
              case r10 =>
                clear HU HOK HC HZZ HBX HBC HI HR HK UN UL HP HS HC3 HZ HL HH HLT HFAR HB1
                gi_region_with (fail)
                all_goals
                  refine ⟨rfl, rfl, ?_⟩
                  have h2 := HT.out.put st sd
                  with_reducible exact ⟨h2.ne, h2.l12, h2.l13, below_drew h2.hB, blk_drew h2.h12, blk_drew h2.h13⟩
              case k10 =>
              clear g1 g2 g3 g4 g5 g6 f12 f13 n0 n1 n2 s0 s1 s2 u1 u2 u3 u4 u5 u6 HT
              clear W'
              rintro e a' W' ⟨rfl, rfl, hT⟩
              have HT := Aside0.mk hT
              clear hT
              dsimp only
              have hC5 := HC.out.below HT.out.hB
              have HC5 := Aside0.mk hC5
              have g0 : W'.cell? ⟨w.heap.size, 0, none⟩ = some (.int .i64 wd) := blk_cell hC5.h0 0
              have g1 : W'.cell? ⟨b12, 0, none⟩ = some (.string st.f0) := blk_cell HT.out.h12 0
              have g2 : W'.cell? ⟨b12, 1, none⟩ = some (.int .u64 st.f1.f0) := blk_cell HT.out.h12 1
              have g3 : W'.cell? ⟨b12, 2, none⟩ = some (.int .u64 st.f1.f1) := blk_cell HT.out.h12 2
              have g4 : W'.cell? ⟨b13, 0, none⟩ = some (.string sd.f0) := blk_cell HT.out.h13 0
              have g5 : W'.cell? ⟨b13, 1, none⟩ = some (.int .u64 sd.f1.f0) := blk_cell HT.out.h13 1
              have g6 : W'.cell? ⟨b13, 2, none⟩ = some (.int .u64 sd.f1.f1) := blk_cell HT.out.h13 2
              clear hC5
              rcases hj : joinI wd st sd with ⟨r1, r2, r3, r4⟩
              have hs : stepI wd st (sd, true) = (r1, r2, r3, r4) := hj
              have hok2 := joinI_ok wd st sd HOK.out hx
              obtain ⟨kk, hkk⟩ := (join_ev wd st sd HOK.out hx)
              have HJ := Aside0.mk (hkk kk (Nat.le_refl _))
              have HS2 := Aside0.mk hs
              rw [hj] at HJ hok2
              have HOK2 := Aside0.mk hok2
              clear hkk hj hs hok2
              gi_wp2_with fail
              refine ⟨trivial, ?_⟩
              refine (CallsIn.inRound l2 (callsIn_wide.2 (node_Join.calls kk wd st.f0 st.f1.f0 st.f1.f1 sd.f0 sd.f1.f0 sd.f1.f1 r1 r2 r3 r4 _ (HK.out.below HC5.out.hB) HJ.out))).mono ?_
              rintro e w5 ⟨rfl, hb5⟩
              clear g0 g1 g2 g3 g4 g5 g6
              have HB5 := Aside0.mk hb5
              have hC6 := HC5.out.below hb5
              have HC6 := Aside0.mk hC6
              have hlz := hC6.lt
              have q3 : B1 ≠ w5.heap.size := by have := HB1.out; omega
              have q4 : B1 + 1 ≠ w5.heap.size := by have := HB1.out; omega
              have q5 : B1 + 1 + 1 ≠ w5.heap.size := by have := HB1.out; omega
              have z3 : B1 < w5.heap.size := by have := HB1.out; omega
              have z4 : B1 + 1 < w5.heap.size := by have := HB1.out; omega
              have z5 : B1 + 1 + 1 < w5.heap.size := by have := HB1.out; omega
              have hw3 : B1 + 1 + 1 < w3.heap.size := by have := HB1.out; have := HC3.out.lt; omega
              have HW3 := Aside0.mk hw3
              clear hb5 hlz hw3
              by_cases h0 : r4 = 0
              · subst h0
                have cn0 : w5.cell? ⟨B1, 0, none⟩ = some (.string st.f0) := by rw [← HB1.out]; exact blk_cell hC6.h1 0
                have cn1 : w5.cell? ⟨B1, 1, none⟩ = some (.int .u64 st.f1.f0) := by rw [← HB1.out]; exact blk_cell hC6.h1 1
                have cn2 : w5.cell? ⟨B1, 2, none⟩ = some (.int .u64 st.f1.f1) := by rw [← HB1.out]; exact blk_cell hC6.h1 2
                have fn : ∀ i, w5.frozen? ⟨B1, i, none⟩ = false := fun i => by rw [← HB1.out]; exact blk_frozen hC6.h1 i
                clear hC6
                gi_wp2
                have hend := bar_alloc (bar_set (bar_set (bar_set (bar_step (bar_below HT.out.hB B1) HB5.out) (a := ⟨B1, 0, none⟩) (v := .string r1) (.inl rfl)) (a := ⟨B1, 1, none⟩) (v := .int .u64 r2) (.inl rfl)) (a := ⟨B1, 2, none⟩) (v := .int .u64 r3) (.inl rfl)) (.cells #[.string r1, .int .u64 r2, .int .u64 r3] 26)
                change KeepsFrom _ W _ ∧ _ ∧ _
                refine ⟨KeepsFrom.of_grownBy hend (fun j e => by have := Option.some.inj e; have := HW3.out; omega), fun k hk => hend.block k (Nat.lt_of_lt_of_le (HLT.out k hk) HZZ.out) (fun e => HFAR.out k hk (by have := Option.some.inj e; have := HB1.out; omega)), nodeJ (r1, r2, r3, 0), ?_, HOK2.out, ?_, Nat.le_trans HZZ.out hend.size⟩
                · have := upTo_snoc wd (sd, true) _ _ _ HU.out (by rw [HS2.out])
                  rw [HS2.out] at this
                  rw [List.map_append]
                  exact this
                · have := (HC6.out.step (nodeJ (r1, r2, r3, 0))).below (below_alloc (Below.refl _ _) (.cells #[.string r1, .int .u64 r2, .int .u64 r3] 26))
                  rw [HB1.out] at this
                  exact this
              · have b1 : (r4 != 0) = true := by simp [h0]
                have cr0 : w5.cell? ⟨B1 + 1, 0, none⟩ = some (.string ⟨#[]⟩) := by rw [← HB1.out]; exact blk_cell hC6.h2 0
                have cr1 : w5.cell? ⟨B1 + 1, 1, none⟩ = some (.int .u64 0) := by rw [← HB1.out]; exact blk_cell hC6.h2 1
                have cr2 : w5.cell? ⟨B1 + 1, 2, none⟩ = some (.int .u64 0) := by rw [← HB1.out]; exact blk_cell hC6.h2 2
                have fr : ∀ i, w5.frozen? ⟨B1 + 1, i, none⟩ = false := fun i => by rw [← HB1.out]; exact blk_frozen hC6.h2 i
                have ce : w5.cell? ⟨B1 + 1 + 1, 0, none⟩ = some (.int .i64 0) := by rw [← HB1.out]; exact blk_cell hC6.h3 0
                have fe : ∀ i, w5.frozen? ⟨B1 + 1 + 1, i, none⟩ = false := fun i => by rw [← HB1.out]; exact blk_frozen hC6.h3 i
                clear hC6
                gi_wp2
                have hend := bar_set (bar_set (bar_set (bar_step (bar_below HT.out.hB (B1 + 1)) HB5.out) (a := ⟨B1 + 1, 0, none⟩) (v := .string ⟨#[]⟩) (.inl rfl)) (a := ⟨B1 + 1, 1, none⟩) (v := .int .u64 0) (.inl rfl)) (a := ⟨B1 + 1, 2, none⟩) (v := .int .u64 0) (.inl rfl)
                change KeepsFrom _ W _ ∧ _
                refine ⟨(KeepsFrom.of_grownBy hend (fun j e => by have := Option.some.inj e; have := HW3.out; omega)).trans ((KeepsFrom.of_grownBy (grownBy_setCell' _ (B1 + 1 + 1) (.int .i64 r4)) (fun j e => by have := Option.some.inj e; have := HW3.out; omega)).trans (KeepsFrom.of_grownBy (World.grownBy_alloc _ (.cells #[.string r1, .int .u64 r2, .int .u64 r3] 26) none) (fun j e => by cases e))), rfl, pre.map Subtype.val, (sd, true), st, st, by simp, HU.out, by rw [HS2.out]; exact h0, ?_⟩
                rw [HS2.out]
                have := (HC6.out.put ⟨⟨#[]⟩, ⟨0, 0⟩⟩ r4).below (below_alloc (Below.refl _ _) (.cells #[.string r1, .int .u64 r2, .int .u64 r3] 26))
                rw [HB1.out] at this
                exact this
        case done =>
          rintro D xs W hD hxs ⟨st, hu, hok, hC, hz⟩ hdf
          have HU := Aside0.mk (show climbI wd n p l = (st.f0, st.f1.f0, st.f1.f1, 0) by
            rw [HI.out, ← hxs, show xs.map Subtype.val = xs.map Subtype.val ++ [] by simp, climbL_up wd [] _ _ _ hu]; rfl)
          have cn0 : W.cell? ⟨w.heap.size + 1, 0, none⟩ = some (.string st.f0) := blk_cell hC.h1 0
          have cn1 : W.cell? ⟨w.heap.size + 1, 1, none⟩ = some (.int .u64 st.f1.f0) := blk_cell hC.h1 1
          have cn2 : W.cell? ⟨w.heap.size + 1, 2, none⟩ = some (.int .u64 st.f1.f1) := blk_cell hC.h1 2
          have cr0 : W.cell? ⟨w.heap.size + 1 + 1, 0, none⟩ = some (.string ⟨#[]⟩) := blk_cell hC.h2 0
          have cr1 : W.cell? ⟨w.heap.size + 1 + 1, 1, none⟩ = some (.int .u64 0) := blk_cell hC.h2 1
          have cr2 : W.cell? ⟨w.heap.size + 1 + 1, 2, none⟩ = some (.int .u64 0) := blk_cell hC.h2 2
          have fr : ∀ i, W.frozen? ⟨w.heap.size + 1 + 1, i, none⟩ = false := fun i => blk_frozen hC.h2 i
          have ce : W.cell? ⟨w.heap.size + 1 + 1 + 1, 0, none⟩ = some (.int .i64 0) := blk_cell hC.h3 0
          have fe : ∀ i, W.frozen? ⟨w.heap.size + 1 + 1 + 1, i, none⟩ = false := fun i => blk_frozen hC.h3 i
          have HC := Aside0.mk hC
          have HDF := Aside0.mk hdf
          have HDD := Aside0.mk hD
          clear hu hok hC hz hdf hD hxs
          gi_wp2
          rw [HU.out]
          have hDn : w.heap.size + 1 + 1 + 1 < D := by have := HDD.out; rw [HZ.out] at this; have := HL.out; omega
          exact climb_retD (HC.out.put st 0) hDn (blk_res HDF.out (by omega) (by omega) _ _ _ _) rfl rfl (fun W' hb => ⟨rfl, hb⟩)
        case stop =>
          rintro D c2 pre W hD ⟨k, hk, hp1⟩ ⟨rfl, pre0, x, st, st', h1, h2, h3, h4⟩ hdf
          obtain ⟨rest, hrest⟩ := turnsTo_pre p l k (l.length - k)
          rw [show k + (l.length - k) = l.length by omega, ← hp1, h1, List.append_assoc] at hrest
          have HU := Aside0.mk (show climbI wd n p l = (⟨#[]⟩, 0, 0, (stepI wd st x).2.2.2) by
            rw [HI.out, hrest, climbL_up wd _ _ _ _ h2]
            show climbL wd st (x :: rest) = _
            unfold climbL; rw [if_neg h3])
          gi_wp2
          rw [HU.out]
          exact climb_retD h4 (by rw [HZ.out] at hD; have := HL.out; omega) hdf rfl rfl (fun W' hb => ⟨rfl, hb⟩)
def node_Climb.f (x0 : Int) (x1 : ByteArray) (x2 x3 p : Int) (l : List SNode) : Option (ByteArray × Int × Int × Int) :=
  if 0 ≤ p ∧ ((0 ≤ x2 ∧ x2 < 18446744073709551616) ∧ (0 ≤ x3 ∧ x3 < 18446744073709551616)) ∧ ∀ x ∈ l, (0 ≤ x.f1.f0 ∧ x.f1.f0 < 18446744073709551616) ∧ (0 ≤ x.f1.f1 ∧ x.f1.f1 < 18446744073709551616) then some (climbI x0 ⟨x1, ⟨x2, x3⟩⟩ p l) else none
theorem node_Climb.calls (x0 : Int) (x1 : ByteArray) (x2 x3 p : Int) (A : Option Addr) (c : Nat) (l : List SNode) (r1 : ByteArray) (r2 r3 r4 : Int) (w : World) (hK : Laid w) (hr : Kd.C kNode w A l.length l) (hc : l.length ≤ c) (h : node_Climb.f x0 x1 x2 x3 p l = some (r1, r2, r3, r4)) :
    Calls Tryd.prog 14 #[.int .i64 x0, .agg #[.string x1, .int .u64 x2, .int .u64 x3], .int .u64 p, .slice A l.length c] w fun e w' => e = .returned (.tuple #[.agg #[.string r1, .int .u64 r2, .int .u64 r3], .int .i64 r4]) ∧ Below w.heap.size w w' := by
  unfold node_Climb.f at h
  split at h
  · rename_i hh
    have h2 := Option.some.inj h
    refine (climb.calls x0 ⟨x1, ⟨x2, x3⟩⟩ p A c l w hK hr hh.1 ⟨hh.2.1.1, hh.2.1.2⟩ (fun x hx => ⟨(hh.2.2 x hx).1, (hh.2.2 x hx).2⟩)).mono ?_
    rintro e w' ⟨rfl, hb⟩
    rw [h2]
    exact ⟨rfl, hb⟩
  · cases h

end Go.Proofs.YtlmmpncdemblbaaDoor.P
