-- Hand-written contracts of this workplace, filled for this seat by a program.
import Derived.Test.YtfcodmdckcihmaaDoorPx0
import Derived.Test.YtfcodmdckcihmaaDoorHBlocks
import Derived.Test.YtfcodmdckcihmaaDoorShelf
import Derived.Stop.RegionWithIn
namespace Go.Proofs.YtfcodmdckcihmaaDoor.P
open Go.RowKit Go.Proofs.YtfcodmdckcihmaaDoorW.PrintWords Go.Proofs.YtfcodmdckcihmaaDoorW.PrintLast Go.Proofs.YtfcodmdckcihmaaDoorW.PrintMore
set_option linter.unusedVariables false
set_option linter.unusedSimpArgs false
set_option linter.unnecessarySimpa false
attribute [local go_sem] Oper.semAt_some

/-- A running one's cells. -/
def shA (s : S8) (rest : ByteArray) (n : Int) : Array Value :=
  #[.bool true, .int .u32 s.x0, .int .u32 s.x1, .int .u32 s.x2, .int .u32 s.x3, .int .u32 s.x4, .int .u32 s.x5, .int .u32 s.x6, .int .u32 s.x7, .string rest, .int .u64 n]
/-- A running one. -/
structure Run where
  s : S8
  rest : ByteArray
  n : Int
abbrev Run.A (r : Run) : Array Value := shA r.s r.rest r.n
def IsRun (w : World) (g : Nat) (r : Run) : Prop := w.heap[g]? = some (.cells (shA r.s r.rest r.n) 202 (0, 0))
/-- One piece taken. -/
def eat (r : Run) (x : ByteArray × Bool) : Run := if x.2 then ⟨nextI r.s x.1, ByteArray.empty, r.n⟩ else ⟨r.s, x.1, r.n⟩
/-- A text taken. -/
def takeI (r : Run) (t : ByteArray) : Run := (blks (r.rest ++ t)).foldl eat ⟨r.s, r.rest, IntKind.u64.wrap (r.n + t.size)⟩

theorem cellAt_lt {w : World} {a : Addr} {v : Value} (h : w.cell? a = some v) : a.block < w.heap.size := by
  rcases Nat.lt_or_ge a.block w.heap.size with h' | h'
  · exact h'
  · simp [World.cell?, Array.getElem?_eq_none h'] at h
theorem blocks.calls (s : ByteArray) (w : World) : Calls Tryd.prog 137 #[.string s] w fun e w' => e = .returned (.func (.func 160) #[] #[.pointer (some ⟨w.heap.size, 0, none⟩)]) ∧ w' = w.alloc (.cells #[.string s] 9) := by
  go_enter Tryd.func137, Tryd.ntmps137
  go_wp2
  go_ret
  exact ⟨rfl, rfl⟩
theorem Laid.grown {w w1 : World} {g : Nat} {b : Bool} (h : Laid w) (hg : w.cell? ⟨g, 0, none⟩ = some (.bool b)) (hw : w.grownBy w1 (some g)) : Laid w1 := by
  have hne : 3 ≠ g := by
    intro e
    have h0 := h 0 (by omega)
    have e2 : (⟨3, 0, none⟩ : Addr) = ⟨g, 0, none⟩ := congrArg (fun b => (⟨b, 0, none⟩ : Addr)) e
    rw [e2, hg] at h0
    cases h0
  intro i hi
  have hc := h i hi
  have hlt : 3 < w.heap.size := cellAt_lt hc
  exact (World.cell?_of_block (hw.block _ hlt (fun e => hne (Option.some.inj e)))).trans hc

theorem run_cells {w : World} {g : Nat} {s : S8} {rest : ByteArray} {n : Int} (h : w.heap[g]? = some (.cells (shA s rest n) 202 (0, 0))) :
    w.cell? ⟨g, 1, none⟩ = some (.int .u32 s.x0) ∧ w.cell? ⟨g, 2, none⟩ = some (.int .u32 s.x1) ∧ w.cell? ⟨g, 3, none⟩ = some (.int .u32 s.x2) ∧ w.cell? ⟨g, 4, none⟩ = some (.int .u32 s.x3) ∧ w.cell? ⟨g, 5, none⟩ = some (.int .u32 s.x4) ∧ w.cell? ⟨g, 6, none⟩ = some (.int .u32 s.x5) ∧ w.cell? ⟨g, 7, none⟩ = some (.int .u32 s.x6) ∧ w.cell? ⟨g, 8, none⟩ = some (.int .u32 s.x7) :=
  ⟨blk_cell h 1, blk_cell h 2, blk_cell h 3, blk_cell h 4, blk_cell h 5, blk_cell h 6, blk_cell h 7, blk_cell h 8⟩
theorem run_next (g B : Nat) (s : S8) (b : ByteArray) (n : Int) (w : World) (hb : b.size = 64) (hK : Laid w) (hr : w.heap[g]? = some (.cells (shA s ByteArray.empty n) 202 (0, 0)))
    (hx : w.heap[B]? = some (.cells #[.pointer (some ⟨g, 0, none⟩)] 160 (0, 0))) :
    Calls Tryd.prog 138 #[.agg #[.int .u32 s.x0, .int .u32 s.x1, .int .u32 s.x2, .int .u32 s.x3, .int .u32 s.x4, .int .u32 s.x5, .int .u32 s.x6, .int .u32 s.x7], .string b] w.drew fun e w' =>
      ∃ y : S8, Aside0 (y = nextI s b) ∧ e = .returned (.tuple #[.agg #[.int .u32 y.x0, .int .u32 y.x1, .int .u32 y.x2, .int .u32 y.x3, .int .u32 y.x4, .int .u32 y.x5, .int .u32 y.x6, .int .u32 y.x7], .int .i64 0]) ∧ w'.cell? ⟨B, 0, none⟩ = some (.pointer (some ⟨g, 0, none⟩)) ∧ (∀ i, w'.frozen? ⟨g, i, none⟩ = false) ∧
      w'.cell? ⟨g, 1, none⟩ = some (.int .u32 s.x0) ∧ w'.cell? ⟨g, 2, none⟩ = some (.int .u32 s.x1) ∧ w'.cell? ⟨g, 3, none⟩ = some (.int .u32 s.x2) ∧ w'.cell? ⟨g, 4, none⟩ = some (.int .u32 s.x3) ∧
      w'.cell? ⟨g, 5, none⟩ = some (.int .u32 s.x4) ∧ w'.cell? ⟨g, 6, none⟩ = some (.int .u32 s.x5) ∧ w'.cell? ⟨g, 7, none⟩ = some (.int .u32 s.x6) ∧ w'.cell? ⟨g, 8, none⟩ = some (.int .u32 s.x7) ∧
      Aside0 (w'.heap[g]? = some (.cells (shA s ByteArray.empty n) 202 (0, 0))) ∧ Aside0 (Below w.heap.size w w') := by
  refine (next_ok.calls s b hb w.drew (hK.below (Below.drew (Below.refl _ _)))).mono ?_
  rintro e w' ⟨rfl, hB⟩
  have hr2 := blk_below (w := w.drew) hr hB
  have hx2 := blk_below (w := w.drew) hx hB
  obtain ⟨e1, e2, e3, e4, e5, e6, e7, e8⟩ := run_cells hr2
  exact ⟨_, ⟨rfl⟩, rfl, blk_cell hx2 0, fun i => blk_frozen hr2 i, e1, e2, e3, e4, e5, e6, e7, e8, ⟨hr2⟩, ⟨(Below.drew (Below.refl _ _)).trans hB⟩⟩
theorem strings_Clone.calls (s : ByteArray) (w : World) (hlim : s.size ≤ 281474976710656) : Calls Tryd.prog 139 #[.string s] w fun e w' => e = .returned (.string s) ∧ Below w.heap.size w w' := by
  go_enter Tryd.func139, Tryd.ntmps139
  go_wp2_with fail
  refine (Tryd.stringslite_Clone s _ hlim).mono ?_
  rintro e w1 ⟨rfl, hB⟩
  go_wp2
  go_ret
  exact ⟨rfl, hB⟩
theorem run_clone (g B : Nat) (s : S8) (b : ByteArray) (n : Int) (w : World) (hb : b.size < 64) (hr : w.heap[g]? = some (.cells (shA s ByteArray.empty n) 202 (0, 0)))
    (hx : w.heap[B]? = some (.cells #[.pointer (some ⟨g, 0, none⟩)] 160 (0, 0))) :
    Calls Tryd.prog 139 #[.string b] w.drew fun e w' => e = .returned (.string b) ∧ w'.cell? ⟨B, 0, none⟩ = some (.pointer (some ⟨g, 0, none⟩)) ∧ (∀ i, w'.frozen? ⟨g, i, none⟩ = false) ∧
      w'.cell? ⟨g, 9, none⟩ = some (.string ByteArray.empty) ∧ Aside0 (w'.heap[g]? = some (.cells (shA s ByteArray.empty n) 202 (0, 0))) ∧ Aside0 (Below w.heap.size w w') := by
  refine (strings_Clone.calls b w.drew (by omega)).mono ?_
  rintro e w' ⟨rfl, hB⟩
  have hr2 := blk_below (w := w.drew) hr hB
  have hx2 := blk_below (w := w.drew) hx hB
  exact ⟨rfl, blk_cell hx2 0, fun i => blk_frozen hr2 i, blk_cell hr2 9, ⟨hr2⟩, ⟨(Below.drew (Below.refl _ _)).trans hB⟩⟩
theorem bar_refl (w : World) (g : Nat) : w.grownBy w (some g) := ⟨rfl, rfl, rfl, Nat.le_refl _, fun _ _ _ => rfl⟩
theorem bar_trans {w w1 w2 : World} {g : Nat} (h : w.grownBy w1 (some g)) (k : w1.grownBy w2 (some g)) : w.grownBy w2 (some g) :=
  ⟨k.os.trans h.os, k.tape.trans h.tape, k.output.trans h.output, Nat.le_trans h.size k.size, fun i hi hn => (k.block i (Nat.lt_of_lt_of_le hi h.size) hn).trans (h.block i hi hn)⟩
theorem bar_below {w w1 : World} (h : Below w.heap.size w w1) (g : Nat) : w.grownBy w1 (some g) := ⟨h.os, h.tape, h.output, h.size, fun i hi _ => h.block i hi⟩
theorem bar_alloc {w w1 : World} {g : Nat} (h : w.grownBy w1 (some g)) (o : Obj) : w.grownBy (w1.alloc o) (some g) := bar_trans h (bar_below (below_alloc (Below.refl _ _) _) g)
theorem bar_step {w w1 w2 : World} {g : Nat} (h : w.grownBy w1 (some g)) (k : Below w1.heap.size w1 w2) : w.grownBy w2 (some g) := bar_trans h (bar_below k g)
theorem bar_set {w w1 : World} {g : Nat} (h : w.grownBy w1 (some g)) {a : Addr} {v : Value} (ha : a.block = g ∨ w.heap.size ≤ a.block) : w.grownBy (w1.setCell a v) (some g) :=
  ⟨h.os, h.tape, h.output, by simpa using h.size, fun i hi hn => (Below.heap_setCell w1 a v i (fun e => by
    rcases ha with ha | ha
    · exact hn (by rw [e, ha])
    · omega)).trans (h.block i hi hn)⟩
theorem bar_put {w w1 : World} {g : Nat} (h : w.grownBy w1 (some g)) {l : Nat} {o : Obj} (hl : w.heap.size ≤ l) : w.grownBy (w1.putObj l o) (some g) :=
  ⟨h.os, h.tape, h.output, by simpa using h.size, fun i hi hn => (World.putObj_heap_other (by omega)).trans (h.block i hi hn)⟩
theorem run_put8 {w : World} {g : Nat} {s : S8} {rest : ByteArray} {n : Int} (h : w.heap[g]? = some (.cells (shA s rest n) 202 (0, 0))) (y : S8) :
    ((((((((w.setCell ⟨g, 1, none⟩ (.int .u32 y.x0)).setCell ⟨g, 2, none⟩ (.int .u32 y.x1)).setCell ⟨g, 3, none⟩ (.int .u32 y.x2)).setCell ⟨g, 4, none⟩ (.int .u32 y.x3)).setCell ⟨g, 5, none⟩ (.int .u32 y.x4)).setCell ⟨g, 6, none⟩ (.int .u32 y.x5)).setCell ⟨g, 7, none⟩ (.int .u32 y.x6)).setCell ⟨g, 8, none⟩ (.int .u32 y.x7)).heap[g]? = some (.cells (shA y rest n) 202 (0, 0)) := by
  have h1 := blk_put (cs' := shA ⟨y.x0, s.x1, s.x2, s.x3, s.x4, s.x5, s.x6, s.x7⟩ rest n) h 1 (.int .u32 y.x0) rfl
  have h2 := blk_put (cs' := shA ⟨y.x0, y.x1, s.x2, s.x3, s.x4, s.x5, s.x6, s.x7⟩ rest n) h1 2 (.int .u32 y.x1) rfl
  have h3 := blk_put (cs' := shA ⟨y.x0, y.x1, y.x2, s.x3, s.x4, s.x5, s.x6, s.x7⟩ rest n) h2 3 (.int .u32 y.x2) rfl
  have h4 := blk_put (cs' := shA ⟨y.x0, y.x1, y.x2, y.x3, s.x4, s.x5, s.x6, s.x7⟩ rest n) h3 4 (.int .u32 y.x3) rfl
  have h5 := blk_put (cs' := shA ⟨y.x0, y.x1, y.x2, y.x3, y.x4, s.x5, s.x6, s.x7⟩ rest n) h4 5 (.int .u32 y.x4) rfl
  have h6 := blk_put (cs' := shA ⟨y.x0, y.x1, y.x2, y.x3, y.x4, y.x5, s.x6, s.x7⟩ rest n) h5 6 (.int .u32 y.x5) rfl
  have h7 := blk_put (cs' := shA ⟨y.x0, y.x1, y.x2, y.x3, y.x4, y.x5, y.x6, s.x7⟩ rest n) h6 7 (.int .u32 y.x6) rfl
  have h8 := blk_put (cs' := shA ⟨y.x0, y.x1, y.x2, y.x3, y.x4, y.x5, y.x6, y.x7⟩ rest n) h7 8 (.int .u32 y.x7) rfl
  exact h8
theorem far8 {w : World} {g k : Nat} (h : k ≠ g) (y : S8) :
    ((((((((w.setCell ⟨g, 1, none⟩ (.int .u32 y.x0)).setCell ⟨g, 2, none⟩ (.int .u32 y.x1)).setCell ⟨g, 3, none⟩ (.int .u32 y.x2)).setCell ⟨g, 4, none⟩ (.int .u32 y.x3)).setCell ⟨g, 5, none⟩ (.int .u32 y.x4)).setCell ⟨g, 6, none⟩ (.int .u32 y.x5)).setCell ⟨g, 7, none⟩ (.int .u32 y.x6)).setCell ⟨g, 8, none⟩ (.int .u32 y.x7)).heap[k]? = w.heap[k]? := by
  rw [Below.heap_setCell _ _ _ _ h, Below.heap_setCell _ _ _ _ h, Below.heap_setCell _ _ _ _ h, Below.heap_setCell _ _ _ _ h, Below.heap_setCell _ _ _ _ h, Below.heap_setCell _ _ _ _ h, Below.heap_setCell _ _ _ _ h, Below.heap_setCell _ _ _ _ h]
theorem bar_set8 {w0 w : World} {g : Nat} (h : w0.grownBy w (some g)) (y : S8) :
    w0.grownBy ((((((((w.setCell ⟨g, 1, none⟩ (.int .u32 y.x0)).setCell ⟨g, 2, none⟩ (.int .u32 y.x1)).setCell ⟨g, 3, none⟩ (.int .u32 y.x2)).setCell ⟨g, 4, none⟩ (.int .u32 y.x3)).setCell ⟨g, 5, none⟩ (.int .u32 y.x4)).setCell ⟨g, 6, none⟩ (.int .u32 y.x5)).setCell ⟨g, 7, none⟩ (.int .u32 y.x6)).setCell ⟨g, 8, none⟩ (.int .u32 y.x7)) (some g) :=
  bar_set (bar_set (bar_set (bar_set (bar_set (bar_set (bar_set (bar_set h (.inl rfl)) (.inl rfl)) (.inl rfl)) (.inl rfl)) (.inl rfl)) (.inl rfl)) (.inl rfl)) (.inl rfl)
set_option maxRecDepth 100000 in
set_option maxHeartbeats 8000000 in
theorem takes.calls (g : Nat) (r : Run) (t : ByteArray) (w : World) (hK : Laid w) (hg : IsRun w g r) (hsz : r.rest.size + t.size ≤ 9223372036854775807) :
    Calls Tryd.prog 101 #[.pointer (some ⟨g, 0, none⟩), .string t] w fun e w' => e = .returned (.tuple #[]) ∧ IsRun w' g (takeI r t) ∧ w.grownBy w' (some g) := by
  refine (callsIn_wide (n := 3)).1 ?_
  refine callsIn_of_wp_marks Tryd.func101 rfl trivial ?_ rfl
  simp only [Tryd.ntmps101, List.size_toArray, List.length_cons, List.length_nil, Nat.reduceAdd, Nat.reduceSub, Array.replicate_succ, Array.replicate_zero, List.push_toArray, List.append_toArray, List.nil_append, List.cons_append]
  have hg1 : w.heap[g]? = some (.cells (shA r.s r.rest r.n) 202 (0, 0)) := hg
  have hc10 : w.cell? ⟨g, 10, none⟩ = some (.int .u64 r.n) := blk_cell hg1 10
  have hf10 : w.frozen? ⟨g, 10, none⟩ = false := blk_frozen hg1 10
  have hc9 : w.cell? ⟨g, 9, none⟩ = some (.string r.rest) := blk_cell hg1 9
  have hlt : g < w.heap.size := blk_lt hg1
  have hne : g ≠ w.heap.size := Nat.ne_of_lt hlt
  have HG := Aside0.mk hg1
  have HK := Aside0.mk hK
  clear hg1 hK hg
  gi_wp2_with (refine ⟨trivial, ?_⟩; refine (callsIn_wide.2 (blocks.calls _ _)).mono ?_)
  rintro e w1 ⟨rfl, hw1⟩
  have hBs : w1.heap[w.heap.size + 1]? = some (.cells #[.string (r.rest ++ t)] 9 (0, 0)) := by
    rw [hw1]
    have := blk_new ((w.setCell ⟨g, 10, none⟩ (.int .u64 (IntKind.u64.wrap (r.n + (t.size : Int))))).alloc (.cells #[.pointer (some ⟨g, 0, none⟩)] 160)) (.cells #[.string (r.rest ++ t)] 9)
    simpa using this
  have hBx : w1.heap[w.heap.size]? = some (.cells #[.pointer (some ⟨g, 0, none⟩)] 160 (0, 0)) := by
    rw [hw1]
    have := blk_new (w.setCell ⟨g, 10, none⟩ (.int .u64 (IntKind.u64.wrap (r.n + (t.size : Int))))) (.cells #[.pointer (some ⟨g, 0, none⟩)] 160)
    refine blk_alloc ?_ _
    simpa using this
  have hRn : IsRun w1 g ⟨r.s, r.rest, IntKind.u64.wrap (r.n + (t.size : Int))⟩ := by
    rw [hw1]
    exact blk_alloc (blk_alloc (blk_put HG.out 10 _ rfl) _) _
  have hBar : w.grownBy w1 (some g) := by
    rw [hw1]
    exact bar_alloc (bar_alloc (bar_set (bar_refl w g) (.inl rfl)) _) _
  have hS1 : w1.heap.size = w.heap.size + 2 := by rw [hw1]; simp
  have HR := Aside0.mk hRn
  have HBs := Aside0.mk hBs
  have HBx := Aside0.mk hBx
  have HBar := Aside0.mk hBar
  have HS1 := Aside0.mk hS1
  have es : (w.setCell ⟨g, 10, none⟩ (.int .u64 (IntKind.u64.wrap (r.n + (t.size : Int))))).heap.size = w.heap.size := by simp
  have es2 : ((w.setCell ⟨g, 10, none⟩ (.int .u64 (IntKind.u64.wrap (r.n + (t.size : Int))))).alloc (.cells #[.pointer (some ⟨g, 0, none⟩)] 160)).heap.size = w.heap.size + 1 := by simp
  rw [es2]
  clear hw1 hRn hBs hBx hBar hS1 es es2 hc10 hf10 hc9
  gi_wp2
  refine range_box (B := w.heap.size + 1) (gf := 160) (lb := #[.pointer (some ⟨w.heap.size + 1, 0, none⟩)]) (encs := fun x : Blk => #[.string x.1.1, .bool x.1.2]) rfl (by omega) rfl trivial (enters_of Tryd.func160 (by kernel_rfl) rfl) (fun _ => rfl) (by rw [HS1.out]; omega)
    (fun xs => xs.map Subtype.val = blks (r.rest ++ t))
    (fun pre W => IsRun W g ((pre.map Subtype.val).foldl eat ⟨r.s, r.rest, IntKind.u64.wrap (r.n + (t.size : Int))⟩) ∧ W.heap[w.heap.size]? = some (.cells #[.pointer (some ⟨g, 0, none⟩)] 160 (0, 0)) ∧ w.grownBy W (some g))
    ?hal ?hput ?hset ⟨HR.out, HBx.out, HBar.out⟩ ?hseq ?a1 ?assign ?body ?done
  case assign =>
    intro l x W K hK
    gi_wp2
    exact hK
  case hal => exact fun s W o h => ⟨blk_alloc h.1 _, blk_alloc h.2.1 _, bar_alloc h.2.2 _⟩
  case hput =>
    intro s W l o o' hl ho hc h
    have hl2 : w.heap.size + 2 ≤ l := by rw [← HS1.out]; exact hl
    exact ⟨(World.putObj_heap_other (by omega)).trans h.1, (World.putObj_heap_other (by omega)).trans h.2.1, bar_put h.2.2 (by omega)⟩
  case hset =>
    intro s W v h
    exact ⟨(Below.heap_setCell W _ v g (by simp; omega)).trans h.1, (Below.heap_setCell W _ v _ (by simp)).trans h.2.1, bar_set h.2.2 (.inr (by simp))⟩
  case hseq =>
    intro l J W hW hset hY h0
    exact blocks1_in Fence.wide 2 trivial rfl (by omega) l (w.heap.size + 1) (r.rest ++ t) J hset hY W ((hW.block _ (by rw [HS1.out]; omega)).trans HBs.out) h0
  case done =>
    intro D xs W hD hT h hK
    obtain ⟨h1, h2, h3⟩ := h
    gi_wp2
    refine ⟨by simp, .inl ⟨_, _, rfl, run_takeDeferred hK, ?_⟩⟩
    have hD2 : w.heap.size + 2 ≤ D := by rw [← HS1.out]; exact hD
    refine ⟨_, results_none rfl _ _ _, rfl, ?_, bar_put h3 (by omega)⟩
    rw [hT] at h1
    exact (World.putObj_heap_other (by omega)).trans h1
  case body =>
    intro l pre x W h hs
    obtain ⟨h1, h2, h3⟩ := h
    have hfold : ∀ r0 : Run, ((pre ++ [x]).map Subtype.val).foldl eat r0 = eat ((pre.map Subtype.val).foldl eat r0) x.1 := by
      intro r0; simp [List.foldl_append]
    have hfold2 := hfold ⟨r.s, r.rest, IntKind.u64.wrap (r.n + (t.size : Int))⟩
    generalize (pre.map Subtype.val).foldl eat ⟨r.s, r.rest, IntKind.u64.wrap (r.n + (t.size : Int))⟩ = st at h1 hfold2
    have HF := Aside0.mk hfold2
    clear hfold hfold2
    obtain ⟨⟨b, whole⟩, hx⟩ := x
    have hlt2 : g < W.heap.size := blk_lt h1
    have hcx : W.cell? ⟨w.heap.size, 0, none⟩ = some (.pointer (some ⟨g, 0, none⟩)) := blk_cell h2 0
    have hc9 : W.cell? ⟨g, 9, none⟩ = some (.string st.rest) := blk_cell h1 9
    have hf9 : W.frozen? ⟨g, 9, none⟩ = false := blk_frozen h1 9
    have H1 := Aside0.mk h1
    have H2 := Aside0.mk h2
    have H3 := Aside0.mk h3
    have HS := Aside0.mk hs
    clear h1 h2 h3 hs
    have hr2 : IsRun (W.setCell ⟨g, 9, none⟩ (.string ByteArray.empty)) g ⟨st.s, ByteArray.empty, st.n⟩ := blk_put H1.out 9 _ rfl
    have hx2 : (W.setCell ⟨g, 9, none⟩ (.string ByteArray.empty)).heap[w.heap.size]? = some (.cells #[.pointer (some ⟨g, 0, none⟩)] 160 (0, 0)) := blk_far H2.out (show w.heap.size ≠ g by omega) _
    have hb2 : W.grownBy (W.setCell ⟨g, 9, none⟩ (.string ByteArray.empty)) (some g) := bar_set (bar_refl W g) (.inl rfl)
    cases whole with
    | true =>
      have hbs : b.size = 64 := hx.1 rfl
      gi_wp2
      change Code.wpIn _ _ _ _ _ _ (W.setCell ⟨g, 9, none⟩ (.string ByteArray.empty))
      generalize W.setCell ⟨g, 9, none⟩ (.string ByteArray.empty) = W2 at hr2 hx2 hb2 ⊢
      clear hcx hc9 hf9
      have hcx : W2.cell? ⟨w.heap.size, 0, none⟩ = some (.pointer (some ⟨g, 0, none⟩)) := blk_cell hx2 0
      have e1 : W2.cell? ⟨g, 1, none⟩ = some (.int .u32 st.s.x0) := blk_cell hr2 1
      have e2 : W2.cell? ⟨g, 2, none⟩ = some (.int .u32 st.s.x1) := blk_cell hr2 2
      have e3 : W2.cell? ⟨g, 3, none⟩ = some (.int .u32 st.s.x2) := blk_cell hr2 3
      have e4 : W2.cell? ⟨g, 4, none⟩ = some (.int .u32 st.s.x3) := blk_cell hr2 4
      have e5 : W2.cell? ⟨g, 5, none⟩ = some (.int .u32 st.s.x4) := blk_cell hr2 5
      have e6 : W2.cell? ⟨g, 6, none⟩ = some (.int .u32 st.s.x5) := blk_cell hr2 6
      have e7 : W2.cell? ⟨g, 7, none⟩ = some (.int .u32 st.s.x6) := blk_cell hr2 7
      have e8 : W2.cell? ⟨g, 8, none⟩ = some (.int .u32 st.s.x7) := blk_cell hr2 8
      have R2 := Aside0.mk hr2
      have X2 := Aside0.mk hx2
      have B2 := Aside0.mk hb2
      have c0 : W2.cell? ⟨g, 0, none⟩ = some (.bool true) := blk_cell hr2 0
      have hKW : Laid W2 := HK.out.grown (blk_cell HG.out 0) (bar_trans H3.out hb2)
      have HKW := Aside0.mk hKW
      clear hr2 hx2 hb2 c0 hKW
      gi_region_with (refine ⟨trivial, ?_⟩; gi_at_call 138; refine (CallsIn.inRound l (callsIn_wide.2 (run_next g w.heap.size st.s b st.n W2 hbs HKW.out R2.out X2.out))).mono ?_; clear hcx e1 e2 e3 e4 e5 e6 e7 e8; rintro e w3 ⟨y, HY, rfl, hcx, hf, e1, e2, e3, e4, e5, e6, e7, e8, R3, B3⟩)
      all_goals
        change KeepsFrom _ W _ ∧ _ ∧ _
        have hend : W.grownBy ((((((((w3.setCell ⟨g, 1, none⟩ (.int .u32 y.x0)).setCell ⟨g, 2, none⟩ (.int .u32 y.x1)).setCell ⟨g, 3, none⟩ (.int .u32 y.x2)).setCell ⟨g, 4, none⟩ (.int .u32 y.x3)).setCell ⟨g, 5, none⟩ (.int .u32 y.x4)).setCell ⟨g, 6, none⟩ (.int .u32 y.x5)).setCell ⟨g, 7, none⟩ (.int .u32 y.x6)).setCell ⟨g, 8, none⟩ (.int .u32 y.x7)) (some g) := bar_set8 (bar_trans B2.out (bar_below B3.out g)) y
        refine ⟨KeepsFrom.of_grownBy hend (fun j e => by cases e; rw [HS1.out]; omega), hend.block _ (by have h5 := HS.out; rw [HS1.out] at h5; omega) (fun e => by have := Option.some.inj e; omega), ?_, ?_, bar_trans H3.out hend⟩
        · rw [HF.out]
          have e9 := run_put8 R3.out y
          rw [HY.out] at e9 ⊢
          exact e9
        · exact (far8 (show w.heap.size ≠ g by omega) y).trans ((B3.out.block _ (blk_lt X2.out)).trans X2.out)
    | false =>
      have hbs : b.size < 64 := hx.2 rfl
      gi_wp2
      change Code.wpIn _ _ _ _ _ _ (W.setCell ⟨g, 9, none⟩ (.string ByteArray.empty))
      generalize W.setCell ⟨g, 9, none⟩ (.string ByteArray.empty) = W2 at hr2 hx2 hb2 ⊢
      clear hcx hc9 hf9
      have hcx : W2.cell? ⟨w.heap.size, 0, none⟩ = some (.pointer (some ⟨g, 0, none⟩)) := blk_cell hx2 0
      have R2 := Aside0.mk hr2
      have X2 := Aside0.mk hx2
      have B2 := Aside0.mk hb2
      clear hr2 hx2 hb2
      gi_region_with (refine ⟨trivial, ?_⟩; refine (CallsIn.inRound l (callsIn_wide.2 (run_clone g w.heap.size st.s b st.n W2 hbs R2.out X2.out))).mono ?_; clear hcx; rintro e w3 ⟨rfl, hcx, hf, e9, R3, B3⟩)
      all_goals
        change KeepsFrom _ W _ ∧ _ ∧ _
        have hend : W.grownBy (w3.setCell ⟨g, 9, none⟩ (.string b)) (some g) := bar_set (bar_trans B2.out (bar_below B3.out g)) (.inl rfl)
        refine ⟨KeepsFrom.of_grownBy hend (fun j e => by cases e; rw [HS1.out]; omega), hend.block _ (by have h5 := HS.out; rw [HS1.out] at h5; omega) (fun e => by have := Option.some.inj e; omega), ?_, ?_, bar_trans H3.out hend⟩
        · rw [HF.out]
          exact blk_put R3.out 9 _ rfl
        · exact (Below.heap_setCell _ _ _ _ (show w.heap.size ≠ g by omega)).trans ((B3.out.block _ (blk_lt X2.out)).trans X2.out)

end Go.Proofs.YtfcodmdckcihmaaDoor.P
