-- Hand-written contracts of this workplace, filled for this seat by a program.
import Derived.Test.YtfcodmdckcihmaaDoorPx0
import Derived.RangeFuncWrites
import Derived.RangeFuncNested
import Derived.RangeFuncBound
import Derived.RangeFuncCalls
import Derived.RangeFuncLeaves
import Derived.Test.YtfcodmdckcihmaaDoorHNext
import Derived.RangeFuncBox
import Derived.Shelf.Abstract
import Derived.WalkKit
import Derived.OwnWalkIn
import Derived.TacticsInMore
import Derived.LoopNIn
import Derived.LoopIn
namespace Go.Proofs.YtfcodmdckcihmaaDoor.P
open Go.RowKit Go.Proofs.YtfcodmdckcihmaaDoorW.PrintWords Go.Proofs.YtfcodmdckcihmaaDoorW.PrintLast Go.Proofs.YtfcodmdckcihmaaDoorW.PrintMore
set_option linter.unusedVariables false
set_option linter.unusedSimpArgs false
set_option linter.unnecessarySimpa false

/-- How a round's body may be left, where the iterator's own variable lies in block B. -/
def boxPost {α : Type} (D B : Nat) (I : List α → World → Prop) (xs : List α) (W : World) : Exit → Act → World → Prop
  | .normal, _, W' => KeepsFrom D W W' ∧ W'.heap[B]? = W.heap[B]? ∧ I xs W'
  | _, _, _ => False

/-- A range over an iterator that writes a variable of its own, in block B: the body never leaves early. -/
theorem range_box {F : Fence} {n : Nat} {P : Program} {α : Type} {g : Operand} {ps : Array Tmp} {assign body : Code} {Q : Exit → Act → World → Prop} {a : Act} {w : World}
    (hro : F.round = none) (h1 : 1 ≤ n) {gf : Nat} {lb : Array Value} (hg : a.eval g = .func (.func gf) #[] lb) (hFg : F.fn gf) (eg : ∀ args w, (callFunc gf args).run P w = .ok (.enter gf args) w)
    {encs : α → Array Value} (hps : ∀ x, (encs x).size = ps.size) (B : Nat) (hB : B < w.heap.size) (T : List α → Prop)
    (I : List α → World → Prop) (hal : ∀ s W o, I s W → I s (W.alloc o)) (hput : ∀ s W l o o', w.heap.size ≤ l → W.heap[l]? = some o → o.isCells = false → I s W → I s (W.putObj l o'))
    (hset : ∀ s W v, I s W → I s (W.setCell ⟨B, 0, none⟩ v)) (h0 : I [] w)
    (hseq : ∀ (l : Nat) (J : List α → World → Prop) (W : World), Below w.heap.size w W → (∀ s W' v, J s W' → J s (W'.setCell ⟨B, 0, none⟩ v)) →
      (∀ pre x W1, J pre W1 → YieldAt F (n - 1 - 1) P l (encs x) W1 fun e W' => e = .returned (.bool true) ∧ J (pre ++ [x]) W' ∧ W'.heap[B]? = W1.heap[B]?) → J [] W →
      CallsIn F (n - 1) P gf (#[.func (.yield l) #[] #[]] ++ lb) W fun e W' => (∃ v, e = .returned v) ∧ ∃ xs, T xs ∧ J xs W')
    (a₁ : α → Act)
    (hassign : ∀ (l : Nat) (x : α) (W : World) (K : Act → World → Prop), K (a₁ x) W →
      assign.wpIn (F.inRound l) (n - 1 - 1) P (Exit.then K (fun _ _ _ => False)) { tmps := (ps.zip (encs x)).foldl (fun t (p, v) => t.setIfInBounds p v) a.tmps, defers := [] } W)
    (hbody : ∀ (l : Nat) (pre : List α) (x : α) (W : World), I pre W → w.heap.size ≤ W.heap.size → body.wpIn (F.inRound l) (n - 1 - 1) P (boxPost w.heap.size B I (pre ++ [x]) W) (a₁ x) W)
    (hdone : ∀ (D : Nat) (xs : List α) (W : World), w.heap.size ≤ D → T xs → I xs W → W.heap[D]? = some (.deferred (some [])) → Q .normal { a with defers := { target := .collected D, args := #[] } :: a.defers } W) :
    (Code.rangeFunc g ps assign body).wpIn F n P Q a w := by
  refine wpIn_rangeFunc ?_
  intro fn hfn
  rw [hro]
  obtain ⟨rec, hrec⟩ : ∃ rec : LoopState → Option Code → Loop, rec = fun st pe => { state := st, pending := pe, fn, tmps := a.tmps, params := ps, assign, body, defers := w.heap.size } := ⟨_, rfl⟩
  obtain ⟨W1, hW1⟩ : ∃ W1, (w.alloc (.deferred (some []))).alloc (.loop (rec .ready none)) = W1 := ⟨_, rfl⟩
  have hL1 : W1.heap[w.heap.size + 1]? = some (.loop (rec .ready none)) := by
    rw [← hW1]; have := World.alloc_heap_new (w.alloc (.deferred (some []))) (.loop (rec .ready none)); rwa [World.size_alloc] at this
  have hK1 : W1.heap[w.heap.size]? = some (.deferred (some [])) := by
    rw [← hW1]; exact (Below.heap_alloc _ _ _ (by simp)).trans (World.alloc_heap_new w _)
  have hb1 : Below w.heap.size w W1 := by
    rw [← hW1]; exact ((Below.refl _ w).alloc (Nat.le_refl _) _).alloc (by simp) _
  refine ⟨w.heap.size + 1, [{ target := .collected w.heap.size, args := #[] }], W1, { target := .fn (.func gf) lb, args := #[.func (.yield (w.heap.size + 1)) #[] #[]] }, W1, gf,
    #[.func (.yield (w.heap.size + 1)) #[] #[]] ++ lb, W1, ?_, ?_, ?_, ?_, fun _ => h1, ?_⟩
  · rw [← hW1, hrec]; exact run_enterLoop_outer _ _ _ _ _
  · simp only [resolve, hg]
    simp [go_sem]
  · intro f' hf'; simp [Target.leads] at hf'; subst hf'; exact hFg
  · simp [invoke, go_sem, eg]
  · refine (hseq (w.heap.size + 1)
      (fun pre W => I pre W ∧ W.heap[w.heap.size + 1]? = some (.loop (rec .ready none)) ∧ W.heap[w.heap.size]? = some (.deferred (some [])))
      W1 hb1
      (fun s W' v hs => ⟨hset _ _ _ hs.1, (Below.heap_setCell W' _ v _ (by simp; omega)).trans hs.2.1, (Below.heap_setCell W' _ v _ (by simp; omega)).trans hs.2.2⟩)
      ?_ ⟨by rw [← hW1]; exact hal _ _ _ (hal _ _ _ h0), hL1, hK1⟩).mono ?_
    · rintro pre x W ⟨hi, hl, hk⟩
      have hlt : w.heap.size + 1 < W.heap.size := (Array.getElem?_eq_some_iff.1 hl).1
      have hy := run_yield (P := P) (args := encs x) hl (by rw [hrec]; exact hps x)
      rw [hrec] at hy
      refine ⟨fn, _, assign, body, hy, roundIn_of_wpIn hfn (hassign _ x W _ ⟨_, run_beginRound hl (by rw [hrec]), ?_⟩)⟩
      have hl2 : (W.putObj (w.heap.size + 1) (.loop { rec .ready none with state := .busy })).heap[w.heap.size + 1]? = some (.loop { rec .ready none with state := .busy }) := World.putObj_heap_same hlt
      have hk2 : (W.putObj (w.heap.size + 1) (.loop { rec .ready none with state := .busy })).heap[w.heap.size]? = some (.deferred (some [])) := (World.putObj_heap_other (by omega)).trans hk
      refine wpIn_mono (hbody _ pre x _ (hput _ _ _ _ _ (by omega) hl rfl hi) (by simp; omega)) ?_
      rintro e a3 W3 hp
      cases e with
      | normal =>
        obtain ⟨hk3, hB3, hi3⟩ := hp
        have hl3 := hk3.same _ _ (by omega) hl2 rfl
        have hr := run_endRound (P := P) none hl3
        rw [hrec] at hr hl3
        refine ⟨_, _, hr, rfl, ⟨hput _ _ _ _ _ (by omega) hl3 rfl hi3, ?_, (World.putObj_heap_other (by omega)).trans (hk3.same _ _ (Nat.le_refl _) hk2 rfl)⟩, ?_⟩
        · rw [hrec]; exact World.putObj_heap_same (Array.getElem?_eq_some_iff.1 hl3).1
        · exact (World.putObj_heap_other (by omega)).trans (hB3.trans (World.putObj_heap_other (by omega)))
      | _ => exact hp.elim
    · rintro e W2 ⟨⟨v, rfl⟩, xs, hS, hi, hl, hk⟩
      refine ⟨none, _, by have := run_endLoop (P := P) hl (by rw [hrec]; simp); rw [hrec] at this; exact this, hdone _ xs _ (Nat.le_refl _) hS (hput _ _ _ _ _ (by omega) hl rfl hi) ((World.putObj_heap_other (by omega)).trans hk)⟩
attribute [local go_sem] Oper.semAt_some

/-- A text's whole blocks, and what is left behind them. -/
def blksN : Nat → ByteArray → List (ByteArray × Bool)
  | 0, t => [(t, false)]
  | n + 1, t => (t.extract 0 64, true) :: blksN n (t.extract 64 t.size)
def blks (t : ByteArray) : List (ByteArray × Bool) := blksN (t.size / 64) t
theorem blks_long (t : ByteArray) (h : 64 ≤ t.size) : blks t = (t.extract 0 64, true) :: blks (t.extract 64 t.size) := by
  have e : t.size / 64 = (t.size - 64) / 64 + 1 := by omega
  have e2 : (t.extract 64 t.size).size = t.size - 64 := by rw [ByteArray.size_extract]; omega
  simp only [blks]
  rw [e, e2, blksN]
theorem blks_short (t : ByteArray) (h : t.size < 64) : blks t = [(t, false)] := by
  have e : t.size / 64 = 0 := by omega
  rw [blks, e, blksN]
/-- A block, or what is left: as the iterator hands it. -/
abbrev Blk := { x : ByteArray × Bool // (x.2 = true → x.1.size = 64) ∧ (x.2 = false → x.1.size < 64) }

def strSize : Option Value → Nat
  | some (.string s) => s.size
  | _ => 0
set_option maxRecDepth 100000 in
set_option maxHeartbeats 1000000 in
theorem blocks1_in (F : Fence) (n : Nat) (h70 : F.fn 160) (hro : F.round = none) (hn : 1 ≤ n) (l B : Nat) (t : ByteArray) (J : List Blk → World → Prop)
    (hset : ∀ s W' v, J s W' → J s (W'.setCell ⟨B, 0, none⟩ v))
    (hY : ∀ pre (x : Blk) W1, J pre W1 → YieldAt F (n - 1) Tryd.prog l #[.string x.1.1, .bool x.1.2] W1 fun e W' => e = .returned (.bool true) ∧ J (pre ++ [x]) W' ∧ W'.heap[B]? = W1.heap[B]?)
    (W : World) (hB : W.heap[B]? = some (.cells #[.string t] 9 (0, 0))) (h0 : J [] W) :
    CallsIn F n Tryd.prog 160 #[.func (.yield l) #[] #[], .pointer (some ⟨B, 0, none⟩)] W fun e W' => (∃ v, e = .returned v) ∧ ∃ xs : List Blk, xs.map Subtype.val = blks t ∧ J xs W' := by
  refine callsIn_of_wp Tryd.func160 rfl h70 ?_ hro
  simp only [Tryd.ntmps160, List.size_toArray, List.length_cons, List.length_nil, Nat.reduceAdd, Nat.reduceSub, Array.replicate_succ, Array.replicate_zero, List.push_toArray, List.append_toArray, List.nil_append, List.cons_append]
  gi_wp2
  gi_loopw [3] (fun _ wr => ∃ (pre : List Blk) (s : ByteArray), pre.map Subtype.val ++ blks s = blks t ∧ Aside0 (wr.heap[B]? = some (.cells #[.string s] 9 (0, 0))) ∧ Aside0 (J pre wr))
    (fun _ wr => strSize (wr.cell? ⟨B, 0, none⟩))
  case atStart => exact ⟨[], t, rfl, ⟨hB⟩, ⟨h0⟩⟩
  case round =>
    obtain ⟨pre, s, hpre, HC, HJ⟩ := hrel
    have hc : wr.cell? ⟨B, 0, none⟩ = some (.string s) := blk_cell HC.out 0
    have hf : wr.frozen? ⟨B, 0, none⟩ = false := blk_frozen HC.out 0
    by_cases hlt : 64 ≤ s.size
    · have b1 : decide ((64 : Int) ≤ (s.size : Int)) = true := decide_eq_true (by omega)
      have g1 : (64 : Int) ≤ (s.size : Int) := by omega
      have hw1 : (s.extract 0 64).size = 64 := by rw [ByteArray.size_extract]; omega
      obtain ⟨fn, tmps, assign, body, hy, hR⟩ := hY pre ⟨(s.extract 0 64, true), fun _ => hw1, fun h => by cases h⟩ wr HJ.out
      have HP := Aside0.mk hpre
      clear hpre
      gi_wp2
      refine hR.mono ?_
      rintro e W3 ⟨rfl, hJ3, hk3⟩
      have hC3 := hk3.trans HC.out
      have hc3 : W3.cell? ⟨B, 0, none⟩ = some (.string s) := blk_cell hC3 0
      have hf3 : W3.frozen? ⟨B, 0, none⟩ = false := blk_frozen hC3 0
      have HC3 := Aside0.mk hC3
      have HJ3 := Aside0.mk hJ3
      clear hJ3 hk3 hC3
      gi_wp2
      go_roundw
      case rel =>
        refine ⟨_, s.extract 64 s.size, ?_, ⟨blk_set HC3.out 0 _⟩, ⟨hset _ _ _ HJ3.out⟩⟩
        rw [← HP.out, blks_long s hlt]
        simp
      case measure =>
        rw [hc]
        simp [strSize, blk_cell (blk_set HC3.out 0 _) 0, ByteArray.size_extract]
        omega
    · have b1 : decide ((64 : Int) ≤ (s.size : Int)) = false := decide_eq_false (by omega)
      obtain ⟨fn, tmps, assign, body, hy, hR⟩ := hY pre ⟨(s, false), fun h => (by cases h), fun _ => (show s.size < 64 by omega)⟩ wr HJ.out
      have HP := Aside0.mk hpre
      clear hpre
      gi_wp2
      refine hR.mono ?_
      rintro e W3 ⟨rfl, hJ3, hk3⟩
      gi_wp2
      go_end0
      refine ⟨⟨_, rfl⟩, _, ?_, hJ3⟩
      rw [← HP.out, blks_short s (by omega)]
      simp

end Go.Proofs.YtfcodmdckcihmaaDoor.P
