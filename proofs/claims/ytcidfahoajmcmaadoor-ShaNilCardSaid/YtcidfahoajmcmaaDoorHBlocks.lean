-- Hand-written contracts of this workplace, filled for this seat by a program.
import Derived.Test.YtcidfahoajmcmaaDoorPx0
import Derived.Test.YtcidfahoajmcmaaDoorHBox
import Derived.Test.YtcidfahoajmcmaaDoorHNext
import Derived.RangeFuncBox
import Derived.Shelf.Abstract
import Derived.WalkKit
import Derived.OwnWalkIn
import Derived.TacticsInMore
import Derived.LoopNIn
import Derived.LoopIn
namespace Go.Proofs.YtcidfahoajmcmaaDoor.P
open Go.RowKit Go.Proofs.YtcidfahoajmcmaaDoorW.PrintWords Go.Proofs.YtcidfahoajmcmaaDoorW.PrintLast Go.Proofs.YtcidfahoajmcmaaDoorW.PrintMore
set_option linter.unusedVariables false
set_option linter.unusedSimpArgs false
set_option linter.unnecessarySimpa false
attribute [local go_sem] Oper.semAt_some

/-- A text's whole blocks, and what is left behind them. -/
def blksN : Nat → ByteArray → List (ByteArray × Bool)
  | 0, t => [(t, false)]
  | n + 1, t => (t.extract 0 64, true) :: blksN n (t.extract 64 t.size)
def blks (t : ByteArray) : List (ByteArray × Bool) := blksN (t.size / 64) t
theorem blks_long (t : ByteArray) (h : 64 ≤ t.size) : blks t = (t.extract 0 64, true) :: blks (t.extract 64 t.size) := by
  have e : t.size / 64 = (t.size - 64) / 64 + 1 := by omega
  have e2 : (t.extract 64 t.size).size = t.size - 64 := by rw [ByteArray.size_extract]; omega
  simp only [blks]
  rw [e, e2, blksN]
theorem blks_short (t : ByteArray) (h : t.size < 64) : blks t = [(t, false)] := by
  have e : t.size / 64 = 0 := by omega
  rw [blks, e, blksN]
/-- A block, or what is left: as the iterator hands it. -/
abbrev Blk := { x : ByteArray × Bool // (x.2 = true → x.1.size = 64) ∧ (x.2 = false → x.1.size < 64) }

def strSize : Option Value → Nat
  | some (.string s) => s.size
  | _ => 0
set_option maxRecDepth 100000 in
set_option maxHeartbeats 1000000 in
theorem blocks1_in (F : Fence) (n : Nat) (h70 : F.fn 70) (hro : F.round = none) (hn : 1 ≤ n) (l B : Nat) (t : ByteArray) (J : List Blk → World → Prop)
    (hset : ∀ s W' v, J s W' → J s (W'.setCell ⟨B, 0, none⟩ v))
    (hY : ∀ pre (x : Blk) W1, J pre W1 → YieldAt F (n - 1) Tryd.prog l #[.string x.1.1, .bool x.1.2] W1 fun e W' => e = .returned (.bool true) ∧ J (pre ++ [x]) W' ∧ W'.heap[B]? = W1.heap[B]?)
    (W : World) (hB : W.heap[B]? = some (.cells #[.string t] 9 (0, 0))) (h0 : J [] W) :
    CallsIn F n Tryd.prog 70 #[.func (.yield l) #[] #[], .pointer (some ⟨B, 0, none⟩)] W fun e W' => (∃ v, e = .returned v) ∧ ∃ xs : List Blk, xs.map Subtype.val = blks t ∧ J xs W' := by
  refine callsIn_of_wp Tryd.func70 rfl h70 ?_ hro
  simp only [Tryd.ntmps70, List.size_toArray, List.length_cons, List.length_nil, Nat.reduceAdd, Nat.reduceSub, Array.replicate_succ, Array.replicate_zero, List.push_toArray, List.append_toArray, List.nil_append, List.cons_append]
  gi_wp2
  gi_loopw [3] (fun _ wr => ∃ (pre : List Blk) (s : ByteArray), pre.map Subtype.val ++ blks s = blks t ∧ Aside0 (wr.heap[B]? = some (.cells #[.string s] 9 (0, 0))) ∧ Aside0 (J pre wr))
    (fun _ wr => strSize (wr.cell? ⟨B, 0, none⟩))
  case atStart => exact ⟨[], t, rfl, ⟨hB⟩, ⟨h0⟩⟩
  case round =>
    obtain ⟨pre, s, hpre, HC, HJ⟩ := hrel
    have hc : wr.cell? ⟨B, 0, none⟩ = some (.string s) := blk_cell HC.out 0
    have hf : wr.frozen? ⟨B, 0, none⟩ = false := blk_frozen HC.out 0
    by_cases hlt : 64 ≤ s.size
    · have b1 : decide ((64 : Int) ≤ (s.size : Int)) = true := decide_eq_true (by omega)
      have g1 : (64 : Int) ≤ (s.size : Int) := by omega
      have hw1 : (s.extract 0 64).size = 64 := by rw [ByteArray.size_extract]; omega
      obtain ⟨fn, tmps, assign, body, hy, hR⟩ := hY pre ⟨(s.extract 0 64, true), fun _ => hw1, fun h => by cases h⟩ wr HJ.out
      have HP := Aside0.mk hpre
      clear hpre
      gi_wp2
      refine hR.mono ?_
      rintro e W3 ⟨rfl, hJ3, hk3⟩
      have hC3 := hk3.trans HC.out
      have hc3 : W3.cell? ⟨B, 0, none⟩ = some (.string s) := blk_cell hC3 0
      have hf3 : W3.frozen? ⟨B, 0, none⟩ = false := blk_frozen hC3 0
      have HC3 := Aside0.mk hC3
      have HJ3 := Aside0.mk hJ3
      clear hJ3 hk3 hC3
      gi_wp2
      go_roundw
      case rel =>
        refine ⟨_, s.extract 64 s.size, ?_, ⟨blk_set HC3.out 0 _⟩, ⟨hset _ _ _ HJ3.out⟩⟩
        rw [← HP.out, blks_long s hlt]
        simp
      case measure =>
        rw [hc]
        simp [strSize, blk_cell (blk_set HC3.out 0 _) 0, ByteArray.size_extract]
        omega
    · have b1 : decide ((64 : Int) ≤ (s.size : Int)) = false := decide_eq_false (by omega)
      obtain ⟨fn, tmps, assign, body, hy, hR⟩ := hY pre ⟨(s, false), fun h => (by cases h), fun _ => (show s.size < 64 by omega)⟩ wr HJ.out
      have HP := Aside0.mk hpre
      clear hpre
      gi_wp2
      refine hR.mono ?_
      rintro e W3 ⟨rfl, hJ3, hk3⟩
      gi_wp2
      go_end0
      refine ⟨⟨_, rfl⟩, _, ?_, hJ3⟩
      rw [← HP.out, blks_short s (by omega)]
      simp

end Go.Proofs.YtcidfahoajmcmaaDoor.P
