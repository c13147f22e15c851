-- Hand-written contracts of this workplace, filled for this seat by a program.
import Derived.Test.YtlmmpncdemblbaaDoorPx0
import Derived.Test.YtlmmpncdemblbaaDoorPn0
import Derived.Test.YtlmmpncdemblbaaDoorHIdxNode
import Derived.RangeFuncWrites
import Derived.RangeFuncNested
import Derived.RangeFuncBound
import Derived.RangeFuncCalls
import Derived.RangeFuncLeaves
import Derived.RangeFuncBox
import Derived.Shelf.Abstract
import Derived.WalkKit
import Derived.OwnWalkIn
import Derived.TacticsInMore
import Derived.LoopNIn
import Derived.LoopIn
import Derived.Stop.RegionWithIn
namespace Go.Proofs.YtlmmpncdemblbaaDoor.P
open Go.RowKit Go.Proofs.YtlmmpncdemblbaaDoorW.PrintWords Go.Proofs.YtlmmpncdemblbaaDoorW.PrintLast Go.Proofs.YtlmmpncdemblbaaDoorW.PrintMore
set_option linter.unusedVariables false
set_option linter.unusedSimpArgs false
set_option linter.unnecessarySimpa false
attribute [local go_sem] Oper.semAt_some

/-! Layer 14's way over sides. -/
/-- A row of nodes lies on where its own block does. -/
theorem nodesKeep {w w' : World} {A : Option Addr} {n : Nat} {l : List SNode} (h : Kd.C kNode w A n l) (hb : ∀ a, A = some a → w'.heap[a.block]? = w.heap[a.block]?) : Kd.C kNode w' A n l := by
  obtain ⟨h1, h2, h3⟩ := h
  refine ⟨h1, h2, fun h0 => ?_⟩
  obtain ⟨a, ha, hall⟩ := h3 h0
  refine ⟨a, ha, fun j p hj => ?_⟩
  obtain ⟨cs, hl, hK, hc⟩ := hall j p hj
  obtain rfl := kNode_open hK
  refine ⟨_, hl, kNode_mk w' p, fun i u hu => ?_⟩
  rw [← hc i u hu]
  refine World.cell?_of_block ?_
  have : (a.add (j * kNode.sz + i)).block = a.block := by unfold Addr.add; split <;> rfl
  rw [this]
  exact hb a ha
/-- The blocks of S lie as they lay. -/
def KeepS (S : Nat → Prop) (W W' : World) : Prop := ∀ k, S k → W'.heap[k]? = W.heap[k]?
theorem KeepS.trans {S : Nat → Prop} {A B C : World} (h : KeepS S A B) (k : KeepS S B C) : KeepS S A C := fun i hi => (k i hi).trans (h i hi)
theorem KeepS.alloc {S : Nat → Prop} {W w : World} (h : KeepS S W w) (hlt : ∀ k, S k → k < W.heap.size) (v : Obj) : KeepS S W (w.alloc v).drew := fun k hk => by
  have h1 := h k hk
  have h2 : k < w.heap.size := by
    rw [Array.getElem?_eq_getElem (hlt k hk)] at h1
    exact (Array.getElem?_eq_some_iff.1 h1).1
  exact ((World.grownBy_alloc w v none).block k h2 (by simp)).trans h1
/-- Whether the side of a level stands right. -/
def rightS (p : Int) (k : Nat) : Bool := Go.bits .and .u64 (p / 2 ^ k) 1 == 0
def turnsTo (p : Int) (xs : List SNode) (k : Nat) : List (SNode × Bool) := (List.range k).map fun i => (xs.getD i ⟨ByteArray.empty, ⟨0, 0⟩⟩, rightS p i)
theorem turnsTo_succ (p : Int) (xs : List SNode) (k : Nat) (h : k < xs.length) : turnsTo p xs (k + 1) = turnsTo p xs k ++ [(xs[k], rightS p k)] := by
  simp [turnsTo, List.range_succ, List.getD_eq_getElem?_getD, h]
theorem turnsTo_length (p : Int) (xs : List SNode) (k : Nat) : (turnsTo p xs k).length = k := by simp [turnsTo]
abbrev turnV (x : SNode × Bool) : Array Value := #[nodeV x.1, .bool x.2]
theorem grown_drew (W : World) : W.grownBy W.drew none := ⟨rfl, rfl, rfl, Nat.le_refl _, fun _ _ _ => rfl⟩
theorem bar_none {w w1 w2 : World} (h : w.grownBy w1 none) (k : w1.grownBy w2 none) : w.grownBy w2 none :=
  ⟨k.os.trans h.os, k.tape.trans h.tape, k.output.trans h.output, Nat.le_trans h.size k.size, fun i hi hn => (k.block i (Nat.lt_of_lt_of_le hi h.size) hn).trans (h.block i hi hn)⟩
set_option maxRecDepth 100000 in
set_option maxHeartbeats 400000 in
theorem turns1_in (F : Fence) (n : Nat) (hf : F.fn 68) (hro : F.round = none) (hn : 1 ≤ n) (l sb pb B : Nat) (p : Int) (hp : 0 ≤ p) (A : Option Addr) (c : Nat) (xs : List SNode) (hx63 : xs.length ≤ 63) (S : Nat → Prop) (hSs : S sb) (hSp : S pb) (hSA : 0 < xs.length → ∀ a, A = some a → S a.block) (Ok : SNode → Prop) (hok : ∀ x ∈ xs, Ok x)
    (J Jx : List (SNode × Bool) → World → Prop) (hJ : AbidesFrom B J)
    (hY : ∀ pre x W, Ok x.1 → J pre W → pre.length < xs.length → YieldAt F (n - 1) Tryd.prog l (turnV x) W fun e W' => (e = .returned (.bool true) ∧ J (pre ++ [x]) W' ∧ KeepS S W W') ∨ (e = .returned (.bool false) ∧ Jx (pre ++ [x]) W'))
    (W : World) (hs : W.heap[sb]? = some (.cells #[.slice A xs.length c] 27 (0, 0))) (hpb : W.heap[pb]? = some (.cells #[.int .u64 p] 22 (0, 0))) (hr : Kd.C kNode W A xs.length xs) (hlt : ∀ k, S k → k < W.heap.size) (h0 : J [] W) :
    CallsIn F n Tryd.prog 68 #[.func (.yield l) #[] #[], .pointer (some ⟨sb, 0, none⟩), .pointer (some ⟨pb, 0, none⟩)] W fun e W' => (∃ v, e = .returned v) ∧ ((∃ ys, ys = turnsTo p xs xs.length ∧ J ys W') ∨ (∃ pre, (∃ k, k ≤ xs.length ∧ pre = turnsTo p xs k) ∧ Jx pre W')) := by
  obtain ⟨Ff, Fd, Fa, Fr⟩ := F
  obtain rfl : Fr = none := hro
  have hs0 : W.cell? ⟨sb, 0, none⟩ = some (.slice A xs.length c) := blk_cell hs 0
  have HS := Aside0.mk hs
  have HP := Aside0.mk hpb
  have HR := Aside0.mk hr
  have HL := Aside0.mk hlt
  have HJ := Aside0.mk hJ
  have HY := Aside0.mk hY
  have HOK := Aside0.mk hok
  clear hok
  clear hs hpb hr hlt hJ hY
  refine callsIn_of_wp Tryd.func68 rfl hf ?_
  simp only [Tryd.ntmps68, List.size_toArray, List.length_cons, List.length_nil, Nat.reduceAdd, Nat.reduceSub, Array.replicate_succ, Array.replicate_zero, List.push_toArray, List.append_toArray, List.nil_append, List.cons_append]
  gi_wp2
  clear hs0
  gi_loopw [8] (fun i wr => ∃ k : Nat, k ≤ xs.length ∧ i = .int .i64 k ∧ Aside0 (J (turnsTo p xs k) wr) ∧ Aside0 (KeepS S W wr)) (fun i _ => xs.length - (intOf i).toNat)
  case atStart => exact ⟨0, Nat.zero_le _, rfl, ⟨h0⟩, ⟨fun _ _ => rfl⟩⟩
  case round =>
    obtain ⟨k, hk, rfl, HJs, HK⟩ := hrel
    by_cases hlt : k < xs.length
    · have b1 : decide ((k : Int) < (xs.length : Int)) = true := decide_eq_true (by omega)
      have p1 : 0 ≤ (k : Int) := by omega
      have p2 : (k : Int) < (xs.length : Int) := by omega
      have hr2 : Kd.C kNode wr A xs.length xs := nodesKeep HR.out (fun a ha => HK.out _ (hSA (by omega) a ha))
      obtain ⟨ad, e, hx0, hx1, hx2⟩ := at_TNode hr2 (k : Int) p1 p2
      rw [rd_TNode_at xs k hlt, Int.toNat_natCast] at hx0 hx1 hx2
      obtain ⟨x, hx⟩ : ∃ x, x = xs[k] := ⟨_, rfl⟩
      rw [← hx] at hx0 hx1 hx2
      have hp0 : wr.cell? ⟨pb, 0, none⟩ = some (.int .u64 p) := blk_cell ((HK.out pb hSp).trans HP.out) 0
      have hpl : pb < wr.heap.size := blk_lt ((HK.out pb hSp).trans HP.out)
      have hpn : pb ≠ wr.heap.size := Nat.ne_of_lt hpl
      have HX := Aside0.mk hx
      have hokx : Ok x := by rw [hx]; exact HOK.out _ (List.getElem_mem _)
      clear hx
      cases e
      have hg1 : wr.grownBy (wr.alloc (.cells #[.string x.f0, .int .u64 x.f1.f0, .int .u64 x.f1.f1] 26)).drew none := bar_none (World.grownBy_alloc wr _ none) (grown_drew _)
      obtain ⟨fn, tmps, assign, body, hy, hR⟩ := HY.out (turnsTo p xs k) (x, rightS p k) (wr.alloc (.cells #[.string x.f0, .int .u64 x.f1.f0, .int .u64 x.f1.f1] 26)).drew hokx (HJ.out _ wr _ none HJs.out hg1 (fun r e => by cases e)) (by rw [turnsTo_length]; exact hlt)
      have hy2 : (Instr.yield l #[.agg #[.string x.f0, .int .u64 x.f1.f0, .int .u64 x.f1.f1], .bool (Go.bits .and .u64 (p / 2 ^ k) 1 == 0)]).run Tryd.prog (wr.alloc (.cells #[.string x.f0, .int .u64 x.f1.f0, .int .u64 x.f1.f1] 26)).drew = .ok (.round l fn tmps assign body) (wr.alloc (.cells #[.string x.f0, .int .u64 x.f1.f0, .int .u64 x.f1.f1] 26)).drew := hy
      have hR2 := hR.mono (fun e W' h => (show ∃ b : Bool, e = .returned (.bool b) ∧ Aside0 ((b = true ∧ J (turnsTo p xs k ++ [(x, rightS p k)]) W' ∧ KeepS S (wr.alloc (.cells #[.string x.f0, .int .u64 x.f1.f0, .int .u64 x.f1.f1] 26)).drew W') ∨ (b = false ∧ Jx (turnsTo p xs k ++ [(x, rightS p k)]) W')) from
        h.elim (fun h => ⟨true, h.1, ⟨.inl ⟨rfl, h.2⟩⟩⟩) (fun h => ⟨false, h.1, ⟨.inr ⟨rfl, h.2⟩⟩⟩)))
      clear hy hR
      gi_wp2
      clear hg1 hr2
      gi_region_with (refine hR2.mono ?_; clear hR2 hy2 hx0 hx1 hx2 hp0 b1 p1 p2 hpn hpl; rintro e W3 ⟨b, rfl, HE⟩)
      all_goals
        have HKW := Aside0.mk (HK.out.alloc HL.out (.cells #[.string x.f0, .int .u64 x.f1.f0, .int .u64 x.f1.f1] 26))
        have HE2 := Aside0.mk (show turnsTo p xs (k + 1) = turnsTo p xs k ++ [(x, rightS p k)] by rw [turnsTo_succ p xs k hlt, HX.out])
        cases b with
        | true =>
          obtain ⟨-, hJ2, hK2⟩ | ⟨h, -⟩ := HE.out
          case inr => exact absurd h (by decide)
          have HJ2 := Aside0.mk hJ2
          have HK2 := Aside0.mk hK2
          clear hJ2 hK2
          gi_wp2
          exact ⟨⟨k + 1, hlt, rfl, ⟨by rw [HE2.out]; exact HJ2.out⟩, ⟨HKW.out.trans HK2.out⟩⟩, by simp [intOf]; omega⟩
        | false =>
          obtain ⟨h, -⟩ | ⟨-, hJ2⟩ := HE.out
          case inl => exact absurd h (by decide)
          have HJ2 := Aside0.mk hJ2
          clear hJ2
          gi_wp2
          refine bodyPost_ret (results_none rfl _ _ _) rfl ?_
          exact ⟨⟨_, rfl⟩, .inr ⟨_, ⟨k + 1, hlt, HE2.out.symm⟩, HJ2.out⟩⟩
    · have b1 : decide ((k : Int) < (xs.length : Int)) = false := decide_eq_false (by omega)
      obtain rfl : k = xs.length := by omega
      gi_wp2
      go_end0
      exact ⟨⟨_, rfl⟩, .inl ⟨_, rfl, HJs.out⟩⟩

end Go.Proofs.YtlmmpncdemblbaaDoor.P
