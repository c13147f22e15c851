-- Written by a program of this workplace (wip/tool) out of the translation. Lean checks it.
import Derived.Test.YtlmmpncdemblbaaDoorPx0
import Derived.Test.YtlmmpncdemblbaaDoorProg
import Derived.Below
import Derived.Deep.Draws
import Derived.Deep.AppendLies
import Derived.Maps.AppendAt
import Derived.OwnWalk
import Derived.Laws.BytesArg
import Derived.Laws.MakeOwn
import Derived.Laws.OwnMore
import Derived.Deep.OwnRows
import Derived.Tactics
import Derived.Lib.ConvBytes
import Derived.Laws.Slices
import Derived.WalkKit
import Derived.KernelRfl
import Derived.RowKit3
import Derived.Deep.LoopGhost
import Derived.Deep.QuietTactic
import Derived.BigQuiet
import Derived.WideLaws
import Derived.Deep.DeepCutAuto
import Derived.Deep.CutBlock
import Derived.Deep.RegionHeld3
import Derived.Laws.Rows
import Derived.Lib.AppendStr
import Derived.ArgAppend
import Derived.Laws.IdiomCopy
import Derived.OrdersHeld
import Derived.Laws.BitsLemmas
import Derived.RowKit
import Derived.Test.YtlmmpncdemblbaaDoorWWords
import Derived.Test.YtlmmpncdemblbaaDoorWLast
import Derived.Test.YtlmmpncdemblbaaDoorWQPut
import Derived.Test.YtlmmpncdemblbaaDoorWApart
import Derived.Test.YtlmmpncdemblbaaDoorWArr
import Derived.Test.YtlmmpncdemblbaaDoorWZeros
import Derived.Test.YtlmmpncdemblbaaDoorWFoot
import Derived.Test.YtlmmpncdemblbaaDoorWKept
import Derived.Test.YtlmmpncdemblbaaDoorWShare
import Derived.Test.YtlmmpncdemblbaaDoorWN
import Derived.Test.YtlmmpncdemblbaaDoorWRepsOne
import Derived.Test.YtlmmpncdemblbaaDoorWNEv
import Derived.Test.YtlmmpncdemblbaaDoorWMore
namespace Go.Proofs.YtlmmpncdemblbaaDoor.P
open Go.RowKit Go.Proofs.YtlmmpncdemblbaaDoorW.PrintWords Go.Proofs.YtlmmpncdemblbaaDoorW.PrintLast Go.Proofs.YtlmmpncdemblbaaDoorW.PrintMore
attribute [local go_sem] max2_int min2_int max_two min_two max_three min_three max_four min_four   -- for this text's walks alone
set_option linter.unusedVariables false
set_option linter.unusedSimpArgs false
theorem info22 : (Tryd.prog.info? 22).map (fun i => (i.zero, i.size, i.bytes)) = some (some (.int .u64 0), 1, 8) := by kernel_rfl
theorem infoNode : (Tryd.prog.info? 26).map (fun i => (i.zero, i.size, i.bytes)) = some (some (.agg #[(.string ⟨#[]⟩), (.int .u64 0), (.int .u64 0)]), 3, 32) := by kernel_rfl
-- the values' own types
/-! #### struct type 24 -/
structure SU128 where
  f0 : Int
  f1 : Int
def zU128 : SU128 := ⟨(0 : Int), (0 : Int)⟩
def kU128 : Kd SU128 := Kd.iso (Kd.pair (Kd.int .u64) (Kd.int .u64)) (fun x : SU128 => (x.f0, x.f1))
theorem kU128_open {w : World} {x : SU128} {cs : List Value} (h : kU128.K w x cs) : cs = [.int .u64 x.f0, .int .u64 x.f1] := by
  obtain ⟨_, _, rfl, rfl, rfl⟩ := h
  exact rfl
theorem kU128_openM {w : World} {base : Nat} {ok : Nat → Prop} {x : SU128} {cs : List Value} (h : kU128.M w base ok x cs) : cs = [.int .u64 x.f0, .int .u64 x.f1] := by
  obtain ⟨_, _, rfl, rfl, rfl⟩ := h
  exact rfl
theorem kU128_mk (w : World) (x : SU128)  : kU128.K w x [.int .u64 x.f0, .int .u64 x.f1] := ⟨[.int .u64 x.f0], [.int .u64 x.f1], rfl, rfl, rfl⟩
theorem kU128_mkM (w : World) (base : Nat) (ok : Nat → Prop) (x : SU128)  : kU128.M w base ok x [.int .u64 x.f0, .int .u64 x.f1] := ⟨[.int .u64 x.f0], [.int .u64 x.f1], rfl, rfl, rfl⟩
def rd_TU128 (xs : List SU128) (i : Int) : SU128 := xs.getD i.toNat zU128
theorem at_TU128 {w : World} {A : Option Addr} {n : Nat} {xs : List SU128} (h : Kd.C kU128 w A n xs) (i : Int) (h0 : 0 ≤ i) (h1 : i < n) : ∃ ad , A = some ad ∧ w.cell? (ad.add (i.toNat * 2)) = some (.int .u64 (rd_TU128 xs i).f0) ∧ w.cell? ⟨(ad.add (i.toNat * 2)).block, (ad.add (i.toNat * 2)).off + 1, none⟩ = some (.int .u64 (rd_TU128 xs i).f1) := by
  obtain ⟨ad, c, e, _, hK, hc0⟩ := Kd.C_get h zU128 i h0 h1
  have hc : ∀ j u, c[j]? = some u → w.cell? (ad.add (i.toNat * 2 + j)) = some u := hc0
  obtain rfl := kU128_open hK
  exact ⟨ad, e, hc 0 _ rfl, by rw [← add_field _ _ 1 (by omega)]; exact hc 1 _ rfl⟩

/-! #### struct type 26 -/
structure SNode where
  f0 : ByteArray
  f1 : SU128
def zNode : SNode := ⟨(⟨#[]⟩ : ByteArray), zU128⟩
def kNode : Kd SNode := Kd.iso (Kd.pair Kd.string kU128) (fun x : SNode => (x.f0, x.f1))
theorem kNode_open {w : World} {x : SNode} {cs : List Value} (h : kNode.K w x cs) : cs = [.string x.f0, .int .u64 x.f1.f0, .int .u64 x.f1.f1] := by
  obtain ⟨_, _, rfl, rfl, s1⟩ := h
  obtain rfl := kU128_open s1
  exact rfl
theorem kNode_openM {w : World} {base : Nat} {ok : Nat → Prop} {x : SNode} {cs : List Value} (h : kNode.M w base ok x cs) : cs = [.string x.f0, .int .u64 x.f1.f0, .int .u64 x.f1.f1] := by
  obtain ⟨_, _, rfl, rfl, s1⟩ := h
  obtain rfl := kU128_openM s1
  exact rfl
theorem kNode_mk (w : World) (x : SNode)  : kNode.K w x [.string x.f0, .int .u64 x.f1.f0, .int .u64 x.f1.f1] := ⟨[.string x.f0], [.int .u64 x.f1.f0, .int .u64 x.f1.f1], rfl, rfl, (kU128_mk w x.f1 )⟩
theorem kNode_mkM (w : World) (base : Nat) (ok : Nat → Prop) (x : SNode)  : kNode.M w base ok x [.string x.f0, .int .u64 x.f1.f0, .int .u64 x.f1.f1] := ⟨[.string x.f0], [.int .u64 x.f1.f0, .int .u64 x.f1.f1], rfl, rfl, (kU128_mkM w base ok x.f1 )⟩
def rd_TNode (xs : List SNode) (i : Int) : SNode := xs.getD i.toNat zNode
theorem at_TNode {w : World} {A : Option Addr} {n : Nat} {xs : List SNode} (h : Kd.C kNode w A n xs) (i : Int) (h0 : 0 ≤ i) (h1 : i < n) : ∃ ad , A = some ad ∧ w.cell? (ad.add (i.toNat * 3)) = some (.string (rd_TNode xs i).f0) ∧ w.cell? ⟨(ad.add (i.toNat * 3)).block, (ad.add (i.toNat * 3)).off + 1, none⟩ = some (.int .u64 (rd_TNode xs i).f1.f0) ∧ w.cell? ⟨(ad.add (i.toNat * 3)).block, (ad.add (i.toNat * 3)).off + 2, none⟩ = some (.int .u64 (rd_TNode xs i).f1.f1) := by
  obtain ⟨ad, c, e, _, hK, hc0⟩ := Kd.C_get h zNode i h0 h1
  have hc : ∀ j u, c[j]? = some u → w.cell? (ad.add (i.toNat * 3 + j)) = some u := hc0
  obtain rfl := kNode_open hK
  exact ⟨ad, e, hc 0 _ rfl, by rw [← add_field _ _ 1 (by omega)]; exact hc 1 _ rfl, by rw [← add_field _ _ 2 (by omega)]; exact hc 2 _ rfl⟩

def rd_L6 (xs : List (List SNode)) (i : Int) : (List SNode) := xs.getD i.toNat ([] : List SNode)
theorem at_L6 {w : World} {A : Option Addr} {n : Nat} {xs : List (List SNode)} (h : Kd.C (Kd.slice 26 kNode) w A n xs) (i : Int) (h0 : 0 ≤ i) (h1 : i < n) : ∃ ad A0 c0, A = some ad ∧ w.cell? (ad.add i.toNat) = some (.slice A0 (rd_L6 xs i).length c0) ∧ (rd_L6 xs i).length ≤ c0 ∧ kNode.C w A0 (rd_L6 xs i).length (rd_L6 xs i) := by
  obtain ⟨ad, c, e, _, hK, hc0⟩ := Kd.C_get h ([] : List SNode) i h0 h1
  have hc : ∀ j u, c[j]? = some u → w.cell? (ad.add (i.toNat * 1 + j)) = some u := hc0
  obtain ⟨A0, c0, rfl, l0, g0⟩ := hK
  exact ⟨ad, A0, c0, e, by have hq := hc 0 _ rfl; rwa [Nat.mul_one, Nat.add_zero] at hq, l0, g0⟩

end Go.Proofs.YtlmmpncdemblbaaDoor.P
