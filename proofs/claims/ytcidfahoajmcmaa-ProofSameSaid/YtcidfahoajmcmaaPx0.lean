-- Written by a program of this workplace (wip/tool) out of the translation. Lean checks it.
import Derived.Test.YtcidfahoajmcmaaProg
import Derived.Below
import Derived.Deep.Draws
import Derived.Deep.AppendLies
import Derived.Maps.AppendAt
import Derived.OwnWalk
import Derived.Laws.BytesArg
import Derived.Laws.MakeOwn
import Derived.Laws.OwnMore
import Derived.Deep.OwnRows
import Derived.Tactics
import Derived.Lib.ConvBytes
import Derived.Laws.Slices
import Derived.WalkKit
import Derived.KernelRfl
import Derived.RowKit3
import Derived.Deep.LoopGhost
import Derived.Deep.QuietTactic
import Derived.BigQuiet
import Derived.WideLaws
import Derived.Deep.DeepCutAuto
import Derived.Deep.CutBlock
import Derived.Deep.RegionHeld3
import Derived.Laws.Rows
import Derived.Lib.AppendStr
import Derived.ArgAppend
import Derived.Laws.IdiomCopy
import Derived.OrdersHeld
import Derived.Laws.BitsLemmas
import Derived.RowKit
import Derived.Test.YtcidfahoajmcmaaWWords
import Derived.Test.YtcidfahoajmcmaaWLast
import Derived.Test.YtcidfahoajmcmaaWTab
import Derived.Test.YtcidfahoajmcmaaWFour
import Derived.Test.YtcidfahoajmcmaaWQPut
import Derived.Test.YtcidfahoajmcmaaWApart
import Derived.Test.YtcidfahoajmcmaaWArr
import Derived.Test.YtcidfahoajmcmaaWZeros
import Derived.Test.YtcidfahoajmcmaaWFoot
import Derived.Test.YtcidfahoajmcmaaWKept
import Derived.Test.YtcidfahoajmcmaaWShare
import Derived.Test.YtcidfahoajmcmaaWN
import Derived.Test.YtcidfahoajmcmaaWFootNe
import Derived.Test.YtcidfahoajmcmaaWAt
import Derived.Test.YtcidfahoajmcmaaWEqStruct
import Derived.Test.YtcidfahoajmcmaaWRepsOne
import Derived.Test.YtcidfahoajmcmaaWInv
import Derived.Test.YtcidfahoajmcmaaWInvWords
import Derived.Test.YtcidfahoajmcmaaWGuard
import Derived.Test.YtcidfahoajmcmaaWNEv
import Derived.Test.YtcidfahoajmcmaaWMore
namespace Go.Proofs.Ytcidfahoajmcmaa.P
open Go.RowKit Go.Proofs.YtcidfahoajmcmaaW.PrintWords Go.Proofs.YtcidfahoajmcmaaW.PrintLast Go.Proofs.YtcidfahoajmcmaaW.PrintMore
attribute [local go_sem] max2_int min2_int max_two min_two max_three min_three max_four min_four   -- for this text's walks alone
set_option linter.unusedVariables false
set_option linter.unusedSimpArgs false



def errW : Option Int → Value
  | none => .nilIface
  | some c => .iface 0 (.int .i64 c)
theorem errW_none : errW none = .nilIface := rfl
theorem errW_some (c : Int) : errW (some c) = .iface 0 (.int .i64 c) := rfl

theorem infoLeaf : (Try.prog.info? 26).map (fun i => (i.zero, i.size, i.bytes)) = some (some (.agg #[(.bool false), (.string ⟨#[]⟩), (.string ⟨#[]⟩), (.int .u64 0), (.int .u64 0)]), 5, 56) := by kernel_rfl
-- the values' own types
/-! #### struct type 24 -/
structure SU128 where
  f0 : Int
  f1 : Int
def zU128 : SU128 := ⟨(0 : Int), (0 : Int)⟩
def kU128 : Kd SU128 := Kd.iso (Kd.pair (Kd.int .u64) (Kd.int .u64)) (fun x : SU128 => (x.f0, x.f1))
theorem kU128_open {w : World} {x : SU128} {cs : List Value} (h : kU128.K w x cs) : cs = [.int .u64 x.f0, .int .u64 x.f1] := by
  obtain ⟨_, _, rfl, rfl, rfl⟩ := h
  exact rfl
theorem kU128_openM {w : World} {base : Nat} {ok : Nat → Prop} {x : SU128} {cs : List Value} (h : kU128.M w base ok x cs) : cs = [.int .u64 x.f0, .int .u64 x.f1] := by
  obtain ⟨_, _, rfl, rfl, rfl⟩ := h
  exact rfl
theorem kU128_mk (w : World) (x : SU128)  : kU128.K w x [.int .u64 x.f0, .int .u64 x.f1] := ⟨[.int .u64 x.f0], [.int .u64 x.f1], rfl, rfl, rfl⟩
theorem kU128_mkM (w : World) (base : Nat) (ok : Nat → Prop) (x : SU128)  : kU128.M w base ok x [.int .u64 x.f0, .int .u64 x.f1] := ⟨[.int .u64 x.f0], [.int .u64 x.f1], rfl, rfl, rfl⟩
def rd_TU128 (xs : List SU128) (i : Int) : SU128 := xs.getD i.toNat zU128
theorem at_TU128 {w : World} {A : Option Addr} {n : Nat} {xs : List SU128} (h : Kd.C kU128 w A n xs) (i : Int) (h0 : 0 ≤ i) (h1 : i < n) : ∃ ad , A = some ad ∧ w.cell? (ad.add (i.toNat * 2)) = some (.int .u64 (rd_TU128 xs i).f0) ∧ w.cell? ⟨(ad.add (i.toNat * 2)).block, (ad.add (i.toNat * 2)).off + 1, none⟩ = some (.int .u64 (rd_TU128 xs i).f1) := by
  obtain ⟨ad, c, e, _, hK, hc0⟩ := Kd.C_get h zU128 i h0 h1
  have hc : ∀ j u, c[j]? = some u → w.cell? (ad.add (i.toNat * 2 + j)) = some u := hc0
  obtain rfl := kU128_open hK
  exact ⟨ad, e, hc 0 _ rfl, by rw [← add_field _ _ 1 (by omega)]; exact hc 1 _ rfl⟩

/-! #### struct type 61 -/
structure SNode where
  f0 : ByteArray
  f1 : SU128
def zNode : SNode := ⟨(⟨#[]⟩ : ByteArray), zU128⟩
def kNode : Kd SNode := Kd.iso (Kd.pair Kd.string kU128) (fun x : SNode => (x.f0, x.f1))
theorem kNode_open {w : World} {x : SNode} {cs : List Value} (h : kNode.K w x cs) : cs = [.string x.f0, .int .u64 x.f1.f0, .int .u64 x.f1.f1] := by
  obtain ⟨_, _, rfl, rfl, s1⟩ := h
  obtain rfl := kU128_open s1
  exact rfl
theorem kNode_openM {w : World} {base : Nat} {ok : Nat → Prop} {x : SNode} {cs : List Value} (h : kNode.M w base ok x cs) : cs = [.string x.f0, .int .u64 x.f1.f0, .int .u64 x.f1.f1] := by
  obtain ⟨_, _, rfl, rfl, s1⟩ := h
  obtain rfl := kU128_openM s1
  exact rfl
theorem kNode_mk (w : World) (x : SNode)  : kNode.K w x [.string x.f0, .int .u64 x.f1.f0, .int .u64 x.f1.f1] := ⟨[.string x.f0], [.int .u64 x.f1.f0, .int .u64 x.f1.f1], rfl, rfl, (kU128_mk w x.f1 )⟩
theorem kNode_mkM (w : World) (base : Nat) (ok : Nat → Prop) (x : SNode)  : kNode.M w base ok x [.string x.f0, .int .u64 x.f1.f0, .int .u64 x.f1.f1] := ⟨[.string x.f0], [.int .u64 x.f1.f0, .int .u64 x.f1.f1], rfl, rfl, (kU128_mkM w base ok x.f1 )⟩
def rd_TNode (xs : List SNode) (i : Int) : SNode := xs.getD i.toNat zNode
theorem at_TNode {w : World} {A : Option Addr} {n : Nat} {xs : List SNode} (h : Kd.C kNode w A n xs) (i : Int) (h0 : 0 ≤ i) (h1 : i < n) : ∃ ad , A = some ad ∧ w.cell? (ad.add (i.toNat * 3)) = some (.string (rd_TNode xs i).f0) ∧ w.cell? ⟨(ad.add (i.toNat * 3)).block, (ad.add (i.toNat * 3)).off + 1, none⟩ = some (.int .u64 (rd_TNode xs i).f1.f0) ∧ w.cell? ⟨(ad.add (i.toNat * 3)).block, (ad.add (i.toNat * 3)).off + 2, none⟩ = some (.int .u64 (rd_TNode xs i).f1.f1) := by
  obtain ⟨ad, c, e, _, hK, hc0⟩ := Kd.C_get h zNode i h0 h1
  have hc : ∀ j u, c[j]? = some u → w.cell? (ad.add (i.toNat * 3 + j)) = some u := hc0
  obtain rfl := kNode_open hK
  exact ⟨ad, e, hc 0 _ rfl, by rw [← add_field _ _ 1 (by omega)]; exact hc 1 _ rfl, by rw [← add_field _ _ 2 (by omega)]; exact hc 2 _ rfl⟩

/-! #### struct type 26 -/
structure SLeaf where
  f0 : Bool
  f1 : ByteArray
  f2 : ByteArray
  f3 : SU128
def zLeaf : SLeaf := ⟨false, (⟨#[]⟩ : ByteArray), (⟨#[]⟩ : ByteArray), zU128⟩
def kLeaf : Kd SLeaf := Kd.iso (Kd.pair Kd.bool (Kd.pair Kd.string (Kd.pair Kd.string kU128))) (fun x : SLeaf => (x.f0, x.f1, x.f2, x.f3))
theorem kLeaf_open {w : World} {x : SLeaf} {cs : List Value} (h : kLeaf.K w x cs) : cs = [.bool x.f0, .string x.f1, .string x.f2, .int .u64 x.f3.f0, .int .u64 x.f3.f1] := by
  obtain ⟨_, _, rfl, rfl, ⟨_, _, rfl, rfl, ⟨_, _, rfl, rfl, s3⟩⟩⟩ := h
  obtain rfl := kU128_open s3
  exact rfl
theorem kLeaf_openM {w : World} {base : Nat} {ok : Nat → Prop} {x : SLeaf} {cs : List Value} (h : kLeaf.M w base ok x cs) : cs = [.bool x.f0, .string x.f1, .string x.f2, .int .u64 x.f3.f0, .int .u64 x.f3.f1] := by
  obtain ⟨_, _, rfl, rfl, ⟨_, _, rfl, rfl, ⟨_, _, rfl, rfl, s3⟩⟩⟩ := h
  obtain rfl := kU128_openM s3
  exact rfl
theorem kLeaf_mk (w : World) (x : SLeaf)  : kLeaf.K w x [.bool x.f0, .string x.f1, .string x.f2, .int .u64 x.f3.f0, .int .u64 x.f3.f1] := ⟨[.bool x.f0], [.string x.f1, .string x.f2, .int .u64 x.f3.f0, .int .u64 x.f3.f1], rfl, rfl, ⟨[.string x.f1], [.string x.f2, .int .u64 x.f3.f0, .int .u64 x.f3.f1], rfl, rfl, ⟨[.string x.f2], [.int .u64 x.f3.f0, .int .u64 x.f3.f1], rfl, rfl, (kU128_mk w x.f3 )⟩⟩⟩
theorem kLeaf_mkM (w : World) (base : Nat) (ok : Nat → Prop) (x : SLeaf)  : kLeaf.M w base ok x [.bool x.f0, .string x.f1, .string x.f2, .int .u64 x.f3.f0, .int .u64 x.f3.f1] := ⟨[.bool x.f0], [.string x.f1, .string x.f2, .int .u64 x.f3.f0, .int .u64 x.f3.f1], rfl, rfl, ⟨[.string x.f1], [.string x.f2, .int .u64 x.f3.f0, .int .u64 x.f3.f1], rfl, rfl, ⟨[.string x.f2], [.int .u64 x.f3.f0, .int .u64 x.f3.f1], rfl, rfl, (kU128_mkM w base ok x.f3 )⟩⟩⟩
def rd_TLeaf (xs : List SLeaf) (i : Int) : SLeaf := xs.getD i.toNat zLeaf
theorem at_TLeaf {w : World} {A : Option Addr} {n : Nat} {xs : List SLeaf} (h : Kd.C kLeaf w A n xs) (i : Int) (h0 : 0 ≤ i) (h1 : i < n) : ∃ ad , A = some ad ∧ w.cell? (ad.add (i.toNat * 5)) = some (.bool (rd_TLeaf xs i).f0) ∧ w.cell? ⟨(ad.add (i.toNat * 5)).block, (ad.add (i.toNat * 5)).off + 1, none⟩ = some (.string (rd_TLeaf xs i).f1) ∧ w.cell? ⟨(ad.add (i.toNat * 5)).block, (ad.add (i.toNat * 5)).off + 2, none⟩ = some (.string (rd_TLeaf xs i).f2) ∧ w.cell? ⟨(ad.add (i.toNat * 5)).block, (ad.add (i.toNat * 5)).off + 3, none⟩ = some (.int .u64 (rd_TLeaf xs i).f3.f0) ∧ w.cell? ⟨(ad.add (i.toNat * 5)).block, (ad.add (i.toNat * 5)).off + 4, none⟩ = some (.int .u64 (rd_TLeaf xs i).f3.f1) := by
  obtain ⟨ad, c, e, _, hK, hc0⟩ := Kd.C_get h zLeaf i h0 h1
  have hc : ∀ j u, c[j]? = some u → w.cell? (ad.add (i.toNat * 5 + j)) = some u := hc0
  obtain rfl := kLeaf_open hK
  exact ⟨ad, e, hc 0 _ rfl, by rw [← add_field _ _ 1 (by omega)]; exact hc 1 _ rfl, by rw [← add_field _ _ 2 (by omega)]; exact hc 2 _ rfl, by rw [← add_field _ _ 3 (by omega)]; exact hc 3 _ rfl, by rw [← add_field _ _ 4 (by omega)]; exact hc 4 _ rfl⟩

def rd_L7 (xs : List (List SNode)) (i : Int) : (List SNode) := xs.getD i.toNat ([] : List SNode)
theorem at_L7 {w : World} {A : Option Addr} {n : Nat} {xs : List (List SNode)} (h : Kd.C (Kd.slice 61 kNode) w A n xs) (i : Int) (h0 : 0 ≤ i) (h1 : i < n) : ∃ ad A0 c0, A = some ad ∧ w.cell? (ad.add i.toNat) = some (.slice A0 (rd_L7 xs i).length c0) ∧ (rd_L7 xs i).length ≤ c0 ∧ kNode.C w A0 (rd_L7 xs i).length (rd_L7 xs i) := by
  obtain ⟨ad, c, e, _, hK, hc0⟩ := Kd.C_get h ([] : List SNode) i h0 h1
  have hc : ∀ j u, c[j]? = some u → w.cell? (ad.add (i.toNat * 1 + j)) = some u := hc0
  obtain ⟨A0, c0, rfl, l0, g0⟩ := hK
  exact ⟨ad, A0, c0, e, by have hq := hc 0 _ rfl; rwa [Nat.mul_one, Nat.add_zero] at hq, l0, g0⟩

/-! #### struct type 29 -/
structure SProof where
  f0 : Int
  f1 : (List SNode)
def zProof : SProof := ⟨(0 : Int), ([] : List SNode)⟩
def kProof : Kd SProof := Kd.iso (Kd.pair (Kd.int .u64) (Kd.slice 61 kNode)) (fun x : SProof => (x.f0, x.f1))
theorem kProof_open {w : World} {x : SProof} {cs : List Value} (h : kProof.K w x cs) : ∃ A1 c1, cs = [.int .u64 x.f0, .slice A1 x.f1.length c1] ∧ x.f1.length ≤ c1 ∧ kNode.C w A1 x.f1.length x.f1 := by
  obtain ⟨_, _, rfl, rfl, ⟨A1, c1, rfl, l1, g1⟩⟩ := h
  exact ⟨A1, c1, rfl, l1, g1⟩
theorem kProof_openM {w : World} {base : Nat} {ok : Nat → Prop} {x : SProof} {cs : List Value} (h : kProof.M w base ok x cs) : ∃ v1, cs = [.int .u64 x.f0, v1] ∧ kNode.R 61 w base ok v1 x.f1 := by
  obtain ⟨_, _, rfl, rfl, ⟨v1, rfl, g1⟩⟩ := h
  exact ⟨v1, rfl, g1⟩
theorem kProof_mk (w : World) (x : SProof) {A1 : Option Addr} {c1 : Nat} (l1 : x.f1.length ≤ c1) (g1 : kNode.C w A1 x.f1.length x.f1) : kProof.K w x [.int .u64 x.f0, .slice A1 x.f1.length c1] := ⟨[.int .u64 x.f0], [.slice A1 x.f1.length c1], rfl, rfl, ⟨A1, c1, rfl, l1, g1⟩⟩
theorem kProof_mkM (w : World) (base : Nat) (ok : Nat → Prop) (x : SProof) {v1 : Value} (g1 : kNode.R 61 w base ok v1 x.f1) : kProof.M w base ok x [.int .u64 x.f0, v1] := ⟨[.int .u64 x.f0], [v1], rfl, rfl, ⟨v1, rfl, g1⟩⟩
def rd_TProof (xs : List SProof) (i : Int) : SProof := xs.getD i.toNat zProof
theorem at_TProof {w : World} {A : Option Addr} {n : Nat} {xs : List SProof} (h : Kd.C kProof w A n xs) (i : Int) (h0 : 0 ≤ i) (h1 : i < n) : ∃ ad A1 c1, A = some ad ∧ w.cell? (ad.add (i.toNat * 2)) = some (.int .u64 (rd_TProof xs i).f0) ∧ w.cell? ⟨(ad.add (i.toNat * 2)).block, (ad.add (i.toNat * 2)).off + 1, none⟩ = some (.slice A1 (rd_TProof xs i).f1.length c1) ∧ (rd_TProof xs i).f1.length ≤ c1 ∧ kNode.C w A1 (rd_TProof xs i).f1.length (rd_TProof xs i).f1 := by
  obtain ⟨ad, c, e, _, hK, hc0⟩ := Kd.C_get h zProof i h0 h1
  have hc : ∀ j u, c[j]? = some u → w.cell? (ad.add (i.toNat * 2 + j)) = some u := hc0
  obtain ⟨A1, c1, rfl, l1, g1⟩ := kProof_open hK
  exact ⟨ad, A1, c1, e, hc 0 _ rfl, by rw [← add_field _ _ 1 (by omega)]; exact hc 1 _ rfl, l1, g1⟩

/-! #### struct type 31 -/
structure SEntry where
  f0 : SLeaf
  f1 : SProof
def zEntry : SEntry := ⟨zLeaf, zProof⟩
def kEntry : Kd SEntry := Kd.iso (Kd.pair kLeaf kProof) (fun x : SEntry => (x.f0, x.f1))
theorem kEntry_open {w : World} {x : SEntry} {cs : List Value} (h : kEntry.K w x cs) : ∃ A6 c6, cs = [.bool x.f0.f0, .string x.f0.f1, .string x.f0.f2, .int .u64 x.f0.f3.f0, .int .u64 x.f0.f3.f1, .int .u64 x.f1.f0, .slice A6 x.f1.f1.length c6] ∧ x.f1.f1.length ≤ c6 ∧ kNode.C w A6 x.f1.f1.length x.f1.f1 := by
  obtain ⟨_, _, rfl, s0, s5⟩ := h
  obtain rfl := kLeaf_open s0
  obtain ⟨A6, c6, rfl, l6, g6⟩ := kProof_open s5
  exact ⟨A6, c6, rfl, l6, g6⟩
theorem kEntry_openM {w : World} {base : Nat} {ok : Nat → Prop} {x : SEntry} {cs : List Value} (h : kEntry.M w base ok x cs) : ∃ v6, cs = [.bool x.f0.f0, .string x.f0.f1, .string x.f0.f2, .int .u64 x.f0.f3.f0, .int .u64 x.f0.f3.f1, .int .u64 x.f1.f0, v6] ∧ kNode.R 61 w base ok v6 x.f1.f1 := by
  obtain ⟨_, _, rfl, s0, s5⟩ := h
  obtain rfl := kLeaf_openM s0
  obtain ⟨v6, rfl, g6⟩ := kProof_openM s5
  exact ⟨v6, rfl, g6⟩
theorem kEntry_mk (w : World) (x : SEntry) {A6 : Option Addr} {c6 : Nat} (l6 : x.f1.f1.length ≤ c6) (g6 : kNode.C w A6 x.f1.f1.length x.f1.f1) : kEntry.K w x [.bool x.f0.f0, .string x.f0.f1, .string x.f0.f2, .int .u64 x.f0.f3.f0, .int .u64 x.f0.f3.f1, .int .u64 x.f1.f0, .slice A6 x.f1.f1.length c6] := ⟨[.bool x.f0.f0, .string x.f0.f1, .string x.f0.f2, .int .u64 x.f0.f3.f0, .int .u64 x.f0.f3.f1], [.int .u64 x.f1.f0, .slice A6 x.f1.f1.length c6], rfl, (kLeaf_mk w x.f0 ), (kProof_mk w x.f1 l6 g6)⟩
theorem kEntry_mkM (w : World) (base : Nat) (ok : Nat → Prop) (x : SEntry) {v6 : Value} (g6 : kNode.R 61 w base ok v6 x.f1.f1) : kEntry.M w base ok x [.bool x.f0.f0, .string x.f0.f1, .string x.f0.f2, .int .u64 x.f0.f3.f0, .int .u64 x.f0.f3.f1, .int .u64 x.f1.f0, v6] := ⟨[.bool x.f0.f0, .string x.f0.f1, .string x.f0.f2, .int .u64 x.f0.f3.f0, .int .u64 x.f0.f3.f1], [.int .u64 x.f1.f0, v6], rfl, (kLeaf_mkM w base ok x.f0 ), (kProof_mkM w base ok x.f1 g6)⟩
def rd_TEntry (xs : List SEntry) (i : Int) : SEntry := xs.getD i.toNat zEntry
theorem at_TEntry {w : World} {A : Option Addr} {n : Nat} {xs : List SEntry} (h : Kd.C kEntry w A n xs) (i : Int) (h0 : 0 ≤ i) (h1 : i < n) : ∃ ad A6 c6, A = some ad ∧ w.cell? (ad.add (i.toNat * 7)) = some (.bool (rd_TEntry xs i).f0.f0) ∧ w.cell? ⟨(ad.add (i.toNat * 7)).block, (ad.add (i.toNat * 7)).off + 1, none⟩ = some (.string (rd_TEntry xs i).f0.f1) ∧ w.cell? ⟨(ad.add (i.toNat * 7)).block, (ad.add (i.toNat * 7)).off + 2, none⟩ = some (.string (rd_TEntry xs i).f0.f2) ∧ w.cell? ⟨(ad.add (i.toNat * 7)).block, (ad.add (i.toNat * 7)).off + 3, none⟩ = some (.int .u64 (rd_TEntry xs i).f0.f3.f0) ∧ w.cell? ⟨(ad.add (i.toNat * 7)).block, (ad.add (i.toNat * 7)).off + 4, none⟩ = some (.int .u64 (rd_TEntry xs i).f0.f3.f1) ∧ w.cell? ⟨(ad.add (i.toNat * 7)).block, (ad.add (i.toNat * 7)).off + 5, none⟩ = some (.int .u64 (rd_TEntry xs i).f1.f0) ∧ w.cell? ⟨(ad.add (i.toNat * 7)).block, (ad.add (i.toNat * 7)).off + 6, none⟩ = some (.slice A6 (rd_TEntry xs i).f1.f1.length c6) ∧ (rd_TEntry xs i).f1.f1.length ≤ c6 ∧ kNode.C w A6 (rd_TEntry xs i).f1.f1.length (rd_TEntry xs i).f1.f1 := by
  obtain ⟨ad, c, e, _, hK, hc0⟩ := Kd.C_get h zEntry i h0 h1
  have hc : ∀ j u, c[j]? = some u → w.cell? (ad.add (i.toNat * 7 + j)) = some u := hc0
  obtain ⟨A6, c6, rfl, l6, g6⟩ := kEntry_open hK
  exact ⟨ad, A6, c6, e, hc 0 _ rfl, by rw [← add_field _ _ 1 (by omega)]; exact hc 1 _ rfl, by rw [← add_field _ _ 2 (by omega)]; exact hc 2 _ rfl, by rw [← add_field _ _ 3 (by omega)]; exact hc 3 _ rfl, by rw [← add_field _ _ 4 (by omega)]; exact hc 4 _ rfl, by rw [← add_field _ _ 5 (by omega)]; exact hc 5 _ rfl, by rw [← add_field _ _ 6 (by omega)]; exact hc 6 _ rfl, l6, g6⟩

end Go.Proofs.Ytcidfahoajmcmaa.P
