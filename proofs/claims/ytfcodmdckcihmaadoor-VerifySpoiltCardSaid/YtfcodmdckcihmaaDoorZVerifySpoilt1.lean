-- Several texts of this workplace as one.
import Derived.Test.YtfcodmdckcihmaaDoorPx0
import Derived.ProofKit
import Derived.OpenShut
import Derived.ShutString
import Derived.ChangeOld
import Derived.WideShapes
import Derived.DataReads
import Derived.Deep.Slices
import Derived.OpenVars
import Derived.SizedLaws
import Derived.Test.YtfcodmdckcihmaaDoorProg
import Derived.Below
import Derived.Deep.Draws
import Derived.Deep.AppendLies
import Derived.Maps.AppendAt
import Derived.OwnWalk
import Derived.Laws.BytesArg
import Derived.Laws.MakeOwn
import Derived.Laws.OwnMore
import Derived.Deep.OwnRows
import Derived.Tactics
import Derived.Lib.ConvBytes
import Derived.Laws.Slices
import Derived.WalkKit
import Derived.KernelRfl
import Derived.RowKit3
import Derived.Deep.LoopGhost
import Derived.Deep.QuietTactic
import Derived.BigQuiet
import Derived.WideLaws
import Derived.Deep.DeepCutAuto
import Derived.Deep.CutBlock
import Derived.Deep.RegionHeld3
import Derived.Laws.Rows
import Derived.Lib.AppendStr
import Derived.ArgAppend
import Derived.Laws.IdiomCopy
import Derived.OrdersHeld
import Derived.Laws.BitsLemmas
import Derived.RowKit
import Derived.Test.YtfcodmdckcihmaaDoorWWords
import Derived.Test.YtfcodmdckcihmaaDoorShelf
import Derived.Lib.Builder
import Derived.Lib.UnsafeStr
import Derived.Laws.Externs
import Derived.Lib.Strings
import Derived.Lib.Slices
import Derived.Lib.Walk
import Derived.Test.YtfcodmdckcihmaaDoorHNext
import Derived.Test.YtfcodmdckcihmaaDoorHTakes
import Derived.Test.YtfcodmdckcihmaaDoorPx1
import Derived.Test.YtfcodmdckcihmaaDoorHQuick
import Derived.StillTailTactics
import Derived.Stop.RegionWithIn
import Derived.Deep.RegionWith
import Derived.Test.YtfcodmdckcihmaaDoorHParts
import Derived.Laws.RangeAny
import Derived.Laws.RangeString
import Derived.LoopTactic
import Derived.Shelf.Lay
import Derived.Shelf.LaySoft
import Derived.Shelf.Unicode.ValidAny
import Derived.Lib.LaidU8T
import Derived.Lay
import Derived.Lib.RuneCount
import Derived.Lib.ValidU
import Derived.Lib.OthersKept
import Derived.Orders
import Derived.RangeFuncWrites
import Derived.RangeFuncNested
import Derived.RangeFuncBound
import Derived.RangeFuncCalls
import Derived.RangeFuncLeaves
import Derived.RangeFuncBox
import Derived.Shelf.Abstract
import Derived.OwnWalkIn
import Derived.TacticsInMore
import Derived.LoopNIn
import Derived.LoopIn
import Derived.Test.YtfcodmdckcihmaaDoorHBlocks
import Derived.Sort.CutIn
import Derived.Lib.SliceRun
import Derived.OrdersIn
import Derived.WalkMore
import Derived.ScopeJumps
import Derived.Lib.Zigzag
import Derived.Laws.Bits64
import Derived.Laws.Bits64b
import Derived.Lib.AppendZeros
import Derived.Test.YtfcodmdckcihmaaDoorRows
import Derived.Test.YtfcodmdckcihmaaDoorCards
import Derived.Test.YtfcodmdckcihmaaDoorTie
import Derived.LaidByTextLater
import Derived.SevenTiedAt
namespace Go.Proofs.YtfcodmdckcihmaaDoor.P
open Go.RowKit Go.Proofs.YtfcodmdckcihmaaDoorW.PrintWords Go.Proofs.YtfcodmdckcihmaaDoorW.PrintLast Go.Proofs.YtfcodmdckcihmaaDoorW.PrintMore
set_option linter.unusedVariables false
set_option linter.unusedSimpArgs false
theorem aM' {p : Prop} (h : p) : Aside0 p := ⟨h⟩
theorem bL' (w : World) (a : Addr) {v : Value} (h : w.cell? a = some v) : a.block < w.heap.size := World.block_lt_of_cell? w a h
theorem lL' {n m k : Nat} (h : n < m) (g : m ≤ k) : n < k := Nat.lt_of_lt_of_le h g
set_option linter.unnecessarySimpa false
def Sized {H : Type} (P : Program) (t : TypeId) (x : DataW H) : Prop := (x.weights P t).all (· ≤ reachBytes) = true
theorem Sized.all {H : Type} {P : Program} {e : TypeId} : ∀ {l : List (DataW H)}, (DataW.weightsAll P e l).all (· ≤ reachBytes) = true → ∀ x ∈ l, Sized P e x
 | y :: l, h, x, hx => by
  simp only [DataW.weightsAll, List.all_append, Bool.and_eq_true] at h
  rcases List.mem_cons.1 hx with rfl | hx
  ·
   exact h.1
  ·
   exact Sized.all h.2 x hx
theorem Sized.each {H : Type} {P : Program} {ts : List TypeId} {ds : List (DataW H)} (h : (DataW.weightsEach P ts ds).all (· ≤ reachBytes) = true) {j : Nat} {t : TypeId} {x : DataW H} (ht : ts[j]? = some t) (hx : ds[j]? = some x) : Sized P t x :=
 List.all_eq_true.2 fun n hn => List.all_eq_true.1 h n (DataW.weights_mem_each ht hx n hn)
def Rd {α : Type} (P : Program) (t : TypeId) (d : Kd α) (wf : α → Prop) : Prop :=
 ∀ (H : Type) (enc : TypeId × Value → H) (w : World) (spare : Nat → Bool) (held : Bool) (fuel : Nat) (cs : List Value) (x : DataW H × List MemPlace),
  DataW.trod enc P w 0 spare held fuel t cs = some x → Sized P t x.1 → ∃ y, d.K w y cs ∧ wf y
theorem Rd.int {P : Program} {t : TypeId} (k : IntKind) (hu : P.underlying t = some (.int k)) : Rd P t (Kd.int k) (fun n => (Lit.int k n).wf = true) := by
 intro H enc w spare held fuel cs x h _
 obtain ⟨n, rfl, _, hw⟩ := DataW.trod_int hu h
 exact ⟨n, rfl, hw⟩
theorem Rd.bool {P : Program} {t : TypeId} (hu : P.underlying t = some .bool) : Rd P t Kd.bool (fun _ => True) := by
 intro H enc w spare held fuel cs x h _
 obtain ⟨n, rfl, _⟩ := DataW.trod_bool hu h
 exact ⟨n, rfl, trivial⟩
theorem Rd.string {P : Program} {t : TypeId} (hu : P.underlying t = some .string) : Rd P t Kd.string (fun s => s.size ≤ 140737488355328) := by
 intro H enc w spare held fuel cs x h hs
 obtain ⟨n, rfl, rfl, hw⟩ := DataW.trod_string hu h
 refine ⟨n, rfl, ?_⟩
 have h1 : n.data.toList.length ≤ reachBytes := by simpa [Sized, DataW.weights] using hs
 have h2 := reachBytes_lt
 have h3 : n.data.toList.length = n.size := by simp
 omega
theorem Rd.slice {α : Type} {P : Program} {t e : TypeId} {d : Kd α} {wf : α → Prop} (hu : P.underlying t = some (.slice e)) (hc : P.cellsOf e = d.sz) (hby : 1 ≤ P.bytesOf e) (he : Rd P e d wf) : Rd P t (Kd.slice e d) (fun l => l.length ≤ 140737488355328 ∧ ∀ x ∈ l, wf x) := by
 intro H enc w spare held fuel cs x h hsz
 rcases DataW.trod_slice hu h with ⟨rfl, _⟩ | ⟨a, len, cap, elems, rest, n, _, rfl, rfl, _, hl, hm, hlen, hel, _⟩
 ·
  exact ⟨[], ⟨none, 0, rfl, by simp, Kd.C_nil d w⟩, by simp, by simp⟩
 ·
  simp only [Sized, DataW.weights, hu, List.all_cons, List.all_append, Bool.and_eq_true, decide_eq_true_eq, List.length_map] at hsz
  obtain ⟨hs0, hs1, _⟩ := hsz
  have hlen47 : len ≤ 140737488355328 := by
   have h2 := reachBytes_lt
   have h3 : elems.length + rest.length ≤ (elems.length + rest.length) * P.bytesOf e := Nat.le_mul_of_pos_right _ hby
   omega
  have hall : ∀ i, i < len → ∃ y : α, ∃ c, w.cells? 0 (a.add (i * P.cellsOf e)) (P.cellsOf e) = some c ∧ d.K w y c ∧ wf y := by
   intro i hi
   have h1 := hel i hi
   rw [List.getElem?_eq_getElem (by omega)] at h1
   obtain ⟨c, h2, h3⟩ := Option.bind_eq_some_iff.1 h1
   obtain ⟨y, hy, hw⟩ := he H enc w spare held n c _ h3 (Sized.all hs1 _ (List.mem_map.2 ⟨_, List.getElem_mem _, rfl⟩))
   exact ⟨y, c, h2, hy, hw⟩
  have hlen0 : len ≤ maxLen := Nat.le_trans hl hm
  rcases Nat.eq_zero_or_pos len with rfl | hpos
  ·
   exact ⟨[], ⟨some a, cap, rfl, by simp, ⟨rfl, by simp, fun h0 => absurd h0 (by simp)⟩⟩, by simp, by simp⟩
  ·
   obtain ⟨y0, _⟩ := hall 0 hpos
   have hch : ∃ f : Nat → α, ∀ i, i < len → ∃ c, w.cells? 0 (a.add (i * P.cellsOf e)) (P.cellsOf e) = some c ∧ d.K w (f i) c ∧ wf (f i) :=
    ⟨fun i => if h : i < len then (hall i h).choose else y0, fun i hi => by simp only [dif_pos hi]; exact (hall i hi).choose_spec⟩
   obtain ⟨f, hf⟩ := hch
   refine ⟨(List.range len).map f, ⟨some a, cap, by simp, by simpa using hl, ?_⟩, by simpa using hlen47, ?_⟩
   ·
    refine ⟨rfl, ?_, fun _ => ⟨a, rfl, ?_⟩⟩
    ·
     have : ((List.range len).map f).length = len := by simp
     rw [this]; unfold maxLen at hlen0; exact hlen0
    ·
     intro j p hj
     have hjl : j < len := by
      have := (List.getElem?_eq_some_iff.1 hj).1
      simpa using this
     have hp : p = f j := by
      rw [List.getElem?_eq_getElem (by simpa using hjl)] at hj
      simpa using hj.symm
     subst hp
     obtain ⟨c, h1, h2, _⟩ := hf j hjl
     obtain ⟨_, hcl, hcc⟩ := World.cells?_some h1
     refine ⟨c, by rw [hcl, hc], h2, fun i u hu' => ?_⟩
     have hi : i < P.cellsOf e := by rw [← hcl]; exact (List.getElem?_eq_some_iff.1 hu').1
     have := hcc i hi
     rw [hu', Go.Deep.add_add] at this
     rw [← hc]; exact this
   ·
    intro x hx
    obtain ⟨i, hi, rfl⟩ := List.mem_map.1 hx
    exact (hf i (by simpa using hi)).choose_spec.2.2
def RdF {α : Type} (P : Program) (fs : List Field) (off : Nat) (d : Kd α) (wf : α → Prop) : Prop :=
 ∀ (H : Type) (enc : TypeId × Value → H) (w : World) (spare : Nat → Bool) (held : Bool) (n : Nat) (cs : List Value) (xs : List (DataW H × List MemPlace)),
  cs.length = off + d.sz → xs.length = fs.length → (∀ (i : Nat) (f : Field), fs[i]? = some f → DataW.trod enc P w 0 spare held n f.type ((cs.drop f.offset).take (P.cellsOf f.type)) = xs[i]?) → (∀ (i : Nat) (f : Field) x, fs[i]? = some f → xs[i]? = some x → Sized P f.type x.1) → ∃ y, d.K w y (cs.drop off) ∧ wf y
theorem RdF.one {α : Type} {P : Program} {f : Field} {off : Nat} {d : Kd α} {wf : α → Prop} (ho : f.offset = off) (hc : P.cellsOf f.type = d.sz) (h : Rd P f.type d wf) : RdF P [f] off d wf := by
 intro H enc w spare held n cs xs hl hx hall hsz
 have h0 := hall 0 f rfl
 obtain ⟨x, hx0⟩ : ∃ x, xs[0]? = some x := ⟨_, List.getElem?_eq_getElem (by rw [hx]; simp)⟩
 rw [hx0, ho, hc] at h0
 have : (cs.drop off).take d.sz = cs.drop off := List.take_of_length_le (by rw [List.length_drop]; omega)
 rw [this] at h0
 exact h H enc w spare held n _ _ h0 (hsz 0 f x rfl hx0)
theorem RdF.cons {α β : Type} {P : Program} {f : Field} {fs : List Field} {off : Nat} {d : Kd α} {d2 : Kd β} {wf : α → Prop} {wf2 : β → Prop} (ho : f.offset = off) (hc : P.cellsOf f.type = d.sz) (h : Rd P f.type d wf)
  (h2 : RdF P fs (off + d.sz) d2 wf2) : RdF P (f :: fs) off (Kd.pair d d2) (fun x => wf x.1 ∧ wf2 x.2) := by
 intro H enc w spare held n cs xs hl hx hall hsz
 have hl' : cs.length = off + (d.sz + d2.sz) := hl
 match xs, hx, hall, hsz with
 | x :: xr, hx, hall, hsz =>
  have h0 := hall 0 f rfl
  have hx0 : (x :: xr)[0]? = some x := rfl
  rw [hx0, ho, hc] at h0
  obtain ⟨y, hy, wy⟩ := h H enc w spare held n _ _ h0 (hsz 0 f x rfl hx0)
  obtain ⟨z, hz, wz⟩ := h2 H enc w spare held n cs xr (by omega) (by simpa using hx) (fun i g hg => by have := hall (i + 1) g (by simpa using hg); simpa using this) (fun i g y hg hy => hsz (i + 1) g y (by simpa using hg) (by simpa using hy))
  refine ⟨(y, z), ⟨_, _, ?_, hy, hz⟩, wy, wz⟩
  rw [← List.drop_drop]
  exact (List.take_append_drop d.sz (cs.drop off)).symm
theorem Rd.struct {α β : Type} {P : Program} {t : TypeId} {fs : Array Field} {d : Kd α} {wf : α → Prop} {wf2 : β → Prop} (f : β → α) (g : α → β) (hfg : ∀ a, f (g a) = a) (hu : P.underlying t = some (.struct fs)) (hc : P.cellsOf t = d.sz)
  (h : RdF P fs.toList 0 d wf) (hw : ∀ a, wf a → wf2 (g a)) : Rd P t (Kd.iso d f) wf2 := by
 intro H enc w spare held fuel cs x hx hsz
 obtain ⟨xs, n, _, rfl, hl, hxl, hall⟩ := DataW.trod_struct hu hx
 simp only [Sized, DataW.weights, hu] at hsz
 obtain ⟨y, hy, wy⟩ := h H enc w spare held n cs xs (by rw [hl, hc]; omega) (by simpa using hxl) (fun i f hf => hall i f (by simpa using hf)) (fun i f x hf hx => Sized.each hsz (j := i) (by simpa using ⟨f, by simpa using hf, rfl⟩) (by simp [hx]))
 refine ⟨g y, ?_, hw y wy⟩
 show d.K w (f (g y)) cs
 rw [hfg]
 simpa using hy
theorem Rd.agg {α : Type} {H : Type} {enc : TypeId × Value → H} {P : Program} {W : World} {r : Reach} {b0 : Nat} {t : TypeId} {fs : Array Field} {d : Kd α} {wf : α → Prop} {v : Value} {x : DataW H} {p : List MemPlace} {sp : Nat → Bool} {held : Bool} (hr : Rd P t d wf)
  (hu : P.underlying t = some (.struct fs)) (hv : Value.okWide P W r b0 t v) (h : DataW.Trod enc P W 0 sp held t v x p) (hsz : Sized P t x) : ∃ y cs, v = .agg cs ∧ d.K W y cs.toList ∧ wf y := by
 obtain ⟨cs, rfl, _⟩ := WideShapes.okWide_struct hu hv
 obtain ⟨fuel, hf⟩ := h
 obtain ⟨y, hy, wy⟩ := hr H enc W sp held fuel _ _ hf hsz
 exact ⟨y, cs, rfl, by simpa [Value.cells] using hy, wy⟩
theorem Rd.cell {α : Type} {H : Type} {enc : TypeId × Value → H} {P : Program} {W : World} {t : TypeId} {d : Kd α} {wf : α → Prop} {v : Value} {x : DataW H} {p : List MemPlace} {sp : Nat → Bool} {held : Bool} (hr : Rd P t d wf)
  (hv : v.cells.toList = [v]) (h : DataW.Trod enc P W 0 sp held t v x p) (hsz : Sized P t x) : ∃ y, d.K W y [v] ∧ wf y := by
 obtain ⟨fuel, hf⟩ := h
 rw [hv] at hf
 exact hr H enc W sp held fuel _ _ hf hsz
end Go.Proofs.YtfcodmdckcihmaaDoor.P
namespace Go.Proofs.YtfcodmdckcihmaaDoor.P
open Go.RowKit Go.Proofs.YtfcodmdckcihmaaDoorW.PrintWords Go.Proofs.YtfcodmdckcihmaaDoorW.PrintLast Go.Proofs.YtfcodmdckcihmaaDoorW.PrintMore
attribute [local go_sem] max2_int min2_int max_two min_two max_three min_three max_four min_four-- for this text's walks alone
set_option linter.unusedVariables false
set_option linter.unusedSimpArgs false
structure SU128 where
 f0 : Int
 f1 : Int
def zU128 : SU128 := ⟨(0 : Int), (0 : Int)⟩
def kU128 : Kd SU128 := Kd.iso (Kd.pair (Kd.int .u64) (Kd.int .u64)) (fun x : SU128 => (x.f0, x.f1))
theorem kU128_open {w : World} {x : SU128} {cs : List Value} (h : kU128.K w x cs) : cs = [.int .u64 x.f0, .int .u64 x.f1] := by
 obtain ⟨_, _, rfl, rfl, rfl⟩ := h
 exact rfl
theorem kU128_mk (w : World) (x : SU128)  : kU128.K w x [.int .u64 x.f0, .int .u64 x.f1] := ⟨[.int .u64 x.f0], [.int .u64 x.f1], rfl, rfl, rfl⟩
structure SNode where
 f0 : ByteArray
 f1 : SU128
def zNode : SNode := ⟨(⟨#[]⟩ : ByteArray), zU128⟩
def kNode : Kd SNode := Kd.iso (Kd.pair Kd.string kU128) (fun x : SNode => (x.f0, x.f1))
theorem kNode_open {w : World} {x : SNode} {cs : List Value} (h : kNode.K w x cs) : cs = [.string x.f0, .int .u64 x.f1.f0, .int .u64 x.f1.f1] := by
 obtain ⟨_, _, rfl, rfl, s1⟩ := h
 obtain rfl := kU128_open s1
 exact rfl
theorem kNode_mk (w : World) (x : SNode)  : kNode.K w x [.string x.f0, .int .u64 x.f1.f0, .int .u64 x.f1.f1] := ⟨[.string x.f0], [.int .u64 x.f1.f0, .int .u64 x.f1.f1], rfl, rfl, (kU128_mk w x.f1 )⟩
def rd_TNode (xs : List SNode) (i : Int) : SNode := xs.getD i.toNat zNode
theorem at_TNode {w : World} {A : Option Addr} {n : Nat} {xs : List SNode} (h : Kd.C kNode w A n xs) (i : Int) (h0 : 0 ≤ i) (h1 : i < n) : ∃ ad , A = some ad ∧ w.cell? (ad.add (i.toNat * 3)) = some (.string (rd_TNode xs i).f0) ∧ w.cell? ⟨(ad.add (i.toNat * 3)).block, (ad.add (i.toNat * 3)).off + 1, none⟩ = some (.int .u64 (rd_TNode xs i).f1.f0) ∧ w.cell? ⟨(ad.add (i.toNat * 3)).block, (ad.add (i.toNat * 3)).off + 2, none⟩ = some (.int .u64 (rd_TNode xs i).f1.f1) := by
 obtain ⟨ad, c, e, _, hK, hc0⟩ := Kd.C_get h zNode i h0 h1
 have hc : ∀ j u, c[j]? = some u → w.cell? (ad.add (i.toNat * 3 + j)) = some u := hc0
 obtain rfl := kNode_open hK
 exact ⟨ad, e, hc 0 _ rfl, by rw [← add_field _ _ 1 (by omega)]; exact hc 1 _ rfl, by rw [← add_field _ _ 2 (by omega)]; exact hc 2 _ rfl⟩
end Go.Proofs.YtfcodmdckcihmaaDoor.P
namespace Go.Proofs.YtfcodmdckcihmaaDoor.P
open Go.RowKit Go.Proofs.YtfcodmdckcihmaaDoorW.PrintWords Go.Proofs.YtfcodmdckcihmaaDoorW.PrintLast Go.Proofs.YtfcodmdckcihmaaDoorW.PrintMore
attribute [local go_sem] max2_int min2_int max_two min_two max_three min_three max_four min_four-- for this text's walks alone
set_option linter.unusedVariables false
set_option linter.unusedSimpArgs false
structure SProof where
 f0 : Int
 f1 : (List SNode)
structure SLeaf where
 f0 : Bool
 f1 : ByteArray
 f2 : ByteArray
 f3 : SU128
def zLeaf : SLeaf := ⟨false, (⟨#[]⟩ : ByteArray), (⟨#[]⟩ : ByteArray), zU128⟩
def kLeaf : Kd SLeaf := Kd.iso (Kd.pair Kd.bool (Kd.pair Kd.string (Kd.pair Kd.string kU128))) (fun x : SLeaf => (x.f0, x.f1, x.f2, x.f3))
theorem kLeaf_open {w : World} {x : SLeaf} {cs : List Value} (h : kLeaf.K w x cs) : cs = [.bool x.f0, .string x.f1, .string x.f2, .int .u64 x.f3.f0, .int .u64 x.f3.f1] := by
 obtain ⟨_, _, rfl, rfl, ⟨_, _, rfl, rfl, ⟨_, _, rfl, rfl, s3⟩⟩⟩ := h
 obtain rfl := kU128_open s3
 exact rfl
theorem kLeaf_mk (w : World) (x : SLeaf)  : kLeaf.K w x [.bool x.f0, .string x.f1, .string x.f2, .int .u64 x.f3.f0, .int .u64 x.f3.f1] := ⟨[.bool x.f0], [.string x.f1, .string x.f2, .int .u64 x.f3.f0, .int .u64 x.f3.f1], rfl, rfl, ⟨[.string x.f1], [.string x.f2, .int .u64 x.f3.f0, .int .u64 x.f3.f1], rfl, rfl, ⟨[.string x.f2], [.int .u64 x.f3.f0, .int .u64 x.f3.f1], rfl, rfl, (kU128_mk w x.f3 )⟩⟩⟩
def rd_TLeaf (xs : List SLeaf) (i : Int) : SLeaf := xs.getD i.toNat zLeaf
theorem at_TLeaf {w : World} {A : Option Addr} {n : Nat} {xs : List SLeaf} (h : Kd.C kLeaf w A n xs) (i : Int) (h0 : 0 ≤ i) (h1 : i < n) : ∃ ad , A = some ad ∧ w.cell? (ad.add (i.toNat * 5)) = some (.bool (rd_TLeaf xs i).f0) ∧ w.cell? ⟨(ad.add (i.toNat * 5)).block, (ad.add (i.toNat * 5)).off + 1, none⟩ = some (.string (rd_TLeaf xs i).f1) ∧ w.cell? ⟨(ad.add (i.toNat * 5)).block, (ad.add (i.toNat * 5)).off + 2, none⟩ = some (.string (rd_TLeaf xs i).f2) ∧ w.cell? ⟨(ad.add (i.toNat * 5)).block, (ad.add (i.toNat * 5)).off + 3, none⟩ = some (.int .u64 (rd_TLeaf xs i).f3.f0) ∧ w.cell? ⟨(ad.add (i.toNat * 5)).block, (ad.add (i.toNat * 5)).off + 4, none⟩ = some (.int .u64 (rd_TLeaf xs i).f3.f1) := by
 obtain ⟨ad, c, e, _, hK, hc0⟩ := Kd.C_get h zLeaf i h0 h1
 have hc : ∀ j u, c[j]? = some u → w.cell? (ad.add (i.toNat * 5 + j)) = some u := hc0
 obtain rfl := kLeaf_open hK
 exact ⟨ad, e, hc 0 _ rfl, by rw [← add_field _ _ 1 (by omega)]; exact hc 1 _ rfl, by rw [← add_field _ _ 2 (by omega)]; exact hc 2 _ rfl, by rw [← add_field _ _ 3 (by omega)]; exact hc 3 _ rfl, by rw [← add_field _ _ 4 (by omega)]; exact hc 4 _ rfl⟩
end Go.Proofs.YtfcodmdckcihmaaDoor.P
namespace Go.Proofs.YtfcodmdckcihmaaDoor.P
open Go.RowKit Go.Proofs.YtfcodmdckcihmaaDoorW.PrintWords Go.Proofs.YtfcodmdckcihmaaDoorW.PrintLast Go.Proofs.YtfcodmdckcihmaaDoorW.PrintMore
set_option linter.unusedVariables false
set_option linter.unusedSimpArgs false
def wfU128 (x : SU128) : Prop := (Lit.int .u64 x.f0).wf = true ∧ (Lit.int .u64 x.f1).wf = true
theorem rdU128 : Rd Tryd.prog 34 kU128 wfU128 :=
 Rd.struct (fun x : SU128 => (x.f0, x.f1)) (fun a => ⟨a.1, a.2⟩) (fun _ => rfl) Tryd.underlying34 (by kernel_rfl)
  (RdF.cons rfl (by kernel_rfl) (Rd.int .u64 Tryd.underlying23) (RdF.one rfl (by kernel_rfl) (Rd.int .u64 Tryd.underlying23))) (fun a h => h)
def wfLeaf (x : SLeaf) : Prop := True ∧ x.f1.size ≤ 140737488355328 ∧ x.f2.size ≤ 140737488355328 ∧ wfU128 x.f3
theorem rdLeaf : Rd Tryd.prog 36 kLeaf wfLeaf :=
 Rd.struct (fun x : SLeaf => (x.f0, x.f1, x.f2, x.f3)) (fun a => ⟨a.1, a.2.1, a.2.2.1, a.2.2.2⟩) (fun _ => rfl) Tryd.underlying36 (by kernel_rfl)
  (RdF.cons rfl (by kernel_rfl) (Rd.bool Tryd.underlying4) (RdF.cons rfl (by kernel_rfl) (Rd.string Tryd.underlying9) (RdF.cons rfl (by kernel_rfl) (Rd.string Tryd.underlying9) (RdF.one rfl (by kernel_rfl) rdU128)))) (fun a h => h)
def wfNode (x : SNode) : Prop := x.f0.size ≤ 140737488355328 ∧ wfU128 x.f1
theorem rdNode : Rd Tryd.prog 46 kNode wfNode :=
 Rd.struct (fun x : SNode => (x.f0, x.f1)) (fun a => ⟨a.1, a.2⟩) (fun _ => rfl) Tryd.underlying46 (by kernel_rfl)
  (RdF.cons rfl (by kernel_rfl) (Rd.string Tryd.underlying9) (RdF.one rfl (by kernel_rfl) rdU128)) (fun a h => h)
end Go.Proofs.YtfcodmdckcihmaaDoor.P
namespace Go.Proofs.YtfcodmdckcihmaaDoor.P
open Go.RowKit Go.Proofs.YtfcodmdckcihmaaDoorW.PrintWords Go.Proofs.YtfcodmdckcihmaaDoorW.PrintLast Go.Proofs.YtfcodmdckcihmaaDoorW.PrintMore
attribute [local go_sem] max2_int min2_int max_two min_two max_three min_three max_four min_four-- for this text's walks alone
set_option linter.unusedVariables false
set_option linter.unusedSimpArgs false
theorem eqAU128 (d : Nat) (w : World) (x0 y0 : Int) (x1 y1 : Int) :
  (Op.equalIn (d + 2) 34 (.agg #[.int .u64 x0, .int .u64 x1]) (.agg #[.int .u64 y0, .int .u64 y1])).run Tryd.prog w = .ok (x0 == y0 && (x1 == y1)) w := by
 refine eqA_of Tryd.underlying34 (by kernel_rfl) ?_
 refine eqf_cons (by rfl) (by go_simp; rfl) (by go_simp; rfl) (by go_simp) ?_
 exact eqf_last (by rfl) (by go_simp; rfl) (by go_simp; rfl) (by go_simp)
theorem eqANode (d : Nat) (w : World) (x0 y0 : ByteArray) (x1 y1 : Int) (x2 y2 : Int) :
  (Op.equalIn (d + 3) 46 (.agg #[.string x0, .int .u64 x1, .int .u64 x2]) (.agg #[.string y0, .int .u64 y1, .int .u64 y2])).run Tryd.prog w = .ok (x0.toList == y0.toList && ((x1 == y1 && (x2 == y2)))) w := by
 refine eqA_of Tryd.underlying46 (by kernel_rfl) ?_
 refine eqf_cons (by rfl) (by go_simp; rfl) (by go_simp; rfl) (by go_simp) ?_
 exact eqf_last (by rfl) (by go_simp) (by go_simp) (eqAU128 (d + 0) w _ _ _ _)
end Go.Proofs.YtfcodmdckcihmaaDoor.P
namespace Go.Proofs.YtfcodmdckcihmaaDoor.P
open Go.RowKit Go.Proofs.YtfcodmdckcihmaaDoorW.PrintWords Go.Proofs.YtfcodmdckcihmaaDoorW.PrintLast Go.Proofs.YtfcodmdckcihmaaDoorW.PrintMore
attribute [local go_sem] max2_int min2_int max_two min_two max_three min_three max_four min_four-- for this text's walks alone
set_option linter.unusedVariables false
set_option linter.unusedSimpArgs false
theorem eqALeaf (d : Nat) (w : World) (x0 y0 : Bool) (x1 y1 : ByteArray) (x2 y2 : ByteArray) (x3 y3 : Int) (x4 y4 : Int) :
  (Op.equalIn (d + 3) 36 (.agg #[.bool x0, .string x1, .string x2, .int .u64 x3, .int .u64 x4]) (.agg #[.bool y0, .string y1, .string y2, .int .u64 y3, .int .u64 y4])).run Tryd.prog w = .ok (x0 == y0 && (x1.toList == y1.toList && (x2.toList == y2.toList && ((x3 == y3 && (x4 == y4)))))) w := by
 refine eqA_of Tryd.underlying36 (by kernel_rfl) ?_
 refine eqf_cons (by rfl) (by go_simp; rfl) (by go_simp; rfl) (by go_simp) ?_
 refine eqf_cons (by rfl) (by go_simp; rfl) (by go_simp; rfl) (by go_simp) ?_
 refine eqf_cons (by rfl) (by go_simp; rfl) (by go_simp; rfl) (by go_simp) ?_
 exact eqf_last (by rfl) (by go_simp) (by go_simp) (eqAU128 (d + 0) w _ _ _ _)
end Go.Proofs.YtfcodmdckcihmaaDoor.P
namespace Go.Proofs.YtfcodmdckcihmaaDoor.P
open Go.RowKit Go.Proofs.YtfcodmdckcihmaaDoorW.PrintWords Go.Proofs.YtfcodmdckcihmaaDoorW.PrintLast Go.Proofs.YtfcodmdckcihmaaDoorW.PrintMore
attribute [local go_sem] max2_int min2_int max_two min_two max_three min_three max_four min_four-- for this text's walks alone
set_option linter.unusedVariables false
set_option linter.unusedSimpArgs false
attribute [local go_sem high] eqALeaf
def paymasterlaw15_Great.l0 : Nat → List (SLeaf) → Int → Option (Bool)
 | 0, _, _ => none
 | k + 1, x0, x3 => if x3 < (x0.length : Int) then (if 0 ≤ x3 then (if (((rd_TLeaf x0 x3).f1).size : Int) > 200 then (some true) else (if (((rd_TLeaf x0 x3).f2).size : Int) > 200 then (some true) else (paymasterlaw15_Great.l0 k x0 (wrap64 (x3 + 1))))) else (none)) else (some false)
def paymasterlaw15_Great.f (k : Nat) (l0 : List (SLeaf)) : Option (Bool) := if (l0.length : Int) > 70 then (some true) else (paymasterlaw15_Great.l0 k l0 0)
set_option maxHeartbeats 8000000 in
set_option maxRecDepth 100000 in
theorem paymasterlaw15_Great.calls (k : Nat) (A0 : Option Addr) (c0 : Nat) (l0 : List (SLeaf)) (r : Bool) (w : World) (hr0 : Kd.C kLeaf w A0 l0.length l0) (hc0 : l0.length ≤ c0) (h : paymasterlaw15_Great.f k l0 = some r) :
  Calls Tryd.prog 13 #[.slice A0 l0.length c0] w fun e w' => e = .returned (.bool r) ∧ Drawn0 w w' := by
 have HR0 := aM' hr0
 have HC0 := aM' hc0
 clear hr0 hc0
 have H : (if (l0.length : Int) > 70 then (some true) else (paymasterlaw15_Great.l0 k l0 0)) = some r := h
 clear h
 by_cases c2 : (l0.length : Int) > 70
 ·
  rw [if_pos c2] at H
  have c2b0 : decide (70 < (l0.length : Int)) = true := decide_eq_true c2
  have c2b1 : decide (70 < l0.length) = true := decide_eq_true (by omega)
  clear c2
  obtain rfl := Option.some.inj H
  go_enter Tryd.func13, Tryd.ntmps13
  go_wp2
  go_ret
  exact ⟨by first | rfl | (simp; done) | (simp [*]; done), by repeat (first | exact Drawn0.refl _ | apply Drawn0.step)⟩
 ·
  rw [if_neg c2] at H
  have c2b0 : decide (70 < (l0.length : Int)) = false := decide_eq_false c2
  have c2b1 : decide (70 < l0.length) = false := decide_eq_false (by omega)
  clear c2
  have H' := aM' H
  clear H
  go_enter Tryd.func13, Tryd.ntmps13
  go_wp2
  go_loopg [3] k (fun kq v3 w' => ∃ (x3_1 : Int), v3 = .int .i64 x3_1 ∧ Aside0 (paymasterlaw15_Great.l0 kq l0 x3_1 = some r) ∧ Aside0 (kq ≤ k) ∧ Drawn0 w w')
  case atStart => exact ⟨(0), (by first | rfl | (simp; done) | (simp [*]; done)), H', ⟨Nat.le_refl _⟩, by repeat (first | exact Drawn0.refl _ | apply Drawn0.step)⟩
  case round =>
   clear H'
   try clear c1
   try clear c2
   try clear c2b0
   try clear c2b1
   try clear p2
   obtain ⟨x3_1, rfl, HA, HK1, ⟨m1, rfl⟩⟩ := hrel
   cases gk with
   | zero => exact absurd HA.out (by simp [paymasterlaw15_Great.l0])
   | succ k1 =>
    have H := HA.out
    clear HA
    simp only [paymasterlaw15_Great.l0] at H
    by_cases c3 : x3_1 < (l0.length : Int)
    ·
     rw [if_pos c3] at H
     have c3b0 : decide (x3_1 < (l0.length : Int)) = true := decide_eq_true c3
     clear c3
     by_cases c4 : 0 ≤ x3_1
     ·
      rw [if_pos c4] at H
      have c4b0 : decide (0 ≤ x3_1) = true := decide_eq_true c4
      clear c4
      by_cases c5 : (((rd_TLeaf l0 x3_1).f1).size : Int) > 200
      ·
       rw [if_pos c5] at H
       have c5b0 : decide (200 < (((rd_TLeaf l0 x3_1).f1).size : Int)) = true := decide_eq_true c5
       have c5b1 : decide (200 < ((rd_TLeaf l0 x3_1).f1).size) = true := decide_eq_true (by omega)
       clear c5
       obtain rfl := Option.some.inj H
       have p101 : 0 ≤ (x3_1 : Int) := of_decide_eq_true (by first | (with_reducible assumption) | assumption)
       have q101 : x3_1 < (l0.length : Int) := of_decide_eq_true (by first | (with_reducible assumption) | assumption)
       obtain ⟨ad101, e101, hx101_0, hx101_1, hx101_2, hx101_3, hx101_4⟩ := at_TLeaf HR0.out x3_1 p101 q101
       cases e101
       replace p101 := eq_true p101
       replace q101 := eq_true q101
       go_wp2
       go_ret
       exact ⟨by first | rfl | (simp; done) | (simp [*]; done), by repeat (first | exact Drawn0.refl _ | apply Drawn0.step)⟩
      ·
       rw [if_neg c5] at H
       have c5b0 : decide (200 < (((rd_TLeaf l0 x3_1).f1).size : Int)) = false := decide_eq_false c5
       have c5b1 : decide (200 < ((rd_TLeaf l0 x3_1).f1).size) = false := decide_eq_false (by omega)
       clear c5
       by_cases c6 : (((rd_TLeaf l0 x3_1).f2).size : Int) > 200
       ·
        rw [if_pos c6] at H
        have c6b0 : decide (200 < (((rd_TLeaf l0 x3_1).f2).size : Int)) = true := decide_eq_true c6
        have c6b1 : decide (200 < ((rd_TLeaf l0 x3_1).f2).size) = true := decide_eq_true (by omega)
        clear c6
        obtain rfl := Option.some.inj H
        have p101 : 0 ≤ (x3_1 : Int) := of_decide_eq_true (by first | (with_reducible assumption) | assumption)
        have q101 : x3_1 < (l0.length : Int) := of_decide_eq_true (by first | (with_reducible assumption) | assumption)
        obtain ⟨ad101, e101, hx101_0, hx101_1, hx101_2, hx101_3, hx101_4⟩ := at_TLeaf HR0.out x3_1 p101 q101
        cases e101
        replace p101 := eq_true p101
        replace q101 := eq_true q101
        have p102 : 0 ≤ (x3_1 : Int) := of_decide_eq_true (by first | (with_reducible assumption) | assumption)
        have q102 : x3_1 < (l0.length : Int) := of_decide_eq_true (by first | (with_reducible assumption) | assumption)
        obtain ⟨ad102, e102, hx102_0, hx102_1, hx102_2, hx102_3, hx102_4⟩ := at_TLeaf HR0.out x3_1 p102 q102
        obtain rfl : ad101 = ad102 := (by injection e102)
        replace p102 := eq_true p102
        replace q102 := eq_true q102
        go_wp2
        go_ret
        exact ⟨by first | rfl | (simp; done) | (simp [*]; done), by repeat (first | exact Drawn0.refl _ | apply Drawn0.step)⟩
       ·
        rw [if_neg c6] at H
        have c6b0 : decide (200 < (((rd_TLeaf l0 x3_1).f2).size : Int)) = false := decide_eq_false c6
        have c6b1 : decide (200 < ((rd_TLeaf l0 x3_1).f2).size) = false := decide_eq_false (by omega)
        clear c6
        have H' := aM' H
        clear H
        have p101 : 0 ≤ (x3_1 : Int) := of_decide_eq_true (by first | (with_reducible assumption) | assumption)
        have q101 : x3_1 < (l0.length : Int) := of_decide_eq_true (by first | (with_reducible assumption) | assumption)
        obtain ⟨ad101, e101, hx101_0, hx101_1, hx101_2, hx101_3, hx101_4⟩ := at_TLeaf HR0.out x3_1 p101 q101
        cases e101
        replace p101 := eq_true p101
        replace q101 := eq_true q101
        have p102 : 0 ≤ (x3_1 : Int) := of_decide_eq_true (by first | (with_reducible assumption) | assumption)
        have q102 : x3_1 < (l0.length : Int) := of_decide_eq_true (by first | (with_reducible assumption) | assumption)
        obtain ⟨ad102, e102, hx102_0, hx102_1, hx102_2, hx102_3, hx102_4⟩ := at_TLeaf HR0.out x3_1 p102 q102
        obtain rfl : ad101 = ad102 := (by injection e102)
        replace p102 := eq_true p102
        replace q102 := eq_true q102
        go_wp2
        go_roundg k1
        case measure => have := HK1.out; omega
        case rel => exact ⟨(wrap64 (x3_1 + 1)), (by first | rfl | (simp; done) | (simp [*]; done)), H', ⟨by have := HK1.out; omega⟩, by repeat (first | exact Drawn0.refl _ | apply Drawn0.step)⟩
     ·
      rw [if_neg c4] at H
      exact absurd H (by simp)
    ·
     rw [if_neg c3] at H
     have c3b0 : decide (x3_1 < (l0.length : Int)) = false := decide_eq_false c3
     clear c3
     obtain rfl := Option.some.inj H
     go_wp2
     go_ret
     exact ⟨by first | rfl | (simp; done) | (simp [*]; done), by repeat (first | exact Drawn0.refl _ | apply Drawn0.step)⟩
end Go.Proofs.YtfcodmdckcihmaaDoor.P
namespace Go.Proofs.YtfcodmdckcihmaaDoor.P
open Go.RowKit Go.Proofs.YtfcodmdckcihmaaDoorW.PrintWords Go.Proofs.YtfcodmdckcihmaaDoorW.PrintLast Go.Proofs.YtfcodmdckcihmaaDoorW.PrintMore
attribute [local go_sem] max2_int min2_int max_two min_two max_three min_three max_four min_four-- for this text's walks alone
set_option linter.unusedVariables false
set_option linter.unusedSimpArgs false
attribute [local go_sem high] eqANode
def node_Of.f (a0 : Int) (a1_0 : ByteArray) (a1_1 : Int) (a1_2 : Int) : Option (Bool) := if a0 ≥ 1 then (if a0 ≤ 32 then (some ((a1_0.size : Int) == a0)) else (some false)) else (some false)
set_option maxHeartbeats 8000000 in
set_option maxRecDepth 100000 in
theorem node_Of.calls (a0 : Int) (a1_0 : ByteArray) (a1_1 : Int) (a1_2 : Int) (r : Bool) (w : World) (h : node_Of.f a0 a1_0 a1_1 a1_2 = some r) :
  Calls Tryd.prog 79 #[.int .i64 a0, .agg #[.string a1_0, .int .u64 a1_1, .int .u64 a1_2]] w fun e w' => e = .returned (.bool r) ∧ Below w.heap.size w w' := by
 have hu46 := Tryd.underlying46
 have HB := aM' (Below.refl w.heap.size w)
 have H : (if a0 ≥ 1 then (if a0 ≤ 32 then (some ((a1_0.size : Int) == a0)) else (some false)) else (some false)) = some r := h
 clear h
 by_cases c3 : a0 ≥ 1
 ·
  rw [if_pos c3] at H
  have c3b0 : decide (1 ≤ a0) = true := decide_eq_true c3
  clear c3
  by_cases c4 : a0 ≤ 32
  ·
   rw [if_pos c4] at H
   have c4b0 : decide (a0 ≤ 32) = true := decide_eq_true c4
   clear c4
   obtain rfl := Option.some.inj H
   go_enter Tryd.func79, Tryd.ntmps79
   go_wp2_with (first | ((with_reducible refine gate_dst (N := 3) rfl ?_); (try (refine gate_guard (by rfl) ?_; dsimp only)); refine box_event ?hg (N := 3) ?hd (cs := #[.string a1_0, .int .u64 a1_1, .int .u64 a1_2]) (t := 46) ?hr ?_; (case hd => rfl); (case hg => rfl); (case hr => first | (go_simp; done) | (go_simp; rfl)); intro gb104 hg w5 hbox hb; have n0_ := aM' (below_step (by repeat (first | (with_reducible first | exact HB.out | apply below_alloc | apply pw_below_drewN | apply below_drew1) | exact HB.out)) hb); have n1_ := aM' (hbox); have n2_ := aM' ((by rw [hg]; exact (below_size (by repeat (first | (with_reducible first | exact HB.out | apply below_alloc | apply pw_below_drewN | apply below_drew1) | exact HB.out))) : w.heap.size ≤ gb104)); have n3_ := aM' ((by rw [hg]; exact (below_size (by repeat (first | (with_reducible first | exact HB.out | apply below_alloc | apply pw_below_drewN | apply below_drew1) | exact HB.out))) : w.heap.size ≤ gb104)); clear HB; have HB := n0_; have BK104 := n1_; have GW104 := n2_; have GE104 := n3_; clear n0_ n1_ n2_ n3_; clear hb hbox hg; have hcz6_0 : w5.cell? ⟨gb104, 0, none⟩ = some (.string a1_0) := (blk_cell BK104.out 0).trans rfl; have hcz6_1 : w5.cell? ⟨gb104, 1, none⟩ = some (.int .u64 a1_1) := (blk_cell BK104.out 1).trans rfl; have hcz6_2 : w5.cell? ⟨gb104, 2, none⟩ = some (.int .u64 a1_2) := (blk_cell BK104.out 2).trans rfl; have hfz6_0 := blk_frozen BK104.out 0; have hfz6_1 := blk_frozen BK104.out 1; have hfz6_2 := blk_frozen BK104.out 2))
   go_ret
   exact ⟨by first | rfl | (simp [errW_none, errW_some] <;> rfl) | (simp [*, errW_none, errW_some] <;> rfl), by repeat (first | (with_reducible first | exact HB.out | apply below_alloc | apply pw_below_drewN | apply below_drew1 | refine below_set ?_ GE104.out) | exact HB.out)⟩
  ·
   rw [if_neg c4] at H
   have c4b0 : decide (a0 ≤ 32) = false := decide_eq_false c4
   clear c4
   obtain rfl := Option.some.inj H
   go_enter Tryd.func79, Tryd.ntmps79
   go_wp2_with (first | ((with_reducible refine gate_dst (N := 3) rfl ?_); (try (refine gate_guard (by rfl) ?_; dsimp only)); refine box_event ?hg (N := 3) ?hd (cs := #[.string a1_0, .int .u64 a1_1, .int .u64 a1_2]) (t := 46) ?hr ?_; (case hd => rfl); (case hg => rfl); (case hr => first | (go_simp; done) | (go_simp; rfl)); intro gb104 hg w7 hbox hb; have n0_ := aM' (below_step (by repeat (first | (with_reducible first | exact HB.out | apply below_alloc | apply pw_below_drewN | apply below_drew1) | exact HB.out)) hb); have n1_ := aM' (hbox); have n2_ := aM' ((by rw [hg]; exact (below_size (by repeat (first | (with_reducible first | exact HB.out | apply below_alloc | apply pw_below_drewN | apply below_drew1) | exact HB.out))) : w.heap.size ≤ gb104)); have n3_ := aM' ((by rw [hg]; exact (below_size (by repeat (first | (with_reducible first | exact HB.out | apply below_alloc | apply pw_below_drewN | apply below_drew1) | exact HB.out))) : w.heap.size ≤ gb104)); clear HB; have HB := n0_; have BK104 := n1_; have GW104 := n2_; have GE104 := n3_; clear n0_ n1_ n2_ n3_; clear hb hbox hg))
   go_ret
   exact ⟨by first | rfl | (simp [errW_none, errW_some] <;> rfl) | (simp [*, errW_none, errW_some] <;> rfl), by repeat (first | (with_reducible first | exact HB.out | apply below_alloc | apply pw_below_drewN | apply below_drew1 | refine below_set ?_ GE104.out) | exact HB.out)⟩
 ·
  rw [if_neg c3] at H
  have c3b0 : decide (1 ≤ a0) = false := decide_eq_false c3
  clear c3
  obtain rfl := Option.some.inj H
  go_enter Tryd.func79, Tryd.ntmps79
  go_wp2_with (first | ((with_reducible refine gate_dst (N := 3) rfl ?_); (try (refine gate_guard (by rfl) ?_; dsimp only)); refine box_event ?hg (N := 3) ?hd (cs := #[.string a1_0, .int .u64 a1_1, .int .u64 a1_2]) (t := 46) ?hr ?_; (case hd => rfl); (case hg => rfl); (case hr => first | (go_simp; done) | (go_simp; rfl)); intro gb104 hg w8 hbox hb; have n0_ := aM' (below_step (by repeat (first | (with_reducible first | exact HB.out | apply below_alloc | apply pw_below_drewN | apply below_drew1) | exact HB.out)) hb); have n1_ := aM' (hbox); have n2_ := aM' ((by rw [hg]; exact (below_size (by repeat (first | (with_reducible first | exact HB.out | apply below_alloc | apply pw_below_drewN | apply below_drew1) | exact HB.out))) : w.heap.size ≤ gb104)); have n3_ := aM' ((by rw [hg]; exact (below_size (by repeat (first | (with_reducible first | exact HB.out | apply below_alloc | apply pw_below_drewN | apply below_drew1) | exact HB.out))) : w.heap.size ≤ gb104)); clear HB; have HB := n0_; have BK104 := n1_; have GW104 := n2_; have GE104 := n3_; clear n0_ n1_ n2_ n3_; clear hb hbox hg))
  go_ret
  exact ⟨by first | rfl | (simp [errW_none, errW_some] <;> rfl) | (simp [*, errW_none, errW_some] <;> rfl), by repeat (first | (with_reducible first | exact HB.out | apply below_alloc | apply pw_below_drewN | apply below_drew1 | refine below_set ?_ GE104.out) | exact HB.out)⟩
def tag_MayWidth.f (a0 : Int) : Option (Bool) := if a0 ≥ 1 then (some (decide (a0 ≤ 32))) else (some false)
set_option maxHeartbeats 8000000 in
set_option maxRecDepth 100000 in
theorem tag_MayWidth.calls (a0 : Int) (r : Bool) (w : World) (h : tag_MayWidth.f a0 = some r) :
  Calls Tryd.prog 71 #[.int .i64 a0] w fun e w' => e = .returned (.bool r) ∧ Drawn0 w w' := by
 have H : (if a0 ≥ 1 then (some (decide (a0 ≤ 32))) else (some false)) = some r := h
 clear h
 by_cases c2 : a0 ≥ 1
 ·
  rw [if_pos c2] at H
  have c2b0 : decide (1 ≤ a0) = true := decide_eq_true c2
  clear c2
  obtain rfl := Option.some.inj H
  go_enter Tryd.func71, Tryd.ntmps71
  go_wp2
  go_ret
  exact ⟨by first | rfl | (simp; done) | (simp [*]; done), by repeat (first | exact Drawn0.refl _ | apply Drawn0.step)⟩
 ·
  rw [if_neg c2] at H
  have c2b0 : decide (1 ≤ a0) = false := decide_eq_false c2
  clear c2
  obtain rfl := Option.some.inj H
  go_enter Tryd.func71, Tryd.ntmps71
  go_wp2
  go_ret
  exact ⟨by first | rfl | (simp; done) | (simp [*]; done), by repeat (first | exact Drawn0.refl _ | apply Drawn0.step)⟩
end Go.Proofs.YtfcodmdckcihmaaDoor.P
namespace Go.Proofs.YtfcodmdckcihmaaDoor.P
open Go.RowKit Go.Proofs.YtfcodmdckcihmaaDoorW.PrintWords Go.Proofs.YtfcodmdckcihmaaDoorW.PrintLast Go.Proofs.YtfcodmdckcihmaaDoorW.PrintMore
set_option linter.unusedVariables false
set_option linter.unusedSimpArgs false
set_option linter.unnecessarySimpa false
theorem bldSize : (Tryd.prog.info? 237).map (·.size) = some 2 := by kernel_rfl
theorem bldLies : liesAt Tryd.prog Tryd.prog.depth 237 (2 / Tryd.prog.cellsOf 237) 0 237 1 = true := by kernel_rfl
theorem byteInfo : (Tryd.prog.info? 5).map (fun i => (i.zero, i.size, i.bytes)) = some (some (.int .u8 0), 1, 1) := by kernel_rfl
theorem noEscapeExt (w : World) (x : Value) : (callFunc 185 #[x]).run Tryd.prog w = .ok (.value x) w := by
 rw [run_callFunc_extern Tryd.func185 (by kernel_rfl) (by kernel_rfl) (by kernel_rfl) (e := Extern.AbiNoEscape.same) (by kernel_rfl)]
 rw [Lib.run_noEscape]
 rfl
set_option maxHeartbeats 1000000 in
set_option maxRecDepth 100000 in
theorem copyCheck_used (b : Nat) (w : World) (h0 : w.cell? ⟨b, 0, none⟩ = some (.pointer (some ⟨b, 0, none⟩))) :
  Calls Tryd.prog 178 #[.pointer (some ⟨b, 0, none⟩)] w fun e w' => e = .returned (.tuple #[]) ∧ w' = w := by
 obtain ⟨j, hj, _⟩ := Option.map_eq_some_iff.1 bldSize
 go_enter Tryd.func178, Tryd.ntmps178
 go_wp2
 rw [Lib.run_neq_ptr_same w _ Tryd.underlying235 hj]
 go_wp2
 go_end0
 exact ⟨rfl, rfl⟩
set_option maxHeartbeats 1000000 in
set_option maxRecDepth 100000 in
theorem copyCheck_fresh (b : Nat) (w : World) (h0 : w.cell? ⟨b, 0, none⟩ = some (.pointer none)) (hsh : w.shape? b = some (237, 2)) (hfz : w.frozen? ⟨b, 0, none⟩ = false) :
  Calls Tryd.prog 178 #[.pointer (some ⟨b, 0, none⟩)] w fun e w' => e = .returned (.tuple #[]) ∧ w' = w.setCell ⟨b, 0, none⟩ (.pointer (some ⟨b, 0, none⟩)) := by
 obtain ⟨j, hj, hjs⟩ := Option.map_eq_some_iff.1 bldSize
 go_enter Tryd.func178, Tryd.ntmps178
 go_wp2
 rw [Lib.run_to_unsafe w ⟨b, 0, none⟩ Tryd.underlying235 Tryd.underlying256 hj (by rw [hjs]; decide) hsh (Nat.zero_lt_succ 1)]
 simp only [Result.andThen]
 rw [Oper.upon_value]
 go_wp2
 rw [noEscapeExt]
 rw [Oper.upon_value]
 go_wp2
 rw [Lib.run_from_unsafe w ⟨b, 0, none⟩ Tryd.underlying256 Tryd.underlying235 hj hsh bldLies]
 simp only [Result.andThen]
 rw [Oper.upon_value]
 go_wp2
 go_end0
 exact ⟨rfl, rfl⟩
theorem copyCheck.calls (B b : Nat) (bs : List Value) (w : World) (h : Lib.IsBuilder 237 5 B b bs w) :
  Calls Tryd.prog 178 #[.pointer (some ⟨b, 0, none⟩)] w fun e w' => e = .returned (.tuple #[]) ∧ (Lib.BuilderAt 237 5 B b (.pointer (some ⟨b, 0, none⟩)) bs w' ∧ Below B w w') := by
 rcases h with h | h
 ·
  refine (copyCheck_fresh b w h.cell0 h.shape h.frozen0).mono ?_
  rintro e w' ⟨rfl, rfl⟩
  exact ⟨rfl, h.used _, (Below.refl B w).setCell (p := ⟨b, 0, none⟩) h.1 _⟩
 ·
  refine (copyCheck_used b w h.cell0).mono ?_
  rintro e w' ⟨rfl, rfl⟩
  exact ⟨rfl, h, Below.refl B _⟩
set_option maxHeartbeats 2000000 in
set_option maxRecDepth 100000 in
theorem writeByte.calls (B b : Nat) (bs : List Value) (c : Int) (w : World) (h : Lib.IsBuilder 237 5 B b bs w) (hlen : bs.length + 1 ≤ 140737488355328) (hBw : B ≤ w.heap.size) :
  Calls Tryd.prog 164 #[.pointer (some ⟨b, 0, none⟩), .int .u8 c] w fun e w' => e = .returned .nilIface ∧ (Lib.IsBuilder 237 5 B b (bs ++ [.int .u8 c]) w' ∧ Below B w w') := by
 obtain ⟨i0, hi, hz0, hz1, hz2⟩ := info_parts byteInfo
 go_enter Tryd.func164, Tryd.ntmps164
 go_wp2_with fail
 refine (copyCheck.calls B b bs _ h).mono ?_
 rintro e w1 ⟨rfl, h1, hb1⟩
 obtain ⟨hB, v, hbk, hown, hne⟩ := h1
 have c0 : w1.cell? ⟨b, 0, none⟩ = some (.pointer (some ⟨b, 0, none⟩)) := by rw [Lib.cell_of_heap hbk]; rfl
 have c1 : w1.cell? ⟨b, 1, none⟩ = some v := by rw [Lib.cell_of_heap hbk]; rfl
 go_wp2_with (at_builtin; refine wpList_append_own _ rfl _ _ 125 rfl B 5 i0 (.int .u8 0) 1 1 Tryd.underlying125 hi hz0 hz1 hz2 rfl (by decide) _ _ _ rfl (hown.alloc _) ⟨w1.heap.size, 0, none⟩ 1 1 [.int .u8 c] rfl rfl ?c1 ?c2 ?c3 ?c4 ?c5 ?_)
 case c1 =>
  intro j u hj
  match j, hj with
  | 0, hj => simp at hj; subst hj; simp [Addr.add]
 case c2 => intro u hu; simp at hu; subst hu; rfl
 case c3 => unfold maxLen; omega
 case c4 => omega
 case c5 => have := hb1.size; simp; omega
 intro v' w2 hown' hgrow _
 have hlt : b < w1.heap.size := by
  rcases Nat.lt_or_ge b w1.heap.size with h' | h'
  ·
   exact h'
  ·
   simp [Array.getElem?_eq_none h'] at hbk
 have hb2 : w2.heap[b]? = some (.cells #[.pointer (some ⟨b, 0, none⟩), v] 237 (0, 0)) := by
  rw [hgrow.block b (by simp; omega) (fun e => hne e.symm), Lib.alloc_old w1 _ b hlt]
  exact hbk
 have d0 : w2.cell? ⟨b, 0, none⟩ = some (.pointer (some ⟨b, 0, none⟩)) := by rw [Lib.cell_of_heap hb2]; rfl
 have d1 : w2.cell? ⟨b, 1, none⟩ = some v := by rw [Lib.cell_of_heap hb2]; rfl
 have f1 : w2.frozen? ⟨b, 1, none⟩ = false := Lib.frozen_of_heap hb2 1
 obtain ⟨g, cap, rfl⟩ : ∃ g cap, v' = .slice (some ⟨g, 0, none⟩) (bs.length + 1) cap := by
  rcases hown'.2 with ⟨_, h0⟩ | ⟨g, cap, cur, hv, _⟩
  ·
   omega
  ·
   exact ⟨g, cap, hv⟩
 go_wp2
 go_ret
 refine ⟨rfl, ?_, ?_⟩
 ·
  exact .inr (Lib.BuilderAt.put (T := 237) (e := 5) hB hb2 (bs' := bs ++ [.int .u8 c]) (by simpa using hown') (by decide))
 ·
  exact ((hb1.alloc (by have := hb1.size; omega) _).grown hgrow (by have := hb1.size; simp; omega) (fun k hk => (hown.lt k hk).1)).setCell (p := ⟨b, 1, none⟩) hB _
def BAt (R b : Nat) (p : Value) (bs : List Value) (w : World) : Prop :=
 ∃ v, w.heap[b]? = some (.cells #[p, v] 237 (0, 0)) ∧ w.ownsRow R 5 1 v bs.length bs ∧ v.ownBlock ≠ some b
def IsBAt (R b : Nat) (bs : List Value) (w : World) : Prop := BAt R b (.pointer none) bs w ∨ BAt R b (.pointer (some ⟨b, 0, none⟩)) bs w
structure KeepsBut (R b : Nat) (w w' : World) : Prop where
 os : w'.os = w.os
 tape : w'.tape = w.tape
 output : w'.output = w.output
 size : w.heap.size ≤ w'.heap.size
 block : ∀ k, k < R → k ≠ b → w'.heap[k]? = w.heap[k]?
theorem KeepsBut.refl (R b : Nat) (w : World) : KeepsBut R b w w := ⟨rfl, rfl, rfl, Nat.le_refl _, fun _ _ _ => rfl⟩
theorem KeepsBut.trans {R b : Nat} {w w1 w2 : World} (h : KeepsBut R b w w1) (k : KeepsBut R b w1 w2) : KeepsBut R b w w2 :=
 ⟨k.os.trans h.os, k.tape.trans h.tape, k.output.trans h.output, Nat.le_trans h.size k.size, fun i hi hn => (k.block i hi hn).trans (h.block i hi hn)⟩
theorem KeepsBut.below {R b : Nat} {w w1 : World} (h : KeepsBut R b w w1) (hb : b ≤ R) : Below b w w1 := ⟨h.os, h.tape, h.output, h.size, fun i hi => h.block i (by omega) (by omega)⟩
theorem IsBAt.builder {R b : Nat} {bs : List Value} {w : World} (h : IsBAt R b bs w) (hb : b ≤ R) : Lib.IsBuilder 237 5 b b bs w := by
 have key : ∀ p, BAt R b p bs w → Lib.BuilderAt 237 5 b b p bs w := by
  rintro p ⟨v, h1, ⟨hl, h2⟩, h3⟩
  refine ⟨Nat.le_refl _, v, h1, ⟨hl, ?_⟩, h3⟩
  rcases h2 with h2 | ⟨g, cap, cur, e1, e2, e3⟩
  ·
   exact .inl h2
  ·
   exact .inr ⟨g, cap, cur, e1, by omega, e3⟩
 rcases h with h | h
 ·
  exact .inl (key _ h)
 ·
  exact .inr (key _ h)
theorem BAt.fresh (R b : Nat) (w : World) (h : w.heap[b]? = some (.cells #[.pointer none, .slice none 0 0] 237 (0, 0))) : IsBAt R b [] w :=
 .inl ⟨_, h, ⟨rfl, .inl ⟨rfl, rfl⟩⟩, by simp [Value.ownBlock]⟩
theorem BAt.used {R b : Nat} {p : Value} {bs : List Value} {w : World} (h : BAt R b p bs w) (q : Value) : BAt R b q bs (w.setCell ⟨b, 0, none⟩ q) := by
 obtain ⟨v, hb, hown, hne⟩ := h
 refine ⟨v, ?_, ?_, hne⟩
 ·
  have := blk_set hb 0 q
  simpa using this
 ·
  obtain ⟨hl, h2⟩ := hown
  refine ⟨hl, ?_⟩
  rcases h2 with h2 | ⟨g, cap, cur, e1, e2, e3, e4⟩
  ·
   exact .inl h2
  ·
   refine .inr ⟨g, cap, cur, e1, e2, ?_, e4⟩
   have hgb : g ≠ b := by intro e; rw [e1, e] at hne; exact hne rfl
   exact (Below.heap_setCell w _ q g hgb).trans e3
end Go.Proofs.YtfcodmdckcihmaaDoor.P
namespace Go.Proofs.YtfcodmdckcihmaaDoor.P
open Go.RowKit Go.Proofs.YtfcodmdckcihmaaDoorW.PrintWords Go.Proofs.YtfcodmdckcihmaaDoorW.PrintLast Go.Proofs.YtfcodmdckcihmaaDoorW.PrintMore
set_option linter.unusedVariables false
set_option linter.unusedSimpArgs false
set_option linter.unnecessarySimpa false
def padZ (n : Int) : Nat := ((119 - n) % 64).toNat
def padB (n : Int) (i : Nat) : Int := IntKind.u64.wrap (n * 8) / 2 ^ (56 - 8 * i) % 256
def padL (n : Int) (k : Nat) : List UInt8 := 128 :: (List.replicate (padZ n) 0 ++ (List.range k).map fun i => (padB n i).toNat.toUInt8)
theorem padL_step (n : Int) (k : Nat) : Lib.byteCells (padL n (k + 1)) = Lib.byteCells (padL n k) ++ [.int .u8 (padB n k)] := by
 have h0 : 0 ≤ padB n k := Int.emod_nonneg _ (by decide)
 have h1 : padB n k < 256 := Int.emod_lt_of_pos _ (by decide)
 simp only [padL, Lib.byteCells, List.range_succ, List.map_append, List.map_cons, List.map_nil, List.cons_append, List.append_assoc]
 congr 4
 have : ((padB n k).toNat.toUInt8.toNat : Int) = padB n k := by
  rw [Nat.toUInt8, UInt8.toNat_ofNat']
  omega
 rw [this]
def padI (n : Int) : ByteArray := ⟨(padL n 8).toArray⟩
set_option maxRecDepth 100000 in
set_option maxHeartbeats 4000000 in
theorem padding.calls (n : Int) (h0 : 0 ≤ n) (h1 : n < 18446744073709551616) (w : World) :
  Calls Tryd.prog 142 #[.int .u64 n] w fun e w' => e = .returned (.string (padI n)) ∧ Below w.heap.size w w' := by
 go_enter Tryd.func142, Tryd.ntmps142
 go_wp2_with fail
 refine (writeByte.calls w.heap.size w.heap.size [] 128 _ (Lib.fresh_isBuilder _ _ w) (by decide) (by simp)).mono ?_
 rintro e w1 ⟨rfl, hb1, hB1⟩
 have hBB : Below w.heap.size w w1 := Below.trans (below_alloc (Below.refl _ _) _) hB1
 have HB1 := aM' hb1
 have HBB := aM' hBB
 clear hb1 hB1 hBB
 go_wp2_with fail
 go_loopw [6] (fun v wr => ∃ k : Nat, (intOf v).toNat = k ∧ k ≤ padZ n ∧ Aside0 (Lib.IsBuilder 237 5 w.heap.size w.heap.size (Lib.byteCells (128 :: List.replicate k 0)) wr) ∧ Aside0 (Below w.heap.size w wr)) (fun v _ => padZ n + 1 - (intOf v).toNat)
 case atStart => exact ⟨0, rfl, by omega, HB1, HBB⟩
 case round =>
  obtain ⟨k, hv, hk, HB, HW⟩ := hrel
  have hzz : ((padZ n : Nat) : Int) = (119 - n) % 64 := by simp only [padZ]; omega
  have HV := aM' hv
  clear hv
  by_cases hlt : k < padZ n
  ·
   have b1 : decide ((k : Int) + 1 < 1 + (119 - n) % 64) = true := decide_eq_true (by omega)
   have HZ := aM' hzz
   clear hzz
   go_wp2_with fail
   refine (Tryd.Builder_Len w.heap.size w.heap.size _ _ HB.out).mono ?_
   rintro e w2 ⟨rfl, rfl⟩
   have hl : (((Lib.byteCells (128 :: List.replicate k 0)).length : Nat) : Int) = (k : Int) + 1 := by simp [Lib.byteCells]
   rw [hl]
   clear hl
   go_wp2_with fail
   refine (writeByte.calls w.heap.size w.heap.size _ 0 _ HB.out (by simp [Lib.byteCells]; have := HZ.out; omega) HW.out.size).mono ?_
   rintro e w1 ⟨rfl, hb1, hB1⟩
   have HB2 := aM' hb1
   have HW2 := aM' (HW.out.trans hB1)
   clear hb1 hB1 b1
   go_wp2_with fail
   go_roundw
   case rel =>
    refine ⟨k + 1, by simp [intOf], hlt, ⟨?_⟩, HW2⟩
    have e2 : Lib.byteCells (128 :: List.replicate (k + 1) 0) = Lib.byteCells (128 :: List.replicate k 0) ++ [.int .u8 0] := by
     simp [Lib.byteCells, List.replicate_succ']
    rw [e2]
    exact HB2.out
   case measure => rw [HV.out]; simp [intOf]; omega
  ·
   have b1 : decide ((k : Int) + 1 < 1 + (119 - n) % 64) = false := decide_eq_false (by omega)
   have HZ := aM' hzz
   clear hzz
   go_wp2_with fail
   refine (Tryd.Builder_Len w.heap.size w.heap.size _ _ HB.out).mono ?_
   rintro e w2 ⟨rfl, rfl⟩
   have hl : (((Lib.byteCells (128 :: List.replicate k 0)).length : Nat) : Int) = (k : Int) + 1 := by simp [Lib.byteCells]
   rw [hl]
   clear hl
   go_wp2_with fail
   obtain rfl : k = padZ n := by omega
   have e119 : (119 - n % 64) % 64 = (119 - n) % 64 := by omega
   rw [e119]
   clear e119
   go_loopw [4] (fun v wr => ∃ i : Nat, v = .int .i64 (56 - 8 * (i : Int)) ∧ i ≤ 8 ∧ Aside0 (Lib.IsBuilder 237 5 w.heap.size w.heap.size (Lib.byteCells (padL n i)) wr) ∧ Aside0 (Below w.heap.size w wr)) (fun v _ => (8 + intOf v).toNat)
   case atStart => exact ⟨0, rfl, by omega, ⟨by simpa [padL] using HB.out⟩, HW⟩
   case round =>
    obtain ⟨i, rfl, hi, HB3, HW3⟩ := hrel
    by_cases hlt2 : i < 8
    ·
     have b2 : decide (0 ≤ 56 - 8 * (i : Int)) = true := decide_eq_true (by omega)
     have b3 : 0 ≤ 56 - 8 * (i : Int) := by omega
     clear b1
     go_wp2_with fail
     refine (writeByte.calls w.heap.size w.heap.size _ (padB n i) _ HB3.out (by simp [Lib.byteCells, padL]; have := HZ.out; omega) HW3.out.size).mono ?_
     rintro e w1 ⟨rfl, hb1, hB1⟩
     rw [← padL_step] at hb1
     have HB4 := aM' hb1
     have HW4 := aM' (HW3.out.trans hB1)
     have e8 : IntKind.i64.wrap (56 - 8 * (i : Int) - 8) = 56 - 8 * ((i + 1 : Nat) : Int) := by
      rw [IntWalk.i64_in _ (by omega)]; omega
     clear hb1 hB1 b2 b3
     go_wp2_with fail
     go_roundw
     case rel =>
      exact ⟨i + 1, by go_num, by omega, HB4, HW4⟩
     case measure => simp [intOf]; omega
    ·
     have b2 : decide (0 ≤ 56 - 8 * (i : Int)) = false := decide_eq_false (by omega)
     clear b1
     go_wp2_with fail
     obtain rfl : i = 8 := by omega
     refine (Tryd.Builder_String_any w.heap.size w.heap.size _ _ HB3.out HW3.out.size).mono ?_
     rintro e w2 ⟨rfl, hB2⟩
     go_wp2
     go_ret
     exact ⟨rfl, HW3.out.trans hB2⟩
def wordL (x : Int) : List Int := [x / 16777216 % 256, x / 65536 % 256, x / 256 % 256, x % 256]
def digL (s : S8) (k : Nat) : List Int := (List.range k).flatMap fun i => wordL (s.get i)
def digestI (s : S8) : ByteArray := strOfNums (digL s 8)
theorem digL_succ (s : S8) (k : Nat) : digL s (k + 1) = digL s k ++ wordL (s.get k) := by simp [digL, List.range_succ]
theorem digL_length (s : S8) (k : Nat) : (digL s k).length = 4 * k := by
 induction k with
 | zero => rfl
 | succ k ih => rw [digL_succ, List.length_append, ih]; simp [wordL]; omega
theorem nums_append (k : IntKind) (a b : List Int) : nums k (a ++ b) = nums k a ++ nums k b := by simp [nums]
set_option maxRecDepth 1000000 in
theorem state_index (s : S8) (k : Nat) (h : k < 8) (w : World) : (Instr.index 199 (.agg #[.int .u32 s.x0, .int .u32 s.x1, .int .u32 s.x2, .int .u32 s.x3, .int .u32 s.x4, .int .u32 s.x5, .int .u32 s.x6, .int .u32 s.x7]) (.int .i64 (k : Int))).run Tryd.prog w = .ok (.int .u32 (s.get k)) w := by
 have : k = 0 ∨ k = 1 ∨ k = 2 ∨ k = 3 ∨ k = 4 ∨ k = 5 ∨ k = 6 ∨ k = 7 := by omega
 rcases this with h | h | h | h | h | h | h | h <;> subst h <;> rfl
set_option maxRecDepth 100000 in
set_option maxHeartbeats 4000000 in
theorem digest.calls (s : S8) (w : World) :
  Calls Tryd.prog 143 #[stV s] w fun e w' => e = .returned (.string (digestI s)) ∧ Below w.heap.size w w' := by
 have hu := Tryd.underlying199
 obtain ⟨i0, hi, hz0, hz1, hz2⟩ := info_parts byteInfo
 go_enter Tryd.func143, Tryd.ntmps143
 go_wp2_with fail
 go_loopw [7, 3] (fun v u wr => ∃ k : Nat, v = .int .i64 k ∧ k ≤ 8 ∧ Aside0 (wr.ownsRow w.heap.size 5 1 u (4 * k) (nums .u8 (digL s k))) ∧ Aside0 (Below w.heap.size w wr)) (fun v _ _ => 8 - (intOf v).toNat)
 case atStart => exact ⟨0, rfl, by omega, ⟨⟨rfl, .inl ⟨rfl, rfl⟩⟩⟩, ⟨below_alloc (Below.refl _ _) _⟩⟩
 case round =>
  obtain ⟨k, rfl, hk, HO, HB⟩ := hrel
  by_cases hlt : k < 8
  ·
   have b1 : decide ((k : Int) < 8) = true := decide_eq_true (by omega)
   have g1 : (k : Int) < 8 := by omega
   have hix := state_index s k hlt
   obtain ⟨x, hx⟩ : ∃ x, x = s.get k := ⟨_, rfl⟩
   rw [← hx] at hix
   have HX := aM' hx
   clear hx
   have hl0 := HO.out.1
   go_wp2_with (at_builtin; refine wpList_append_own _ rfl _ _ 125 rfl w.heap.size 5 i0 (.int .u8 0) 1 1 Tryd.underlying125 hi hz0 hz1 hz2 rfl (by decide) _ _ _ rfl (HO.out.alloc _) ⟨wr.heap.size, 0, none⟩ 4 4 (nums .u8 (wordL x)) rfl rfl ?c1 ?c2 ?c3 ?c4 ?c5 ?_)
   case c1 =>
    intro j u hj
    match j, hj with
    | 0, hj => simp [nums, wordL] at hj; subst hj; simp [Addr.add]
    | 1, hj => simp [nums, wordL] at hj; subst hj; simp [Addr.add]
    | 2, hj => simp [nums, wordL] at hj; subst hj; simp [Addr.add]
    | 3, hj => simp [nums, wordL] at hj; subst hj; simp [Addr.add]
   case c2 => intro u hu; simp [nums, wordL] at hu; rcases hu with hu | hu | hu | hu <;> subst hu <;> rfl
   case c3 => unfold maxLen; omega
   case c4 => omega
   case c5 => have := HB.out.size; simp; omega
   intro v' w2 hown' hgrow _
   have HO2 := aM' hown'
   have HB2 := aM' (((HB.out.alloc HB.out.size _)).grown hgrow (by have := HB.out.size; simp; omega) (fun k hk => (HO.out.lt k hk).1))
   clear hown' hgrow hix
   go_wp2_with fail
   go_roundw
   case rel =>
    refine ⟨k + 1, by go_num, by omega, ⟨?_⟩, HB2⟩
    rw [digL_succ, ← HX.out, nums_append]
    exact HO2.out
   case measure => simp [intOf]; omega
  ·
   have b1 : decide ((k : Int) < 8) = false := decide_eq_false (by omega)
   obtain rfl : k = 8 := by omega
   have hown := HO.out
   obtain ⟨hl, h2⟩ := hown
   rcases h2 with ⟨_, h0⟩ | ⟨g, cap, cur, rfl, e2, e3, e4, e5, e6, e7⟩
   ·
    omega
   have hcv := run_convert_bytes_arg wr 125 5 Tryd.underlying125 Tryd.underlying5 g 0 32 cap (digL s 8) (digL_length s 8) (fun i hi => by
    have h1 : (cur.toList.take (4 * 8 * 1))[i]? = some (.int .u8 ((digL s 8).getD i 0)) := by
     rw [e7]; simp [nums, digL_length, hi]
    rw [List.getElem?_take_of_lt (by omega)] at h1
    rw [Nat.zero_add, blk_cell e3 i]
    simpa using h1) 9 Tryd.underlying9
   have HB2 := HB
   clear HO e3 e7 HB
   go_wp2_with fail
   go_ret
   exact ⟨rfl, HB2.out⟩
end Go.Proofs.YtfcodmdckcihmaaDoor.P
namespace Go.Proofs.YtfcodmdckcihmaaDoor.P
open Go.RowKit Go.Proofs.YtfcodmdckcihmaaDoorW.PrintWords Go.Proofs.YtfcodmdckcihmaaDoorW.PrintLast Go.Proofs.YtfcodmdckcihmaaDoorW.PrintMore
set_option linter.unusedVariables false
set_option linter.unusedSimpArgs false
set_option linter.unnecessarySimpa false
def firstI : S8 := ⟨1779033703, 3144134277, 1013904242, 2773480762, 1359893119, 2600822924, 528734635, 1541459225⟩
theorem first.calls (w : World) : Calls Tryd.prog 136 #[] w fun e w' => e = .returned (stV firstI) ∧ Below w.heap.size w w' := by
 have hu := Tryd.underlying199
 go_enter Tryd.func136, Tryd.ntmps136
 go_wp2_with fail
 refine bodyPost_ret (v := stV firstI) ?_ rfl ⟨rfl, ?_⟩
 ·
  simp [results, Tryd.results136, go_sem, firstI]
 ·
  repeat (with_reducible first | exact Below.refl _ _ | apply below_alloc | refine below_set ?_ (Nat.le_refl _))
def newRun : Run := ⟨firstI, ByteArray.empty, 0⟩
theorem new.calls (w : World) : Calls Tryd.prog 100 #[] w fun e w' => ∃ g, e = .returned (.pointer (some ⟨g, 0, none⟩)) ∧ w.heap.size ≤ g ∧ IsRun w' g newRun ∧ Below w.heap.size w w' := by
 have hu := Tryd.underlying199
 go_enter Tryd.func100, Tryd.ntmps100
 go_wp2_with fail
 refine (first.calls _).mono ?_
 rintro e w1 ⟨rfl, hB⟩
 go_wp2
 go_ret
 exact ⟨w1.heap.size, rfl, hB.size, blk_new w1 _, hB.alloc hB.size _⟩
theorem none.calls (g : Nat) (r : Run) (w : World) (hg : IsRun w g r) : Calls Tryd.prog 140 #[.pointer (some ⟨g, 0, none⟩)] w fun e w' => e = .returned (.bool false) ∧ w' = w := by
 have h0 : w.cell? ⟨g, 0, none⟩ = some (.bool true) := blk_cell hg 0
 go_enter Tryd.func140, Tryd.ntmps140
 go_wp2_with fail
 go_ret
 exact ⟨rfl, rfl⟩
theorem copy.calls (g : Nat) (r : Run) (w : World) (hg : IsRun w g r) : Calls Tryd.prog 141 #[.pointer (some ⟨g, 0, none⟩)] w fun e w' => ∃ g', e = .returned (.pointer (some ⟨g', 0, none⟩)) ∧ w.heap.size ≤ g' ∧ IsRun w' g' r ∧ Below w.heap.size w w' := by
 obtain ⟨e1, e2, e3, e4, e5, e6, e7, e8⟩ := run_cells hg
 have e0 : w.cell? ⟨g, 0, none⟩ = some (.bool true) := blk_cell hg 0
 have e9 : w.cell? ⟨g, 9, none⟩ = some (.string r.rest) := blk_cell hg 9
 have e10 : w.cell? ⟨g, 10, none⟩ = some (.int .u64 r.n) := blk_cell hg 10
 have hlt : g < w.heap.size := blk_lt hg
 have hne : g ≠ w.heap.size := Nat.ne_of_lt hlt
 have hu := Tryd.underlying199
 clear hg
 go_enter Tryd.func141, Tryd.ntmps141
 go_wp2_with fail
 go_ret
 exact ⟨w.heap.size, rfl, Nat.le_refl _, blk_new w _, below_alloc (Below.refl _ _) _⟩
def Run.sum (r : Run) : ByteArray := digestI (takeI r (padI r.n)).s
theorem padI_size (n : Int) : (padI n).size = 9 + padZ n := by simp [padI, padL, ByteArray.size]; omega
set_option maxRecDepth 100000 in
set_option maxHeartbeats 1000000 in
theorem sum_run.calls (g : Nat) (r : Run) (w : World) (hK : Laid w) (hg : IsRun w g r) (h0 : 0 ≤ r.n) (h1 : r.n < 18446744073709551616) (hr : r.rest.size < 64) :
  Calls Tryd.prog 102 #[.pointer (some ⟨g, 0, none⟩)] w fun e w' => e = .returned (.tuple #[.string r.sum, .int .i64 0]) ∧ Below w.heap.size w w' := by
 have HK := aM' hK
 have HG := aM' hg
 have hu := Tryd.underlying199
 clear hK hg
 go_enter Tryd.func102, Tryd.ntmps102
 go_wp2_with fail
 refine (none.calls g r _ HG.out).mono ?_
 rintro e w1 ⟨rfl, rfl⟩
 go_wp2_with fail
 refine (copy.calls g r _ HG.out).mono ?_
 rintro e w1 ⟨g2, rfl, hg2, hr2, hB1⟩
 have h10 : w1.cell? ⟨g, 10, none⟩ = some (.int .u64 r.n) := blk_cell (blk_below HG.out hB1) 10
 have HB1 := aM' hB1
 have HR2 := aM' hr2
 have HG2 := aM' hg2
 clear hB1 hr2 hg2
 go_wp2_with fail
 refine (padding.calls r.n h0 h1 _).mono ?_
 rintro e w2 ⟨rfl, hB2⟩
 have HB2 := aM' (HB1.out.trans (hB2.mono HB1.out.size))
 have HR3 : IsRun w2 g2 r := blk_below HR2.out hB2
 clear hB2 h10
 go_wp2_with fail
 refine (takes.calls g2 r (padI r.n) _ (HK.out.below HB2.out) HR3 (by rw [padI_size]; unfold padZ; omega)).mono ?_
 rintro e w3 ⟨rfl, hr3, hb3⟩
 have HB3 := aM' (HB2.out.grown hb3 HB2.out.size (fun k e => by cases e; exact HG2.out))
 obtain ⟨c1, c2, c3, c4, c5, c6, c7, c8⟩ := run_cells hr3
 clear hr3 hb3
 have HS := aM' (show (takeI r (padI r.n)).s = (takeI r (padI r.n)).s from rfl)
 have hs : r.sum = digestI (takeI r (padI r.n)).s := rfl
 generalize (takeI r (padI r.n)).s = y at c1 c2 c3 c4 c5 c6 c7 c8 hs
 have HY := aM' hs
 clear hs HR3 HS
 go_wp2_with fail
 refine (digest.calls y _).mono ?_
 rintro e w4 ⟨rfl, hB4⟩
 go_wp2_with fail
 go_ret2
 rw [HY.out]
 exact ⟨rfl, HB3.out.trans (hB4.mono HB3.out.size)⟩
def sumI (t : ByteArray) : ByteArray := (takeI newRun t).sum
theorem u64_wrap_range (x : Int) : 0 ≤ IntKind.u64.wrap x ∧ IntKind.u64.wrap x < 18446744073709551616 := by rw [IntKind.wrap_u64]; omega
theorem eat_rest (l : List (ByteArray × Bool)) : ∀ (r : Run), (∀ x ∈ l, x.2 = false → x.1.size < 64) → r.rest.size < 64 → (l.foldl eat r).rest.size < 64 ∧ (l.foldl eat r).n = r.n := by
 induction l with
 | nil => intro r _ h; exact ⟨h, rfl⟩
 | cons x l ih =>
  intro r hx hr
  rw [List.foldl_cons]
  have h1 : (eat r x).rest.size < 64 ∧ (eat r x).n = r.n := by
   unfold eat
   split
   ·
    exact ⟨by show ByteArray.empty.size < 64; decide, rfl⟩
   ·
    exact ⟨hx x (by simp) (by simp_all), rfl⟩
  obtain ⟨h2, h3⟩ := ih (eat r x) (fun y hy => hx y (by simp [hy])) h1.1
  exact ⟨h2, h3.trans h1.2⟩
theorem blksN_small : ∀ (n : Nat) (t : ByteArray), t.size / 64 = n → ∀ x ∈ blksN n t, x.2 = false → x.1.size < 64
 | 0, t, h, x, hx, _ => by simp [blksN] at hx; subst hx; show t.size < 64; omega
 | n + 1, t, h, x, hx, hf => by
  rw [blksN, List.mem_cons] at hx
  rcases hx with hx | hx
  ·
   subst hx; cases hf
  ·
   exact blksN_small n _ (by rw [ByteArray.size_extract]; omega) x hx hf
theorem takeI_small (r : Run) (t : ByteArray) (h : r.rest.size < 64) : (takeI r t).rest.size < 64 ∧ (takeI r t).n = IntKind.u64.wrap (r.n + (t.size : Int)) :=
 eat_rest _ _ (blksN_small _ _ rfl) h
set_option maxRecDepth 100000 in
set_option maxHeartbeats 1000000 in
theorem sum.calls (t : ByteArray) (w : World) (hK : Laid w) (ht : t.size ≤ 4611686018427387904) :
  Calls Tryd.prog 72 #[.string t] w fun e w' => e = .returned (.string (sumI t)) ∧ Below w.heap.size w w' := by
 have HK := aM' hK
 clear hK
 go_enter Tryd.func72, Tryd.ntmps72
 go_wp2_with fail
 refine (new.calls _).mono ?_
 rintro e w1 ⟨g, rfl, hg, hr, hB⟩
 have HB := aM' hB
 have HR := aM' hr
 have HG := aM' hg
 clear hB hr hg
 go_wp2_with fail
 refine (takes.calls g newRun t _ (HK.out.below HB.out) HR.out (by show 0 + t.size ≤ _; omega)).mono ?_
 rintro e w2 ⟨rfl, hr2, hb2⟩
 have HB2 := aM' (HB.out.grown hb2 HB.out.size (fun k e => by cases e; exact HG.out))
 have HR2 := aM' hr2
 clear hr2 hb2
 obtain ⟨s1, s2⟩ := takeI_small newRun t (by decide)
 have r1 : 0 ≤ (takeI newRun t).n := by rw [s2]; exact (u64_wrap_range _).1
 have r2 : (takeI newRun t).n < 18446744073709551616 := by rw [s2]; exact (u64_wrap_range _).2
 go_wp2_with fail
 refine (sum_run.calls g (takeI newRun t) _ (HK.out.below HB2.out) HR2.out r1 r2 s1).mono ?_
 rintro e w3 ⟨rfl, hB3⟩
 go_wp2
 go_ret
 exact ⟨rfl, HB2.out.trans (hB3.mono HB2.out.size)⟩
end Go.Proofs.YtfcodmdckcihmaaDoor.P
namespace Go.Proofs.YtfcodmdckcihmaaDoor.P
open Go.RowKit Go.Proofs.YtfcodmdckcihmaaDoorW.PrintWords Go.Proofs.YtfcodmdckcihmaaDoorW.PrintLast Go.Proofs.YtfcodmdckcihmaaDoorW.PrintMore
set_option linter.unusedVariables false
set_option linter.unusedSimpArgs false
set_option linter.unnecessarySimpa false
theorem wrap64_id {x : Int} (h0 : -9223372036854775808 ≤ x) (h1 : x ≤ 9223372036854775807) : wrap64 x = x := by unfold wrap64; omega
theorem wrapu64_id {x : Int} (h0 : 0 ≤ x) (h1 : x < 18446744073709551616) : IntKind.u64.wrap x = x := by
 rw [IntKind.wrap_u64]; exact Int.emod_eq_of_lt h0 h1
theorem wf_u64 {n : Int} (h : (Lit.int .u64 n).wf = true) : 0 ≤ n ∧ n < 18446744073709551616 := by
 simp [Lit.wf, IntKind.min, IntKind.max, IntKind.bits, IntKind.signed] at h; omega
theorem Ev.some_ {α : Type} {g : Nat → Option α} {r : α} (h : ∀ k, g k = some r) : Ev g r := ⟨0, fun k _ => h k⟩
theorem ev_eq {α : Type} {g : Nat → Option α} {r r' : α} (h : Ev g r) (e : r = r') : Ev g r' := e ▸ h
theorem any_drop_succ {α : Type} (p : α → Bool) (l : List α) (i : Nat) (h : i < l.length) : (l.drop i).any p = (p l[i] || (l.drop (i + 1)).any p) := by
 rw [List.drop_eq_getElem_cons h, List.any_cons]
end Go.Proofs.YtfcodmdckcihmaaDoor.P
namespace Go.Proofs.YtfcodmdckcihmaaDoor.P
open Go.RowKit Go.Proofs.YtfcodmdckcihmaaDoorW.PrintWords Go.Proofs.YtfcodmdckcihmaaDoorW.PrintLast Go.Proofs.YtfcodmdckcihmaaDoorW.PrintMore
set_option linter.unusedVariables false
set_option linter.unusedSimpArgs false
set_option linter.unnecessarySimpa false
def chainI (s : S8) (t : ByteArray) : Nat → S8
 | 0 => s
 | n + 1 => nextI (chainI s t n) (t.extract (64 * n) (64 * n + 64))
def refSumI (t : ByteArray) : ByteArray := digestI (chainI firstI (t ++ padI t.size) ((t ++ padI t.size).size / 64))
theorem S8.Ok.get {s : S8} (h : s.Ok) (i : Nat) : 0 ≤ s.get i ∧ s.get i < 4294967296 := by
 match i with
 | 0 => exact h.h0
 | 1 => exact h.h1
 | 2 => exact h.h2
 | 3 => exact h.h3
 | 4 => exact h.h4
 | 5 => exact h.h5
 | 6 => exact h.h6
 | n + 7 => exact h.h7
end Go.Proofs.YtfcodmdckcihmaaDoor.P
namespace Go.Proofs.YtfcodmdckcihmaaDoor.P
open Go.RowKit Go.Proofs.YtfcodmdckcihmaaDoorW.PrintWords Go.Proofs.YtfcodmdckcihmaaDoorW.PrintLast Go.Proofs.YtfcodmdckcihmaaDoorW.PrintMore
set_option linter.unusedVariables false
set_option linter.unusedSimpArgs false
set_option linter.unnecessarySimpa false
def sha_Sum.f (a0 : ByteArray) : Option ByteArray := if a0.size ≤ 4611686018427387904 then some (sumI a0) else none
theorem sha_Sum.calls (a0 : ByteArray) (r : ByteArray) (w : World) (hK : Laid w) (h : sha_Sum.f a0 = some r) :
  Calls Tryd.prog 72 #[.string a0] w fun e w' => e = .returned (.string r) ∧ Below w.heap.size w w' := by
 unfold sha_Sum.f at h
 split at h
 ·
  cases h; exact sum.calls a0 w hK (by assumption)
 ·
  cases h
end Go.Proofs.YtfcodmdckcihmaaDoor.P
namespace Go.Proofs.YtfcodmdckcihmaaDoor.P
open Go.RowKit Go.Proofs.YtfcodmdckcihmaaDoorW.PrintWords Go.Proofs.YtfcodmdckcihmaaDoorW.PrintLast Go.Proofs.YtfcodmdckcihmaaDoorW.PrintMore
attribute [local go_sem] max2_int min2_int max_two min_two max_three min_three max_four min_four-- for this text's walks alone
set_option linter.unusedVariables false
set_option linter.unusedSimpArgs false
def tag_Digest.f (a0 : Int) (a1 : ByteArray) : Option (ByteArray) := (tag_MayWidth.f a0).bind fun t108 => (if t108 = true then ((sha_Sum.f a1).bind fun t109 => (if 0 ≤ a0 then (if a0 ≤ (t109.size : Int) then (some (t109.extract 0 (a0 : Int).toNat)) else (none)) else (none))) else (some (⟨#[]⟩ : ByteArray)))
set_option maxHeartbeats 8000000 in
set_option maxRecDepth 100000 in
theorem tag_Digest.calls (a0 : Int) (a1 : ByteArray) (r : ByteArray) (w : World) (hK : Laid w) (h : tag_Digest.f a0 a1 = some r) :
  Calls Tryd.prog 32 #[.int .i64 a0, .string a1] w fun e w' => e = .returned (.string r) ∧ Below w.heap.size w w' := by
 have HB := aM' (Below.refl w.heap.size w)
 have HLD := aM' hK
 clear hK
 have H : ((tag_MayWidth.f a0).bind fun t108 => (if t108 = true then ((sha_Sum.f a1).bind fun t109 => (if 0 ≤ a0 then (if a0 ≤ (t109.size : Int) then (some (t109.extract 0 (a0 : Int).toNat)) else (none)) else (none))) else (some (⟨#[]⟩ : ByteArray)))) = some r := h
 clear h
 replace H := Option.bind_eq_some_iff.mp H
 obtain ⟨t108, A30, H⟩ := H
 replace H : (if t108 = true then ((sha_Sum.f a1).bind fun t109 => (if 0 ≤ a0 then (if a0 ≤ (t109.size : Int) then (some (t109.extract 0 (a0 : Int).toNat)) else (none)) else (none))) else (some (⟨#[]⟩ : ByteArray))) = some r := H
 have A3 := aM' A30
 clear A30
 by_cases c4 : t108 = true
 ·
  subst c4
  have H1 : ((sha_Sum.f a1).bind fun t109 => (if 0 ≤ a0 then (if a0 ≤ (t109.size : Int) then (some (t109.extract 0 (a0 : Int).toNat)) else (none)) else (none))) = some r := by rw [if_pos rfl] at H; exact H
  clear H
  have H := H1
  clear H1
  replace H := Option.bind_eq_some_iff.mp H
  obtain ⟨t109, A50, H⟩ := H
  replace H : (if 0 ≤ a0 then (if a0 ≤ (t109.size : Int) then (some (t109.extract 0 (a0 : Int).toNat)) else (none)) else (none)) = some r := H
  have A5 := aM' A50
  clear A50
  by_cases c6 : 0 ≤ a0
  ·
   rw [if_pos c6] at H
   have c6b0 := eq_true c6
   have c6b1 : decide (0 ≤ a0) = true := decide_eq_true c6
   clear c6
   by_cases c7 : a0 ≤ (t109.size : Int)
   ·
    rw [if_pos c7] at H
    have c7b0 := eq_true c7
    have c7b1 : decide (a0 ≤ (t109.size : Int)) = true := decide_eq_true c7
    clear c7
    obtain rfl := Option.some.inj H
    go_enter Tryd.func32, Tryd.ntmps32
    go_wp2_with (first | ((with_reducible refine gate_callee (f := 71) rfl ?_); refine goesL_ (some 6) rfl rfl Tryd.func71 (by kernel_rfl) rfl #[.int .i64 a0] rfl (by (try simp only [List.map_toArray, List.map_cons, List.map_nil]); first | done | rfl | (simp only [List.length_drop, List.length_take]; rfl)) ?_; (with_reducible refine (tag_MayWidth.calls a0 true _ A3.out).mono ?_); rintro e w' ⟨rfl, ⟨nd, rfl⟩⟩; refine ⟨_, rfl, ?_⟩) | ((with_reducible refine gate_callee (f := 72) rfl ?_); refine goesL_ (some 9) rfl rfl Tryd.func72 (by kernel_rfl) rfl #[.string a1] rfl (by (try simp only [List.map_toArray, List.map_cons, List.map_nil]); first | done | rfl | (simp only [List.length_drop, List.length_take]; rfl)) ?_; (with_reducible refine (sha_Sum.calls a1 t109 _ ?side1 A5.out).mono ?_); (case side1 => exact Laid.below HLD.out (by repeat (first | (with_reducible first | exact HB.out | apply below_alloc | apply pw_below_drewN | apply below_drew1) | exact HB.out))); rintro e w8 ⟨rfl, hb⟩; refine ⟨_, rfl, ?_⟩; have n0_ := aM' (below_step (by repeat (first | (with_reducible first | exact HB.out | apply below_alloc | apply pw_below_drewN | apply below_drew1) | exact HB.out)) hb); clear HB; have HB := n0_; clear n0_; (try clear hb); (try clear hb2); (try clear hk); (try clear hi)))
    go_ret
    exact ⟨by first | rfl | (simp [errW_none, errW_some] <;> rfl) | (simp [*, errW_none, errW_some] <;> rfl), by repeat (first | (with_reducible first | exact HB.out | apply below_alloc | apply pw_below_drewN | apply below_drew1) | exact HB.out)⟩
   ·
    rw [if_neg c7] at H
    exact absurd H (by simp)
  ·
   rw [if_neg c6] at H
   exact absurd H (by simp)
 ·
  replace c4 := Bool.eq_false_iff.mpr c4
  subst c4
  have H1 : (some (⟨#[]⟩ : ByteArray)) = some r := by rw [if_neg (show ¬ (false = true) by decide)] at H; exact H
  clear H
  have H := H1
  clear H1
  obtain rfl := Option.some.inj H
  go_enter Tryd.func32, Tryd.ntmps32
  go_wp2_with (first | ((with_reducible refine gate_callee (f := 71) rfl ?_); refine goesL_ (some 6) rfl rfl Tryd.func71 (by kernel_rfl) rfl #[.int .i64 a0] rfl (by (try simp only [List.map_toArray, List.map_cons, List.map_nil]); first | done | rfl | (simp only [List.length_drop, List.length_take]; rfl)) ?_; (with_reducible refine (tag_MayWidth.calls a0 false _ A3.out).mono ?_); rintro e w' ⟨rfl, ⟨nd, rfl⟩⟩; refine ⟨_, rfl, ?_⟩))
  go_ret
  exact ⟨by first | rfl | (simp [errW_none, errW_some] <;> rfl) | (simp [*, errW_none, errW_some] <;> rfl), by repeat (first | (with_reducible first | exact HB.out | apply below_alloc | apply pw_below_drewN | apply below_drew1) | exact HB.out)⟩
end Go.Proofs.YtfcodmdckcihmaaDoor.P
namespace Go.Proofs.YtfcodmdckcihmaaDoor.P
open Go.RowKit Go.Proofs.YtfcodmdckcihmaaDoorW.PrintWords Go.Proofs.YtfcodmdckcihmaaDoorW.PrintLast Go.Proofs.YtfcodmdckcihmaaDoorW.PrintMore
attribute [local go_sem] max2_int min2_int max_two min_two max_three min_three max_four min_four-- for this text's walks alone
set_option linter.unusedVariables false
set_option linter.unusedSimpArgs false
attribute [local go_sem high] eqALeaf eqANode
def slices_Equal_Node.l0 : Nat → List (SNode) → List (SNode) → Int → Int → Option (Bool)
 | 0, _, _, _, _ => none
 | k + 1, x0, x1, x12, x13 => if x13 < x12 then (if 0 ≤ x13 then (if x13 < (x0.length : Int) then (if x13 < (x1.length : Int) then (if (!((((rd_TNode x0 x13).f0).toList) == (((rd_TNode x1 x13).f0).toList)) || ((!(((rd_TNode x0 x13).f1.f0) == ((rd_TNode x1 x13).f1.f0)) || (!(((rd_TNode x0 x13).f1.f1) == ((rd_TNode x1 x13).f1.f1)))))) = true then (some false) else (slices_Equal_Node.l0 k x0 x1 x12 (wrap64 (x13 + 1)))) else (none)) else (none)) else (none)) else (some true)
def slices_Equal_Node.f (k : Nat) (l0 : List (SNode)) (l1 : List (SNode)) : Option (Bool) := if (l0.length : Int) = (l1.length : Int) then (slices_Equal_Node.l0 k l0 l1 (l0.length : Int) 0) else (some false)
set_option maxHeartbeats 8000000 in
set_option maxRecDepth 100000 in
theorem slices_Equal_Node.calls (k : Nat) (A0 : Option Addr) (c0 : Nat) (l0 : List (SNode)) (A1 : Option Addr) (c1 : Nat) (l1 : List (SNode)) (r : Bool) (w : World) (hr0 : Kd.C kNode w A0 l0.length l0) (hc0 : l0.length ≤ c0) (hr1 : Kd.C kNode w A1 l1.length l1) (hc1 : l1.length ≤ c1) (h : slices_Equal_Node.f k l0 l1 = some r) :
  Calls Tryd.prog 87 #[.slice A0 l0.length c0, .slice A1 l1.length c1] w fun e w' => e = .returned (.bool r) ∧ Drawn0 w w' := by
 have hu46 := Tryd.underlying46
 have HR0 := aM' hr0
 have HC0 := aM' hc0
 clear hr0 hc0
 have HR1 := aM' hr1
 have HC1 := aM' hc1
 clear hr1 hc1
 have H : (if (l0.length : Int) = (l1.length : Int) then (slices_Equal_Node.l0 k l0 l1 (l0.length : Int) 0) else (some false)) = some r := h
 clear h
 by_cases c3 : (l0.length : Int) = (l1.length : Int)
 ·
  rw [if_pos c3] at H
  have c3b0 : ((l0.length : Int) == (l1.length : Int)) = true := beq_iff_eq.mpr c3
  have c3b1 : ((l0.length : Int) != (l1.length : Int)) = false := bne_eq_false_iff_eq.mpr c3
  have c3b2 : (l0.length == l1.length) = true := by first | simpa using c3 | (simp at c3 ⊢; omega)
  clear c3
  have H' := aM' H
  clear H
  go_enter Tryd.func87, Tryd.ntmps87
  go_wp2
  repeat (go_quiet (fail); try go_wp2)
  go_loopg [13] k (fun kq v13 w' => ∃ (x13_1 : Int), v13 = .int .i64 x13_1 ∧ Aside0 (slices_Equal_Node.l0 kq l0 l1 (l0.length : Int) x13_1 = some r) ∧ Aside0 (kq ≤ k) ∧ Drawn0 w w')
  case atStart => exact ⟨(0), (by first | rfl | (simp; done) | (simp [*]; done)), H', ⟨Nat.le_refl _⟩, by repeat (first | exact Drawn0.refl _ | apply Drawn0.step)⟩
  case round =>
   clear H'
   try clear c1
   try clear p2
   try clear c3
   try clear c3b0
   try clear c3b1
   try clear c3b2
   obtain ⟨x13_1, rfl, HA, HK1, ⟨m1, rfl⟩⟩ := hrel
   cases gk with
   | zero => exact absurd HA.out (by simp [slices_Equal_Node.l0])
   | succ k1 =>
    have H := HA.out
    clear HA
    simp only [slices_Equal_Node.l0] at H
    by_cases c4 : x13_1 < (l0.length : Int)
    ·
     rw [if_pos c4] at H
     have c4b0 : decide (x13_1 < (l0.length : Int)) = true := decide_eq_true c4
     clear c4
     by_cases c5 : 0 ≤ x13_1
     ·
      rw [if_pos c5] at H
      have c5b0 : decide (0 ≤ x13_1) = true := decide_eq_true c5
      clear c5
      by_cases c6 : x13_1 < (l0.length : Int)
      ·
       rw [if_pos c6] at H
       have c6b0 : decide (x13_1 < (l0.length : Int)) = true := decide_eq_true c6
       clear c6
       by_cases c7 : x13_1 < (l1.length : Int)
       ·
        rw [if_pos c7] at H
        have c7b0 : decide (x13_1 < (l1.length : Int)) = true := decide_eq_true c7
        clear c7
        by_cases c8 : (!((((rd_TNode l0 x13_1).f0).toList) == (((rd_TNode l1 x13_1).f0).toList)) || ((!(((rd_TNode l0 x13_1).f1.f0) == ((rd_TNode l1 x13_1).f1.f0)) || (!(((rd_TNode l0 x13_1).f1.f1) == ((rd_TNode l1 x13_1).f1.f1)))))) = true
        ·
         rw [if_pos c8] at H
         have c8b0 : (!((((rd_TNode l0 x13_1).f0).toList) == (((rd_TNode l1 x13_1).f0).toList)) || ((!(((rd_TNode l0 x13_1).f1.f0) == ((rd_TNode l1 x13_1).f1.f0)) || (!(((rd_TNode l0 x13_1).f1.f1) == ((rd_TNode l1 x13_1).f1.f1)))))) = true := c8
         clear c8
         obtain rfl := Option.some.inj H
         have p101 : 0 ≤ (x13_1 : Int) := of_decide_eq_true (by first | (with_reducible assumption) | assumption)
         have q101 : x13_1 < (l0.length : Int) := of_decide_eq_true (by first | (with_reducible assumption) | assumption)
         obtain ⟨ad101, e101, hx101_0, hx101_1, hx101_2⟩ := at_TNode HR0.out x13_1 p101 q101
         cases e101
         replace p101 := eq_true p101
         replace q101 := eq_true q101
         have p102 : 0 ≤ (x13_1 : Int) := of_decide_eq_true (by first | (with_reducible assumption) | assumption)
         have q102 : x13_1 < (l1.length : Int) := of_decide_eq_true (by first | (with_reducible assumption) | assumption)
         obtain ⟨ad102, e102, hx102_0, hx102_1, hx102_2⟩ := at_TNode HR1.out x13_1 p102 q102
         cases e102
         replace p102 := eq_true p102
         replace q102 := eq_true q102
         go_wp2
         repeat (go_quiet (fail); try go_wp2)
         go_ret
         exact ⟨by first | rfl | (simp; done) | (simp [*]; done), by repeat (first | exact Drawn0.refl _ | apply Drawn0.step)⟩
        ·
         rw [if_neg c8] at H
         have c8b0 : (!((((rd_TNode l0 x13_1).f0).toList) == (((rd_TNode l1 x13_1).f0).toList)) || ((!(((rd_TNode l0 x13_1).f1.f0) == ((rd_TNode l1 x13_1).f1.f0)) || (!(((rd_TNode l0 x13_1).f1.f1) == ((rd_TNode l1 x13_1).f1.f1)))))) = false := by simpa using c8
         clear c8
         have H' := aM' H
         clear H
         have p101 : 0 ≤ (x13_1 : Int) := of_decide_eq_true (by first | (with_reducible assumption) | assumption)
         have q101 : x13_1 < (l0.length : Int) := of_decide_eq_true (by first | (with_reducible assumption) | assumption)
         obtain ⟨ad101, e101, hx101_0, hx101_1, hx101_2⟩ := at_TNode HR0.out x13_1 p101 q101
         cases e101
         replace p101 := eq_true p101
         replace q101 := eq_true q101
         have p102 : 0 ≤ (x13_1 : Int) := of_decide_eq_true (by first | (with_reducible assumption) | assumption)
         have q102 : x13_1 < (l1.length : Int) := of_decide_eq_true (by first | (with_reducible assumption) | assumption)
         obtain ⟨ad102, e102, hx102_0, hx102_1, hx102_2⟩ := at_TNode HR1.out x13_1 p102 q102
         cases e102
         replace p102 := eq_true p102
         replace q102 := eq_true q102
         go_wp2
         repeat (go_quiet (fail); try go_wp2)
         go_roundg k1
         case measure => have := HK1.out; omega
         case rel => exact ⟨(wrap64 (x13_1 + 1)), (by first | rfl | (simp; done) | (simp [*]; done)), H', ⟨by have := HK1.out; omega⟩, by repeat (first | exact Drawn0.refl _ | apply Drawn0.step)⟩
       ·
        rw [if_neg c7] at H
        exact absurd H (by simp)
      ·
       rw [if_neg c6] at H
       exact absurd H (by simp)
     ·
      rw [if_neg c5] at H
      exact absurd H (by simp)
    ·
     rw [if_neg c4] at H
     have c4b0 : decide (x13_1 < (l0.length : Int)) = false := decide_eq_false c4
     clear c4
     obtain rfl := Option.some.inj H
     go_wp2
     repeat (go_quiet (fail); try go_wp2)
     go_ret
     exact ⟨by first | rfl | (simp; done) | (simp [*]; done), by repeat (first | exact Drawn0.refl _ | apply Drawn0.step)⟩
 ·
  rw [if_neg c3] at H
  have c3b0 : ((l0.length : Int) == (l1.length : Int)) = false := beq_eq_false_iff_ne.mpr c3
  have c3b1 : ((l0.length : Int) != (l1.length : Int)) = true := bne_iff_ne.mpr c3
  have c3b2 : (l0.length == l1.length) = false := by first | simpa using c3 | (simp at c3 ⊢; omega)
  obtain rfl := Option.some.inj H
  go_enter Tryd.func87, Tryd.ntmps87
  go_wp2
  repeat (go_quiet (fail); try go_wp2)
  go_ret
  exact ⟨by first | rfl | (simp; done) | (simp [*]; done), by repeat (first | exact Drawn0.refl _ | apply Drawn0.step)⟩
def proof_Same.f (k : Nat) (a0_0 : Bool) (a0_1 : ByteArray) (a0_2 : ByteArray) (a0_3 : Int) (a0_4 : Int) (a0_5 : Int) (l0_6 : List (SNode)) (a1_0 : Bool) (a1_1 : ByteArray) (a1_2 : ByteArray) (a1_3 : Int) (a1_4 : Int) (a1_5 : Int) (l1_6 : List (SNode)) : Option (Bool) := if (a0_0 == a1_0 && (a0_1.toList == a1_1.toList && (a0_2.toList == a1_2.toList && ((a0_3 == a1_3 && (a0_4 == a1_4)))))) = true then (if a0_5 = a1_5 then ((slices_Equal_Node.f k l0_6 l1_6).bind fun t105 => (some t105)) else (some false)) else (some false)
set_option maxHeartbeats 8000000 in
set_option maxRecDepth 100000 in
theorem proof_Same.calls (k : Nat) (a0_0 : Bool) (a0_1 : ByteArray) (a0_2 : ByteArray) (a0_3 : Int) (a0_4 : Int) (a0_5 : Int) (A0_6 : Option Addr) (c0_6 : Nat) (l0_6 : List (SNode)) (a1_0 : Bool) (a1_1 : ByteArray) (a1_2 : ByteArray) (a1_3 : Int) (a1_4 : Int) (a1_5 : Int) (A1_6 : Option Addr) (c1_6 : Nat) (l1_6 : List (SNode)) (r : Bool) (w : World) (hr0_6 : Kd.C kNode w A0_6 l0_6.length l0_6) (hc0_6 : l0_6.length ≤ c0_6) (hr1_6 : Kd.C kNode w A1_6 l1_6.length l1_6) (hc1_6 : l1_6.length ≤ c1_6) (h : proof_Same.f k a0_0 a0_1 a0_2 a0_3 a0_4 a0_5 l0_6 a1_0 a1_1 a1_2 a1_3 a1_4 a1_5 l1_6 = some r) :
  Calls Tryd.prog 45 #[.agg #[.bool a0_0, .string a0_1, .string a0_2, .int .u64 a0_3, .int .u64 a0_4, .int .u64 a0_5, .slice A0_6 l0_6.length c0_6], .agg #[.bool a1_0, .string a1_1, .string a1_2, .int .u64 a1_3, .int .u64 a1_4, .int .u64 a1_5, .slice A1_6 l1_6.length c1_6]] w fun e w' => e = .returned (.bool r) ∧ Below w.heap.size w w' := by
 have hu70 := Tryd.underlying70
 have hu36 := Tryd.underlying36
 have HR0_6 := aM' hr0_6
 have HC0_6 := aM' hc0_6
 clear hr0_6 hc0_6
 have HR1_6 := aM' hr1_6
 have HC1_6 := aM' hc1_6
 clear hr1_6 hc1_6
 have HB := aM' (Below.refl w.heap.size w)
 have H : (if (a0_0 == a1_0 && (a0_1.toList == a1_1.toList && (a0_2.toList == a1_2.toList && ((a0_3 == a1_3 && (a0_4 == a1_4)))))) = true then (if a0_5 = a1_5 then ((slices_Equal_Node.f k l0_6 l1_6).bind fun t105 => (some t105)) else (some false)) else (some false)) = some r := h
 clear h
 by_cases c3 : (a0_0 == a1_0 && (a0_1.toList == a1_1.toList && (a0_2.toList == a1_2.toList && ((a0_3 == a1_3 && (a0_4 == a1_4)))))) = true
 ·
  rw [if_pos c3] at H
  have c3b0 : (a0_0 == a1_0 && (a0_1.toList == a1_1.toList && (a0_2.toList == a1_2.toList && ((a0_3 == a1_3 && (a0_4 == a1_4)))))) = true := c3
  (try (have c3b1 : decide (a0_0 = a1_0 && (a0_1.toList == a1_1.toList && (a0_2.toList == a1_2.toList && ((a0_3 == a1_3 && (a0_4 == a1_4)))))) = true := by simpa using c3))
  (try (have c3b2 : (a0_0 == a1_0 && (a0_1.toList == a1_1.toList && (a0_2.toList == a1_2.toList && ((a0_3 == a1_3 && (a0_4 == a1_4)))))) = true := by simpa using c3))
  clear c3
  by_cases c4 : a0_5 = a1_5
  ·
   rw [if_pos c4] at H
   have c4b0 : (a0_5 == a1_5) = true := beq_iff_eq.mpr c4
   have c4b1 : (a0_5 != a1_5) = false := bne_eq_false_iff_eq.mpr c4
   clear c4
   replace H := Option.bind_eq_some_iff.mp H
   obtain ⟨t105, A50, H⟩ := H
   replace H : (some t105) = some r := H
   have A5 := aM' A50
   clear A50
   obtain rfl := Option.some.inj H
   go_enter Tryd.func45, Tryd.ntmps45
   go_wp2_with (first | ((with_reducible refine gate_dst (N := 2) rfl ?_); refine box_event ?hg (N := 2) ?hd (cs := #[.bool a0_0, .string a0_1, .string a0_2, .int .u64 a0_3, .int .u64 a0_4, .int .u64 a0_5, .slice A0_6 l0_6.length c0_6]) (t := 70) ?hr ?_; (case hd => rfl); (case hg => rfl); (case hr => first | (go_simp; done) | (go_simp; rfl)); intro gb103 hg w6 hbox hb; have n0_ := aM' (below_step (by repeat (first | (with_reducible first | exact HB.out | apply below_alloc | apply pw_below_drewN | apply below_drew1) | exact HB.out)) hb); have n1_ := aM' (hbox); have n2_ := aM' ((by rw [hg]; exact (below_size (by repeat (first | (with_reducible first | exact HB.out | apply below_alloc | apply pw_below_drewN | apply below_drew1) | exact HB.out))) : w.heap.size ≤ gb103)); have n3_ := aM' ((by rw [hg]; exact (below_size (by repeat (first | (with_reducible first | exact HB.out | apply below_alloc | apply pw_below_drewN | apply below_drew1) | exact HB.out))) : w.heap.size ≤ gb103)); clear HB; have HB := n0_; have BK103 := n1_; have GW103 := n2_; have GE103 := n3_; clear n0_ n1_ n2_ n3_; clear hb hbox hg) | ((with_reducible refine gate_dst (N := 3) rfl ?_); refine box_event ?hg (N := 3) ?hd (cs := #[.bool a1_0, .string a1_1, .string a1_2, .int .u64 a1_3, .int .u64 a1_4, .int .u64 a1_5, .slice A1_6 l1_6.length c1_6]) (t := 70) ?hr ?_; (case hd => rfl); (case hg => rfl); (case hr => first | (go_simp; done) | (go_simp; rfl)); intro gb104 hg w7 hbox hb; have n0_ := aM' (blk_below (g := gb103) (o := .cells #[.bool a0_0, .string a0_1, .string a0_2, .int .u64 a0_3, .int .u64 a0_4, .int .u64 a0_5, .slice A0_6 l0_6.length c0_6] 70 (0, 0)) (by (with_reducible repeat (first | refine blk_drewN ?_ _ | refine blk_drew ?_ | refine blk_alloc ?_ _)); exact BK103.out) hb); have n1_ := aM' (below_step (by repeat (first | (with_reducible first | exact HB.out | apply below_alloc | apply pw_below_drewN | apply below_drew1 | refine below_set ?_ GE103.out) | exact HB.out)) hb); have n2_ := aM' (hbox); have n3_ := aM' ((by rw [hg]; exact (below_size (by repeat (first | (with_reducible first | exact HB.out | apply below_alloc | apply pw_below_drewN | apply below_drew1 | refine below_set ?_ GE103.out) | exact HB.out))) : w.heap.size ≤ gb104)); have n4_ := aM' ((by rw [hg]; exact (below_size (by repeat (first | (with_reducible first | exact HB.out | apply below_alloc | apply pw_below_drewN | apply below_drew1 | refine below_set ?_ GE103.out) | exact HB.out))) : w.heap.size ≤ gb104)); have n5_ := aM' ((by rw [hg]; exact Nat.ne_of_lt (blk_lt (g := gb103) (o := .cells #[.bool a0_0, .string a0_1, .string a0_2, .int .u64 a0_3, .int .u64 a0_4, .int .u64 a0_5, .slice A0_6 l0_6.length c0_6] 70 (0, 0)) (by (with_reducible repeat (first | refine blk_drewN ?_ _ | refine blk_drew ?_ | refine blk_alloc ?_ _)); exact BK103.out)) : gb103 ≠ gb104)); have n6_ := aM' ((by rw [hg]; exact Nat.ne_of_gt (blk_lt (g := gb103) (o := .cells #[.bool a0_0, .string a0_1, .string a0_2, .int .u64 a0_3, .int .u64 a0_4, .int .u64 a0_5, .slice A0_6 l0_6.length c0_6] 70 (0, 0)) (by (with_reducible repeat (first | refine blk_drewN ?_ _ | refine blk_drew ?_ | refine blk_alloc ?_ _)); exact BK103.out)) : gb104 ≠ gb103)); clear BK103; clear HB; have BK103 := n0_; have HB := n1_; have BK104 := n2_; have GW104 := n3_; have GE104 := n4_; have NB103_104 := n5_; have NB104_103 := n6_; clear n0_ n1_ n2_ n3_ n4_ n5_ n6_; clear hb hbox hg; have hnb8 := NB103_104.out; have hnc8 := NB104_103.out; have hcz9_0 : w7.cell? ⟨gb103, 0, none⟩ = some (.bool a0_0) := (blk_cell BK103.out 0).trans rfl; have hcz9_1 : w7.cell? ⟨gb103, 1, none⟩ = some (.string a0_1) := (blk_cell BK103.out 1).trans rfl; have hcz9_2 : w7.cell? ⟨gb103, 2, none⟩ = some (.string a0_2) := (blk_cell BK103.out 2).trans rfl; have hcz9_3 : w7.cell? ⟨gb103, 3, none⟩ = some (.int .u64 a0_3) := (blk_cell BK103.out 3).trans rfl; have hcz9_4 : w7.cell? ⟨gb103, 4, none⟩ = some (.int .u64 a0_4) := (blk_cell BK103.out 4).trans rfl; have hcz9_5 : w7.cell? ⟨gb103, 5, none⟩ = some (.int .u64 a0_5) := (blk_cell BK103.out 5).trans rfl; have hcz9_6 : w7.cell? ⟨gb103, 6, none⟩ = some (.slice A0_6 l0_6.length c0_6) := (blk_cell BK103.out 6).trans rfl; have hfz9_0 := blk_frozen BK103.out 0; have hfz9_1 := blk_frozen BK103.out 1; have hfz9_2 := blk_frozen BK103.out 2; have hfz9_3 := blk_frozen BK103.out 3; have hfz9_4 := blk_frozen BK103.out 4; have hfz9_5 := blk_frozen BK103.out 5; have hfz9_6 := blk_frozen BK103.out 6; have hcz10_0 : w7.cell? ⟨gb104, 0, none⟩ = some (.bool a1_0) := (blk_cell BK104.out 0).trans rfl; have hcz10_1 : w7.cell? ⟨gb104, 1, none⟩ = some (.string a1_1) := (blk_cell BK104.out 1).trans rfl; have hcz10_2 : w7.cell? ⟨gb104, 2, none⟩ = some (.string a1_2) := (blk_cell BK104.out 2).trans rfl; have hcz10_3 : w7.cell? ⟨gb104, 3, none⟩ = some (.int .u64 a1_3) := (blk_cell BK104.out 3).trans rfl; have hcz10_4 : w7.cell? ⟨gb104, 4, none⟩ = some (.int .u64 a1_4) := (blk_cell BK104.out 4).trans rfl; have hcz10_5 : w7.cell? ⟨gb104, 5, none⟩ = some (.int .u64 a1_5) := (blk_cell BK104.out 5).trans rfl; have hcz10_6 : w7.cell? ⟨gb104, 6, none⟩ = some (.slice A1_6 l1_6.length c1_6) := (blk_cell BK104.out 6).trans rfl; have hfz10_0 := blk_frozen BK104.out 0; have hfz10_1 := blk_frozen BK104.out 1; have hfz10_2 := blk_frozen BK104.out 2; have hfz10_3 := blk_frozen BK104.out 3; have hfz10_4 := blk_frozen BK104.out 4; have hfz10_5 := blk_frozen BK104.out 5; have hfz10_6 := blk_frozen BK104.out 6) | (go_at_call 87; (with_reducible refine (slices_Equal_Node.calls k _ _ l0_6 _ _ l1_6 t105 _ ?side1 ?side2 ?side3 ?side4 A5.out).mono ?_); (case side1 => repeat (first | exact (Kd.C_below HR0_6.out HB.out) | (with_reducible refine Kd.C_alloc ?_ _) | (with_reducible refine Kd.C_drewN ?_ _) | (with_reducible refine Kd.C_drew ?_))); (case side2 => exact HC0_6.out); (case side3 => repeat (first | exact (Kd.C_below HR1_6.out HB.out) | (with_reducible refine Kd.C_alloc ?_ _) | (with_reducible refine Kd.C_drewN ?_ _) | (with_reducible refine Kd.C_drew ?_))); (case side4 => exact HC1_6.out); rintro e w' ⟨rfl, ⟨nd, rfl⟩⟩))
   go_ret
   exact ⟨by first | rfl | (simp [errW_none, errW_some] <;> rfl) | (simp [*, errW_none, errW_some] <;> rfl), by repeat (first | (with_reducible first | exact HB.out | apply below_alloc | apply pw_below_drewN | apply below_drew1 | refine below_set ?_ GE103.out | refine below_set ?_ GE104.out) | exact HB.out)⟩
  ·
   rw [if_neg c4] at H
   have c4b0 : (a0_5 == a1_5) = false := beq_eq_false_iff_ne.mpr c4
   have c4b1 : (a0_5 != a1_5) = true := bne_iff_ne.mpr c4
   obtain rfl := Option.some.inj H
   go_enter Tryd.func45, Tryd.ntmps45
   go_wp2_with (first | ((with_reducible refine gate_dst (N := 2) rfl ?_); refine box_event ?hg (N := 2) ?hd (cs := #[.bool a0_0, .string a0_1, .string a0_2, .int .u64 a0_3, .int .u64 a0_4, .int .u64 a0_5, .slice A0_6 l0_6.length c0_6]) (t := 70) ?hr ?_; (case hd => rfl); (case hg => rfl); (case hr => first | (go_simp; done) | (go_simp; rfl)); intro gb103 hg w11 hbox hb; have n0_ := aM' (below_step (by repeat (first | (with_reducible first | exact HB.out | apply below_alloc | apply pw_below_drewN | apply below_drew1) | exact HB.out)) hb); have n1_ := aM' (hbox); have n2_ := aM' ((by rw [hg]; exact (below_size (by repeat (first | (with_reducible first | exact HB.out | apply below_alloc | apply pw_below_drewN | apply below_drew1) | exact HB.out))) : w.heap.size ≤ gb103)); have n3_ := aM' ((by rw [hg]; exact (below_size (by repeat (first | (with_reducible first | exact HB.out | apply below_alloc | apply pw_below_drewN | apply below_drew1) | exact HB.out))) : w.heap.size ≤ gb103)); clear HB; have HB := n0_; have BK103 := n1_; have GW103 := n2_; have GE103 := n3_; clear n0_ n1_ n2_ n3_; clear hb hbox hg) | ((with_reducible refine gate_dst (N := 3) rfl ?_); refine box_event ?hg (N := 3) ?hd (cs := #[.bool a1_0, .string a1_1, .string a1_2, .int .u64 a1_3, .int .u64 a1_4, .int .u64 a1_5, .slice A1_6 l1_6.length c1_6]) (t := 70) ?hr ?_; (case hd => rfl); (case hg => rfl); (case hr => first | (go_simp; done) | (go_simp; rfl)); intro gb104 hg w12 hbox hb; have n0_ := aM' (blk_below (g := gb103) (o := .cells #[.bool a0_0, .string a0_1, .string a0_2, .int .u64 a0_3, .int .u64 a0_4, .int .u64 a0_5, .slice A0_6 l0_6.length c0_6] 70 (0, 0)) (by (with_reducible repeat (first | refine blk_drewN ?_ _ | refine blk_drew ?_ | refine blk_alloc ?_ _)); exact BK103.out) hb); have n1_ := aM' (below_step (by repeat (first | (with_reducible first | exact HB.out | apply below_alloc | apply pw_below_drewN | apply below_drew1 | refine below_set ?_ GE103.out) | exact HB.out)) hb); have n2_ := aM' (hbox); have n3_ := aM' ((by rw [hg]; exact (below_size (by repeat (first | (with_reducible first | exact HB.out | apply below_alloc | apply pw_below_drewN | apply below_drew1 | refine below_set ?_ GE103.out) | exact HB.out))) : w.heap.size ≤ gb104)); have n4_ := aM' ((by rw [hg]; exact (below_size (by repeat (first | (with_reducible first | exact HB.out | apply below_alloc | apply pw_below_drewN | apply below_drew1 | refine below_set ?_ GE103.out) | exact HB.out))) : w.heap.size ≤ gb104)); have n5_ := aM' ((by rw [hg]; exact Nat.ne_of_lt (blk_lt (g := gb103) (o := .cells #[.bool a0_0, .string a0_1, .string a0_2, .int .u64 a0_3, .int .u64 a0_4, .int .u64 a0_5, .slice A0_6 l0_6.length c0_6] 70 (0, 0)) (by (with_reducible repeat (first | refine blk_drewN ?_ _ | refine blk_drew ?_ | refine blk_alloc ?_ _)); exact BK103.out)) : gb103 ≠ gb104)); have n6_ := aM' ((by rw [hg]; exact Nat.ne_of_gt (blk_lt (g := gb103) (o := .cells #[.bool a0_0, .string a0_1, .string a0_2, .int .u64 a0_3, .int .u64 a0_4, .int .u64 a0_5, .slice A0_6 l0_6.length c0_6] 70 (0, 0)) (by (with_reducible repeat (first | refine blk_drewN ?_ _ | refine blk_drew ?_ | refine blk_alloc ?_ _)); exact BK103.out)) : gb104 ≠ gb103)); clear BK103; clear HB; have BK103 := n0_; have HB := n1_; have BK104 := n2_; have GW104 := n3_; have GE104 := n4_; have NB103_104 := n5_; have NB104_103 := n6_; clear n0_ n1_ n2_ n3_ n4_ n5_ n6_; clear hb hbox hg; have hnb13 := NB103_104.out; have hnc13 := NB104_103.out; have hcz14_0 : w12.cell? ⟨gb103, 0, none⟩ = some (.bool a0_0) := (blk_cell BK103.out 0).trans rfl; have hcz14_1 : w12.cell? ⟨gb103, 1, none⟩ = some (.string a0_1) := (blk_cell BK103.out 1).trans rfl; have hcz14_2 : w12.cell? ⟨gb103, 2, none⟩ = some (.string a0_2) := (blk_cell BK103.out 2).trans rfl; have hcz14_3 : w12.cell? ⟨gb103, 3, none⟩ = some (.int .u64 a0_3) := (blk_cell BK103.out 3).trans rfl; have hcz14_4 : w12.cell? ⟨gb103, 4, none⟩ = some (.int .u64 a0_4) := (blk_cell BK103.out 4).trans rfl; have hcz14_5 : w12.cell? ⟨gb103, 5, none⟩ = some (.int .u64 a0_5) := (blk_cell BK103.out 5).trans rfl; have hcz14_6 : w12.cell? ⟨gb103, 6, none⟩ = some (.slice A0_6 l0_6.length c0_6) := (blk_cell BK103.out 6).trans rfl; have hfz14_0 := blk_frozen BK103.out 0; have hfz14_1 := blk_frozen BK103.out 1; have hfz14_2 := blk_frozen BK103.out 2; have hfz14_3 := blk_frozen BK103.out 3; have hfz14_4 := blk_frozen BK103.out 4; have hfz14_5 := blk_frozen BK103.out 5; have hfz14_6 := blk_frozen BK103.out 6; have hcz15_0 : w12.cell? ⟨gb104, 0, none⟩ = some (.bool a1_0) := (blk_cell BK104.out 0).trans rfl; have hcz15_1 : w12.cell? ⟨gb104, 1, none⟩ = some (.string a1_1) := (blk_cell BK104.out 1).trans rfl; have hcz15_2 : w12.cell? ⟨gb104, 2, none⟩ = some (.string a1_2) := (blk_cell BK104.out 2).trans rfl; have hcz15_3 : w12.cell? ⟨gb104, 3, none⟩ = some (.int .u64 a1_3) := (blk_cell BK104.out 3).trans rfl; have hcz15_4 : w12.cell? ⟨gb104, 4, none⟩ = some (.int .u64 a1_4) := (blk_cell BK104.out 4).trans rfl; have hcz15_5 : w12.cell? ⟨gb104, 5, none⟩ = some (.int .u64 a1_5) := (blk_cell BK104.out 5).trans rfl; have hcz15_6 : w12.cell? ⟨gb104, 6, none⟩ = some (.slice A1_6 l1_6.length c1_6) := (blk_cell BK104.out 6).trans rfl; have hfz15_0 := blk_frozen BK104.out 0; have hfz15_1 := blk_frozen BK104.out 1; have hfz15_2 := blk_frozen BK104.out 2; have hfz15_3 := blk_frozen BK104.out 3; have hfz15_4 := blk_frozen BK104.out 4; have hfz15_5 := blk_frozen BK104.out 5; have hfz15_6 := blk_frozen BK104.out 6))
   go_ret
   exact ⟨by first | rfl | (simp [errW_none, errW_some] <;> rfl) | (simp [*, errW_none, errW_some] <;> rfl), by repeat (first | (with_reducible first | exact HB.out | apply below_alloc | apply pw_below_drewN | apply below_drew1 | refine below_set ?_ GE103.out | refine below_set ?_ GE104.out) | exact HB.out)⟩
 ·
  rw [if_neg c3] at H
  have c3b0 : (a0_0 == a1_0 && (a0_1.toList == a1_1.toList && (a0_2.toList == a1_2.toList && ((a0_3 == a1_3 && (a0_4 == a1_4)))))) = false := by simpa using c3
  (try (have c3b1 : decide (a0_0 = a1_0 && (a0_1.toList == a1_1.toList && (a0_2.toList == a1_2.toList && ((a0_3 == a1_3 && (a0_4 == a1_4)))))) = false := by simpa using c3))
  (try (have c3b2 : (a0_0 == a1_0 && (a0_1.toList == a1_1.toList && (a0_2.toList == a1_2.toList && ((a0_3 == a1_3 && (a0_4 == a1_4)))))) = false := by simpa using c3))
  (try (have c3b3 : ¬ (a0_0 = a1_0 && (a0_1.toList == a1_1.toList && (a0_2.toList == a1_2.toList && ((a0_3 == a1_3 && (a0_4 == a1_4)))))) := by simpa using c3))
  clear c3
  obtain rfl := Option.some.inj H
  go_enter Tryd.func45, Tryd.ntmps45
  go_wp2_with (first | ((with_reducible refine gate_dst (N := 2) rfl ?_); refine box_event ?hg (N := 2) ?hd (cs := #[.bool a0_0, .string a0_1, .string a0_2, .int .u64 a0_3, .int .u64 a0_4, .int .u64 a0_5, .slice A0_6 l0_6.length c0_6]) (t := 70) ?hr ?_; (case hd => rfl); (case hg => rfl); (case hr => first | (go_simp; done) | (go_simp; rfl)); intro gb103 hg w16 hbox hb; have n0_ := aM' (below_step (by repeat (first | (with_reducible first | exact HB.out | apply below_alloc | apply pw_below_drewN | apply below_drew1) | exact HB.out)) hb); have n1_ := aM' (hbox); have n2_ := aM' ((by rw [hg]; exact (below_size (by repeat (first | (with_reducible first | exact HB.out | apply below_alloc | apply pw_below_drewN | apply below_drew1) | exact HB.out))) : w.heap.size ≤ gb103)); have n3_ := aM' ((by rw [hg]; exact (below_size (by repeat (first | (with_reducible first | exact HB.out | apply below_alloc | apply pw_below_drewN | apply below_drew1) | exact HB.out))) : w.heap.size ≤ gb103)); clear HB; have HB := n0_; have BK103 := n1_; have GW103 := n2_; have GE103 := n3_; clear n0_ n1_ n2_ n3_; clear hb hbox hg) | ((with_reducible refine gate_dst (N := 3) rfl ?_); refine box_event ?hg (N := 3) ?hd (cs := #[.bool a1_0, .string a1_1, .string a1_2, .int .u64 a1_3, .int .u64 a1_4, .int .u64 a1_5, .slice A1_6 l1_6.length c1_6]) (t := 70) ?hr ?_; (case hd => rfl); (case hg => rfl); (case hr => first | (go_simp; done) | (go_simp; rfl)); intro gb104 hg w17 hbox hb; have n0_ := aM' (blk_below (g := gb103) (o := .cells #[.bool a0_0, .string a0_1, .string a0_2, .int .u64 a0_3, .int .u64 a0_4, .int .u64 a0_5, .slice A0_6 l0_6.length c0_6] 70 (0, 0)) (by (with_reducible repeat (first | refine blk_drewN ?_ _ | refine blk_drew ?_ | refine blk_alloc ?_ _)); exact BK103.out) hb); have n1_ := aM' (below_step (by repeat (first | (with_reducible first | exact HB.out | apply below_alloc | apply pw_below_drewN | apply below_drew1 | refine below_set ?_ GE103.out) | exact HB.out)) hb); have n2_ := aM' (hbox); have n3_ := aM' ((by rw [hg]; exact (below_size (by repeat (first | (with_reducible first | exact HB.out | apply below_alloc | apply pw_below_drewN | apply below_drew1 | refine below_set ?_ GE103.out) | exact HB.out))) : w.heap.size ≤ gb104)); have n4_ := aM' ((by rw [hg]; exact (below_size (by repeat (first | (with_reducible first | exact HB.out | apply below_alloc | apply pw_below_drewN | apply below_drew1 | refine below_set ?_ GE103.out) | exact HB.out))) : w.heap.size ≤ gb104)); have n5_ := aM' ((by rw [hg]; exact Nat.ne_of_lt (blk_lt (g := gb103) (o := .cells #[.bool a0_0, .string a0_1, .string a0_2, .int .u64 a0_3, .int .u64 a0_4, .int .u64 a0_5, .slice A0_6 l0_6.length c0_6] 70 (0, 0)) (by (with_reducible repeat (first | refine blk_drewN ?_ _ | refine blk_drew ?_ | refine blk_alloc ?_ _)); exact BK103.out)) : gb103 ≠ gb104)); have n6_ := aM' ((by rw [hg]; exact Nat.ne_of_gt (blk_lt (g := gb103) (o := .cells #[.bool a0_0, .string a0_1, .string a0_2, .int .u64 a0_3, .int .u64 a0_4, .int .u64 a0_5, .slice A0_6 l0_6.length c0_6] 70 (0, 0)) (by (with_reducible repeat (first | refine blk_drewN ?_ _ | refine blk_drew ?_ | refine blk_alloc ?_ _)); exact BK103.out)) : gb104 ≠ gb103)); clear BK103; clear HB; have BK103 := n0_; have HB := n1_; have BK104 := n2_; have GW104 := n3_; have GE104 := n4_; have NB103_104 := n5_; have NB104_103 := n6_; clear n0_ n1_ n2_ n3_ n4_ n5_ n6_; clear hb hbox hg; have hnb18 := NB103_104.out; have hnc18 := NB104_103.out; have hcz19_0 : w17.cell? ⟨gb103, 0, none⟩ = some (.bool a0_0) := (blk_cell BK103.out 0).trans rfl; have hcz19_1 : w17.cell? ⟨gb103, 1, none⟩ = some (.string a0_1) := (blk_cell BK103.out 1).trans rfl; have hcz19_2 : w17.cell? ⟨gb103, 2, none⟩ = some (.string a0_2) := (blk_cell BK103.out 2).trans rfl; have hcz19_3 : w17.cell? ⟨gb103, 3, none⟩ = some (.int .u64 a0_3) := (blk_cell BK103.out 3).trans rfl; have hcz19_4 : w17.cell? ⟨gb103, 4, none⟩ = some (.int .u64 a0_4) := (blk_cell BK103.out 4).trans rfl; have hcz19_5 : w17.cell? ⟨gb103, 5, none⟩ = some (.int .u64 a0_5) := (blk_cell BK103.out 5).trans rfl; have hcz19_6 : w17.cell? ⟨gb103, 6, none⟩ = some (.slice A0_6 l0_6.length c0_6) := (blk_cell BK103.out 6).trans rfl; have hfz19_0 := blk_frozen BK103.out 0; have hfz19_1 := blk_frozen BK103.out 1; have hfz19_2 := blk_frozen BK103.out 2; have hfz19_3 := blk_frozen BK103.out 3; have hfz19_4 := blk_frozen BK103.out 4; have hfz19_5 := blk_frozen BK103.out 5; have hfz19_6 := blk_frozen BK103.out 6; have hcz20_0 : w17.cell? ⟨gb104, 0, none⟩ = some (.bool a1_0) := (blk_cell BK104.out 0).trans rfl; have hcz20_1 : w17.cell? ⟨gb104, 1, none⟩ = some (.string a1_1) := (blk_cell BK104.out 1).trans rfl; have hcz20_2 : w17.cell? ⟨gb104, 2, none⟩ = some (.string a1_2) := (blk_cell BK104.out 2).trans rfl; have hcz20_3 : w17.cell? ⟨gb104, 3, none⟩ = some (.int .u64 a1_3) := (blk_cell BK104.out 3).trans rfl; have hcz20_4 : w17.cell? ⟨gb104, 4, none⟩ = some (.int .u64 a1_4) := (blk_cell BK104.out 4).trans rfl; have hcz20_5 : w17.cell? ⟨gb104, 5, none⟩ = some (.int .u64 a1_5) := (blk_cell BK104.out 5).trans rfl; have hcz20_6 : w17.cell? ⟨gb104, 6, none⟩ = some (.slice A1_6 l1_6.length c1_6) := (blk_cell BK104.out 6).trans rfl; have hfz20_0 := blk_frozen BK104.out 0; have hfz20_1 := blk_frozen BK104.out 1; have hfz20_2 := blk_frozen BK104.out 2; have hfz20_3 := blk_frozen BK104.out 3; have hfz20_4 := blk_frozen BK104.out 4; have hfz20_5 := blk_frozen BK104.out 5; have hfz20_6 := blk_frozen BK104.out 6))
  go_ret
  exact ⟨by first | rfl | (simp [errW_none, errW_some] <;> rfl) | (simp [*, errW_none, errW_some] <;> rfl), by repeat (first | (with_reducible first | exact HB.out | apply below_alloc | apply pw_below_drewN | apply below_drew1 | refine below_set ?_ GE103.out | refine below_set ?_ GE104.out) | exact HB.out)⟩
end Go.Proofs.YtfcodmdckcihmaaDoor.P
namespace Go.Proofs.YtfcodmdckcihmaaDoor.P
open Go.RowKit Go.Proofs.YtfcodmdckcihmaaDoorW.PrintWords Go.Proofs.YtfcodmdckcihmaaDoorW.PrintLast Go.Proofs.YtfcodmdckcihmaaDoorW.PrintMore
attribute [local go_sem] max2_int min2_int max_two min_two max_three min_three max_four min_four-- for this text's walks alone
set_option linter.unusedVariables false
set_option linter.unusedSimpArgs false
structure SRoot where
 f0 : ByteArray
 f1 : SU128
 f2 : Int
structure SEntry where
 f0 : SLeaf
 f1 : SProof
end Go.Proofs.YtfcodmdckcihmaaDoor.P
namespace Go.Proofs.YtfcodmdckcihmaaDoor.P
open Go.RowKit Go.Proofs.YtfcodmdckcihmaaDoorW.PrintWords Go.Proofs.YtfcodmdckcihmaaDoorW.PrintLast Go.Proofs.YtfcodmdckcihmaaDoorW.PrintMore
set_option linter.unusedVariables false
set_option linter.unusedSimpArgs false
set_option linter.unnecessarySimpa false
abbrev dots : ByteArray := ⟨#[46, 95, 45]⟩
theorem dots_dec : ∀ k, k < 3 → ((Utf8.decode dots k).1 < 128 ∧ (Utf8.decode dots k).2 = 1) := by decide
set_option maxRecDepth 100000 in
set_option maxHeartbeats 1000000 in
theorem iRune_err (w : World) : Calls Tryd.prog 170 #[.string dots, .int .i32 65533] w fun e w' => e = .returned (.int .i64 (-1)) ∧ ∃ pos, w' = w.iter dots pos := by
 go_enter Tryd.func170, Tryd.ntmps170
 go_wp2
 go_loopw [] (fun w' => ∃ pos, pos ≤ 3 ∧ w' = w.iter dots pos) (fun w' => 3 - w'.iterPos w.heap.size)
 case atStart => exact ⟨0, by omega, rfl⟩
 case round =>
  obtain ⟨pos, hp, rfl⟩ := hrel
  by_cases hlt : pos < 3
  ·
   have hnx : ∀ ty, (Instr.next (.pointer (some ⟨w.heap.size, 0, none⟩)) true ty).run Tryd.prog (w.iter dots pos) = _ := fun ty => run_next_any w dots pos ty hlt
   obtain ⟨h1, h2⟩ := dots_dec pos hlt
   have b1 : (((Utf8.decode dots pos).1 : Int) == 65533) = false := by simp; omega
   clear h1
   go_wp2
   go_roundw
   case rel => exact ⟨pos + 1, by omega, rfl⟩
   case measure => simp; omega
  ·
   obtain rfl : pos = 3 := by omega
   have hnx : ∀ ty, (Instr.next (.pointer (some ⟨w.heap.size, 0, none⟩)) true ty).run Tryd.prog (w.iter dots 3) = _ := fun ty => run_next_end w dots 3 ty (by decide)
   go_wp2
   go_ret
   exact ⟨rfl, _, rfl⟩
theorem enc2 (r : Int) (hv : Utf8.valid r = true) (h1 : 128 ≤ r) (h2 : r < 2048) : ∃ a b : UInt8, Utf8.encode r = ⟨#[a, b]⟩ ∧ 128 ≤ b.toNat := by
 refine ⟨UInt8.ofNat (192 + r.toNat / 64), UInt8.ofNat (128 + r.toNat % 64), ?_, by simp; omega⟩
 simp only [Utf8.encode, hv, if_true]; rw [if_neg (by omega), if_pos (by omega)]
theorem enc3 (r : Int) (hv : Utf8.valid r = true) (h1 : 2048 ≤ r) (h2 : r < 65536) : ∃ a b c : UInt8, Utf8.encode r = ⟨#[a, b, c]⟩ ∧ 128 ≤ c.toNat := by
 refine ⟨UInt8.ofNat (224 + r.toNat / 4096), UInt8.ofNat (128 + r.toNat / 64 % 64), UInt8.ofNat (128 + r.toNat % 64), ?_, by simp; omega⟩
 simp only [Utf8.encode, hv, if_true]; rw [if_neg (by omega), if_neg (by omega), if_pos (by omega)]
theorem enc4 (r : Int) (hv : Utf8.valid r = true) (h1 : 65536 ≤ r) : ∃ a b c d : UInt8, Utf8.encode r = ⟨#[a, b, c, d]⟩ := by
 refine ⟨UInt8.ofNat (240 + r.toNat / 262144), UInt8.ofNat (128 + r.toNat / 4096 % 64), UInt8.ofNat (128 + r.toNat / 64 % 64), UInt8.ofNat (128 + r.toNat % 64), ?_⟩
 simp only [Utf8.encode, hv, if_true]; rw [if_neg (by omega), if_neg (by omega), if_neg (by omega)]
theorem valid_lib {r : Int} (hv : Utf8.valid r = true) : Lib.validRune r = true := by
 unfold Lib.validRune; unfold Utf8.valid at hv; simp only [Bool.or_eq_true, Bool.and_eq_true, decide_eq_true_eq] at hv; rw [decide_eq_true_eq]; omega
set_option maxRecDepth 100000 in
set_option maxHeartbeats 1000000 in
theorem iRune_2 (r : Int) (hv : Utf8.valid r = true) (h1 : 128 ≤ r) (h2 : r < 2048) (hne : r ≠ 65533) (w : World) : Calls Tryd.prog 170 #[.string dots, .int .i32 r] w fun e w' => e = .returned (.int .i64 (-1)) ∧ Below w.heap.size w w' := by
 obtain ⟨a, b, hrs, hb⟩ := enc2 r hv h1 h2
 have b1 : (r == 65533) = false := by simpa using hne
 have b2 : decide (0 ≤ r) = true := decide_eq_true (by omega)
 have b3 : decide (r < 128) = false := decide_eq_false (by omega)
 have hvr := valid_lib hv
 clear hne
 go_enter Tryd.func170, Tryd.ntmps170
 go_wp2_with (go_at_call 180; refine (Tryd.utf8_ValidRune r _).mono ?_; rw [hvr]; rintro e w' ⟨rfl, hw⟩; rw [hw])
 go_step3
 go_wp2
 refine wp_loop_rounds 1 ?_
 rw [rounds_succ]
 go_wp2
 go_step3
 go_wp2
 have e1 : (((dots[1]'(by decide)).toNat : Int) != (((⟨#[a, b]⟩ : ByteArray)[1]'(show 1 < 2 by decide)).toNat : Int)) = true := by
  show ((95 : Int) != (b.toNat : Int)) = true
  simp; omega
 go_quiet (fail)
 obtain ⟨W, hW⟩ : ∃ W, W = w.drewN nq := ⟨_, rfl⟩
 rw [← hW]
 have HW : Aside0 (Below w.heap.size w W) := ⟨by rw [hW]; exact pw_below_drewN (Below.refl _ _) _⟩
 clear hW
 go_wp2
 have w2 : IntKind.i64.wrap 2 = 2 := by decide
 go_quiet ((go_at_call 179; exact Calls.quiet_of_same (Tryd.strings_IndexByte _ _ _)))
 have e2 : Lib.indexByte (dots.extract 2 3).data.toList ((((⟨#[a, b]⟩ : ByteArray)[1]'(show 1 < 2 by decide)).toNat : Int).toNat.toUInt8) = -1 := by
  show (if (45 : UInt8) == b.toNat.toUInt8 then (0 : Int) else if Lib.indexByte [] b.toNat.toUInt8 == -1 then -1 else Lib.indexByte [] b.toNat.toUInt8 + 1) = -1
  rw [if_neg (by intro h; have := congrArg UInt8.toNat (eq_of_beq h); simp at this; omega)]
  rfl
 rw [e2]
 clear e1 e2 w2
 go_wp2
 rw [Exit.noGoto_ret]
 go_wp2
 rw [Exit.noGoto_ret]
 go_ret
 exact ⟨rfl, pw_below_drewN HW.out _⟩
set_option maxRecDepth 100000 in
set_option maxHeartbeats 1000000 in
theorem iRune_3 (r : Int) (hv : Utf8.valid r = true) (h1 : 2048 ≤ r) (h2 : r < 65536) (hne : r ≠ 65533) (w : World) : Calls Tryd.prog 170 #[.string dots, .int .i32 r] w fun e w' => e = .returned (.int .i64 (-1)) ∧ Below w.heap.size w w' := by
 obtain ⟨a, b, c, hrs, hb⟩ := enc3 r hv h1 h2
 have b1 : (r == 65533) = false := by simpa using hne
 have b2 : decide (0 ≤ r) = true := decide_eq_true (by omega)
 have b3 : decide (r < 128) = false := decide_eq_false (by omega)
 have hvr := valid_lib hv
 clear hne
 go_enter Tryd.func170, Tryd.ntmps170
 go_wp2_with (go_at_call 180; refine (Tryd.utf8_ValidRune r _).mono ?_; rw [hvr]; rintro e w' ⟨rfl, hw⟩; rw [hw])
 go_step3
 go_wp2
 refine wp_loop_rounds 1 ?_
 rw [rounds_succ]
 go_wp2
 go_step3
 go_wp2
 have e1 : (((dots[2]'(by decide)).toNat : Int) != (((⟨#[a, b, c]⟩ : ByteArray)[2]'(show 2 < 3 by decide)).toNat : Int)) = true := by
  show ((45 : Int) != (c.toNat : Int)) = true
  simp; omega
 go_quiet (fail)
 obtain ⟨W, hW⟩ : ∃ W, W = w.drewN nq := ⟨_, rfl⟩
 rw [← hW]
 have HW : Aside0 (Below w.heap.size w W) := ⟨by rw [hW]; exact pw_below_drewN (Below.refl _ _) _⟩
 clear hW
 go_wp2
 have w2 : IntKind.i64.wrap 3 = 3 := by decide
 go_quiet ((go_at_call 179; exact Calls.quiet_of_same (Tryd.strings_IndexByte _ _ _)))
 have e2 : Lib.indexByte ByteArray.empty.data.toList ((((⟨#[a, b, c]⟩ : ByteArray)[2]'(show 2 < 3 by decide)).toNat : Int).toNat.toUInt8) = -1 := by
  rfl
 rw [e2]
 clear e1 e2 w2
 go_wp2
 rw [Exit.noGoto_ret]
 go_wp2
 rw [Exit.noGoto_ret]
 go_ret
 exact ⟨rfl, pw_below_drewN HW.out _⟩
set_option maxRecDepth 100000 in
set_option maxHeartbeats 1000000 in
theorem iRune_4 (r : Int) (hv : Utf8.valid r = true) (h1 : 65536 ≤ r) (hne : r ≠ 65533) (w : World) : Calls Tryd.prog 170 #[.string dots, .int .i32 r] w fun e w' => e = .returned (.int .i64 (-1)) ∧ Below w.heap.size w w' := by
 obtain ⟨a, b, c, d, hrs⟩ := enc4 r hv h1
 have b1 : (r == 65533) = false := by simpa using hne
 have b2 : decide (0 ≤ r) = true := decide_eq_true (by omega)
 have b3 : decide (r < 128) = false := decide_eq_false (by omega)
 have hvr := valid_lib hv
 clear hne
 go_enter Tryd.func170, Tryd.ntmps170
 go_wp2_with (go_at_call 180; refine (Tryd.utf8_ValidRune r _).mono ?_; rw [hvr]; rintro e w' ⟨rfl, hw⟩; rw [hw])
 go_step3
 go_wp2
 refine wp_loop_rounds 1 ?_
 rw [rounds_succ]
 go_wp2
 rw [Exit.noGoto_ret]
 go_ret
 exact ⟨rfl, Below.refl _ _⟩
theorem below_iter (w : World) (s : ByteArray) (p : Nat) : Below w.heap.size w (w.iter s p) := below_alloc (Below.refl _ _) _
theorem iRune_high (r : Int) (hv : Utf8.valid r = true) (h1 : 128 ≤ r) (w : World) : Calls Tryd.prog 170 #[.string dots, .int .i32 r] w fun e w' => e = .returned (.int .i64 (-1)) ∧ Below w.heap.size w w' := by
 by_cases hne : r = 65533
 ·
  subst hne
  exact (iRune_err w).mono fun e w' ⟨h, p, hw⟩ => ⟨h, by rw [hw]; exact below_iter w _ _⟩
 ·
  by_cases h2 : r < 2048
  ·
   exact iRune_2 r hv h1 h2 hne w
  ·
   by_cases h3 : r < 65536
   ·
    exact iRune_3 r hv (by omega) h3 hne w
   ·
    exact iRune_4 r hv (by omega) hne w
def dotI (r : Int) : Bool := decide (r = 46 ∨ r = 95 ∨ r = 45)
theorem dots_at : ∀ k : Fin 128, decide (0 ≤ Lib.indexByte dots.data.toList ((k.val : Nat) : Int).toNat.toUInt8) = dotI ((k.val : Nat) : Int) := by decide
set_option maxHeartbeats 400000 in
theorem cRune_high (r : Int) (hv : Utf8.valid r = true) (h1 : 128 ≤ r) (w : World) : Calls Tryd.prog 157 #[.string dots, .int .i32 r] w fun e w' => e = .returned (.bool false) ∧ Below w.heap.size w w' := by
 go_enter Tryd.func157, Tryd.ntmps157
 go_wp2_with fail
 refine (iRune_high r hv h1 _).mono ?_
 rintro e w1 ⟨rfl, hb⟩
 have HB := aM' hb
 clear hb
 go_wp2
 go_ret
 exact ⟨rfl, HB.out⟩
def strings_ContainsRune.f (s : ByteArray) (r : Int) : Option Bool := if s = dots ∧ Utf8.valid r = true then some (dotI r) else none
theorem strings_ContainsRune.calls (s : ByteArray) (r : Int) (b : Bool) (w : World) (h : strings_ContainsRune.f s r = some b) :
  Calls Tryd.prog 157 #[.string s, .int .i32 r] w fun e w' => e = .returned (.bool b) ∧ Below w.heap.size w w' := by
 unfold strings_ContainsRune.f at h
 split at h
 ·
  rename_i hh
  obtain ⟨rfl, hv⟩ := hh
  obtain rfl := Option.some.inj h
  by_cases h1 : r < 128
  ·
   have h0 : 0 ≤ r := by unfold Utf8.valid at hv; simp only [Bool.or_eq_true, Bool.and_eq_true, decide_eq_true_eq] at hv; omega
   obtain ⟨k, rfl⟩ := Int.eq_ofNat_of_zero_le h0
   have h3 := dots_at ⟨k, by omega⟩
   refine (Tryd.strings_ContainsRune_ascii dots (k : Int) w h0 h1).mono ?_
   rintro e w' ⟨rfl, rfl⟩
   refine ⟨?_, Below.refl _ _⟩
   rw [show decide (0 ≤ Lib.indexByte dots.data.toList ((k : Nat) : Int).toNat.toUInt8) = dotI ((k : Nat) : Int) from h3]
  ·
   have e : dotI r = false := by unfold dotI; exact decide_eq_false (by omega)
   rw [e]
   exact cRune_high r hv (by omega) w
 ·
  cases h
end Go.Proofs.YtfcodmdckcihmaaDoor.P
namespace Go.Proofs.YtfcodmdckcihmaaDoor.P
open Go.RowKit Go.Proofs.YtfcodmdckcihmaaDoorW.PrintWords Go.Proofs.YtfcodmdckcihmaaDoorW.PrintLast Go.Proofs.YtfcodmdckcihmaaDoorW.PrintMore
attribute [local go_sem] max2_int min2_int max_two min_two max_three min_three max_four min_four-- for this text's walks alone
set_option linter.unusedVariables false
set_option linter.unusedSimpArgs false
def tag_within.f (a0 : Int) : Option (Bool) := if a0 ≥ 97 then (if a0 ≤ 122 then (some true) else (if a0 ≥ 65 then (if a0 ≤ 90 then (some true) else (if a0 ≥ 48 then (if a0 ≤ 57 then (some true) else ((strings_ContainsRune.f (⟨#[46, 95, 45]⟩ : ByteArray) a0).bind fun t101 => (if t101 = true then (some true) else (some (decide (a0 ≥ 161)))))) else ((strings_ContainsRune.f (⟨#[46, 95, 45]⟩ : ByteArray) a0).bind fun t102 => (if t102 = true then (some true) else (some (decide (a0 ≥ 161))))))) else (if a0 ≥ 48 then (if a0 ≤ 57 then (some true) else ((strings_ContainsRune.f (⟨#[46, 95, 45]⟩ : ByteArray) a0).bind fun t103 => (if t103 = true then (some true) else (some (decide (a0 ≥ 161)))))) else ((strings_ContainsRune.f (⟨#[46, 95, 45]⟩ : ByteArray) a0).bind fun t104 => (if t104 = true then (some true) else (some (decide (a0 ≥ 161)))))))) else (if a0 ≥ 65 then (if a0 ≤ 90 then (some true) else (if a0 ≥ 48 then (if a0 ≤ 57 then (some true) else ((strings_ContainsRune.f (⟨#[46, 95, 45]⟩ : ByteArray) a0).bind fun t105 => (if t105 = true then (some true) else (some (decide (a0 ≥ 161)))))) else ((strings_ContainsRune.f (⟨#[46, 95, 45]⟩ : ByteArray) a0).bind fun t106 => (if t106 = true then (some true) else (some (decide (a0 ≥ 161))))))) else (if a0 ≥ 48 then (if a0 ≤ 57 then (some true) else ((strings_ContainsRune.f (⟨#[46, 95, 45]⟩ : ByteArray) a0).bind fun t107 => (if t107 = true then (some true) else (some (decide (a0 ≥ 161)))))) else ((strings_ContainsRune.f (⟨#[46, 95, 45]⟩ : ByteArray) a0).bind fun t108 => (if t108 = true then (some true) else (some (decide (a0 ≥ 161)))))))
set_option maxHeartbeats 8000000 in
set_option maxRecDepth 100000 in
theorem tag_within.calls (a0 : Int) (r : Bool) (w : World) (h : tag_within.f a0 = some r) :
  Calls Tryd.prog 129 #[.int .i32 a0] w fun e w' => e = .returned (.bool r) ∧ Below w.heap.size w w' := by
 have HB := aM' (Below.refl w.heap.size w)
 have H : (if a0 ≥ 97 then (if a0 ≤ 122 then (some true) else (if a0 ≥ 65 then (if a0 ≤ 90 then (some true) else (if a0 ≥ 48 then (if a0 ≤ 57 then (some true) else ((strings_ContainsRune.f (⟨#[46, 95, 45]⟩ : ByteArray) a0).bind fun t101 => (if t101 = true then (some true) else (some (decide (a0 ≥ 161)))))) else ((strings_ContainsRune.f (⟨#[46, 95, 45]⟩ : ByteArray) a0).bind fun t102 => (if t102 = true then (some true) else (some (decide (a0 ≥ 161))))))) else (if a0 ≥ 48 then (if a0 ≤ 57 then (some true) else ((strings_ContainsRune.f (⟨#[46, 95, 45]⟩ : ByteArray) a0).bind fun t103 => (if t103 = true then (some true) else (some (decide (a0 ≥ 161)))))) else ((strings_ContainsRune.f (⟨#[46, 95, 45]⟩ : ByteArray) a0).bind fun t104 => (if t104 = true then (some true) else (some (decide (a0 ≥ 161)))))))) else (if a0 ≥ 65 then (if a0 ≤ 90 then (some true) else (if a0 ≥ 48 then (if a0 ≤ 57 then (some true) else ((strings_ContainsRune.f (⟨#[46, 95, 45]⟩ : ByteArray) a0).bind fun t105 => (if t105 = true then (some true) else (some (decide (a0 ≥ 161)))))) else ((strings_ContainsRune.f (⟨#[46, 95, 45]⟩ : ByteArray) a0).bind fun t106 => (if t106 = true then (some true) else (some (decide (a0 ≥ 161))))))) else (if a0 ≥ 48 then (if a0 ≤ 57 then (some true) else ((strings_ContainsRune.f (⟨#[46, 95, 45]⟩ : ByteArray) a0).bind fun t107 => (if t107 = true then (some true) else (some (decide (a0 ≥ 161)))))) else ((strings_ContainsRune.f (⟨#[46, 95, 45]⟩ : ByteArray) a0).bind fun t108 => (if t108 = true then (some true) else (some (decide (a0 ≥ 161)))))))) = some r := h
 clear h
 by_cases c2 : a0 ≥ 97
 ·
  rw [if_pos c2] at H
  have c2b0 : decide (97 ≤ a0) = true := decide_eq_true c2
  clear c2
  by_cases c3 : a0 ≤ 122
  ·
   rw [if_pos c3] at H
   have c3b0 : decide (a0 ≤ 122) = true := decide_eq_true c3
   clear c3
   obtain rfl := Option.some.inj H
   go_enter Tryd.func129, Tryd.ntmps129
   go_wp2
   go_ret
   exact ⟨by first | rfl | (simp [errW_none, errW_some] <;> rfl) | (simp [*, errW_none, errW_some] <;> rfl), by repeat (first | (with_reducible first | exact HB.out | apply below_alloc | apply pw_below_drewN | apply below_drew1) | exact HB.out)⟩
  ·
   rw [if_neg c3] at H
   have c3b0 : decide (a0 ≤ 122) = false := decide_eq_false c3
   clear c3
   by_cases c4 : a0 ≥ 65
   ·
    rw [if_pos c4] at H
    have c4b0 : decide (65 ≤ a0) = true := decide_eq_true c4
    clear c4
    by_cases c5 : a0 ≤ 90
    ·
     rw [if_pos c5] at H
     have c5b0 : decide (a0 ≤ 90) = true := decide_eq_true c5
     clear c5
     obtain rfl := Option.some.inj H
     go_enter Tryd.func129, Tryd.ntmps129
     go_wp2
     go_ret
     exact ⟨by first | rfl | (simp [errW_none, errW_some] <;> rfl) | (simp [*, errW_none, errW_some] <;> rfl), by repeat (first | (with_reducible first | exact HB.out | apply below_alloc | apply pw_below_drewN | apply below_drew1) | exact HB.out)⟩
    ·
     rw [if_neg c5] at H
     have c5b0 : decide (a0 ≤ 90) = false := decide_eq_false c5
     clear c5
     by_cases c6 : a0 ≥ 48
     ·
      rw [if_pos c6] at H
      have c6b0 : decide (48 ≤ a0) = true := decide_eq_true c6
      clear c6
      by_cases c7 : a0 ≤ 57
      ·
       rw [if_pos c7] at H
       have c7b0 : decide (a0 ≤ 57) = true := decide_eq_true c7
       clear c7
       obtain rfl := Option.some.inj H
       go_enter Tryd.func129, Tryd.ntmps129
       go_wp2
       go_ret
       exact ⟨by first | rfl | (simp [errW_none, errW_some] <;> rfl) | (simp [*, errW_none, errW_some] <;> rfl), by repeat (first | (with_reducible first | exact HB.out | apply below_alloc | apply pw_below_drewN | apply below_drew1) | exact HB.out)⟩
      ·
       rw [if_neg c7] at H
       have c7b0 : decide (a0 ≤ 57) = false := decide_eq_false c7
       clear c7
       replace H := Option.bind_eq_some_iff.mp H
       obtain ⟨t101, A80, H⟩ := H
       replace H : (if t101 = true then (some true) else (some (decide (a0 ≥ 161)))) = some r := H
       have A8 := aM' A80
       clear A80
       by_cases c9 : t101 = true
       ·
        subst c9
        have H1 : (some true) = some r := by rw [if_pos rfl] at H; exact H
        clear H
        have H := H1
        clear H1
        obtain rfl := Option.some.inj H
        go_enter Tryd.func129, Tryd.ntmps129
        go_wp2_with (first | (go_at_call 157; (with_reducible refine (strings_ContainsRune.calls (⟨#[46, 95, 45]⟩ : ByteArray) a0 true _ A8.out).mono ?_); rintro e w10 ⟨rfl, hb⟩; have n0_ := aM' (below_step (by repeat (first | (with_reducible first | exact HB.out | apply below_alloc | apply pw_below_drewN | apply below_drew1) | exact HB.out)) hb); clear HB; have HB := n0_; clear n0_; (try clear hb); (try clear hb2); (try clear hk); (try clear hi)))
        go_ret
        exact ⟨by first | rfl | (simp [errW_none, errW_some] <;> rfl) | (simp [*, errW_none, errW_some] <;> rfl), by repeat (first | (with_reducible first | exact HB.out | apply below_alloc | apply pw_below_drewN | apply below_drew1) | exact HB.out)⟩
       ·
        replace c9 := Bool.eq_false_iff.mpr c9
        subst c9
        have H1 : (some (decide (a0 ≥ 161))) = some r := by rw [if_neg (show ¬ (false = true) by decide)] at H; exact H
        clear H
        have H := H1
        clear H1
        obtain rfl := Option.some.inj H
        go_enter Tryd.func129, Tryd.ntmps129
        go_wp2_with (first | (go_at_call 157; (with_reducible refine (strings_ContainsRune.calls (⟨#[46, 95, 45]⟩ : ByteArray) a0 false _ A8.out).mono ?_); rintro e w11 ⟨rfl, hb⟩; have n0_ := aM' (below_step (by repeat (first | (with_reducible first | exact HB.out | apply below_alloc | apply pw_below_drewN | apply below_drew1) | exact HB.out)) hb); clear HB; have HB := n0_; clear n0_; (try clear hb); (try clear hb2); (try clear hk); (try clear hi)))
        go_ret
        exact ⟨by first | rfl | (simp [errW_none, errW_some] <;> rfl) | (simp [*, errW_none, errW_some] <;> rfl), by repeat (first | (with_reducible first | exact HB.out | apply below_alloc | apply pw_below_drewN | apply below_drew1) | exact HB.out)⟩
     ·
      rw [if_neg c6] at H
      have c6b0 : decide (48 ≤ a0) = false := decide_eq_false c6
      clear c6
      replace H := Option.bind_eq_some_iff.mp H
      obtain ⟨t102, A120, H⟩ := H
      replace H : (if t102 = true then (some true) else (some (decide (a0 ≥ 161)))) = some r := H
      have A12 := aM' A120
      clear A120
      by_cases c13 : t102 = true
      ·
       subst c13
       have H1 : (some true) = some r := by rw [if_pos rfl] at H; exact H
       clear H
       have H := H1
       clear H1
       obtain rfl := Option.some.inj H
       go_enter Tryd.func129, Tryd.ntmps129
       go_wp2_with (first | (go_at_call 157; (with_reducible refine (strings_ContainsRune.calls (⟨#[46, 95, 45]⟩ : ByteArray) a0 true _ A12.out).mono ?_); rintro e w14 ⟨rfl, hb⟩; have n0_ := aM' (below_step (by repeat (first | (with_reducible first | exact HB.out | apply below_alloc | apply pw_below_drewN | apply below_drew1) | exact HB.out)) hb); clear HB; have HB := n0_; clear n0_; (try clear hb); (try clear hb2); (try clear hk); (try clear hi)))
       go_ret
       exact ⟨by first | rfl | (simp [errW_none, errW_some] <;> rfl) | (simp [*, errW_none, errW_some] <;> rfl), by repeat (first | (with_reducible first | exact HB.out | apply below_alloc | apply pw_below_drewN | apply below_drew1) | exact HB.out)⟩
      ·
       replace c13 := Bool.eq_false_iff.mpr c13
       subst c13
       have H1 : (some (decide (a0 ≥ 161))) = some r := by rw [if_neg (show ¬ (false = true) by decide)] at H; exact H
       clear H
       have H := H1
       clear H1
       obtain rfl := Option.some.inj H
       go_enter Tryd.func129, Tryd.ntmps129
       go_wp2_with (first | (go_at_call 157; (with_reducible refine (strings_ContainsRune.calls (⟨#[46, 95, 45]⟩ : ByteArray) a0 false _ A12.out).mono ?_); rintro e w15 ⟨rfl, hb⟩; have n0_ := aM' (below_step (by repeat (first | (with_reducible first | exact HB.out | apply below_alloc | apply pw_below_drewN | apply below_drew1) | exact HB.out)) hb); clear HB; have HB := n0_; clear n0_; (try clear hb); (try clear hb2); (try clear hk); (try clear hi)))
       go_ret
       exact ⟨by first | rfl | (simp [errW_none, errW_some] <;> rfl) | (simp [*, errW_none, errW_some] <;> rfl), by repeat (first | (with_reducible first | exact HB.out | apply below_alloc | apply pw_below_drewN | apply below_drew1) | exact HB.out)⟩
   ·
    rw [if_neg c4] at H
    have c4b0 : decide (65 ≤ a0) = false := decide_eq_false c4
    clear c4
    by_cases c16 : a0 ≥ 48
    ·
     rw [if_pos c16] at H
     have c16b0 : decide (48 ≤ a0) = true := decide_eq_true c16
     clear c16
     by_cases c17 : a0 ≤ 57
     ·
      rw [if_pos c17] at H
      have c17b0 : decide (a0 ≤ 57) = true := decide_eq_true c17
      clear c17
      obtain rfl := Option.some.inj H
      go_enter Tryd.func129, Tryd.ntmps129
      go_wp2
      go_ret
      exact ⟨by first | rfl | (simp [errW_none, errW_some] <;> rfl) | (simp [*, errW_none, errW_some] <;> rfl), by repeat (first | (with_reducible first | exact HB.out | apply below_alloc | apply pw_below_drewN | apply below_drew1) | exact HB.out)⟩
     ·
      rw [if_neg c17] at H
      have c17b0 : decide (a0 ≤ 57) = false := decide_eq_false c17
      clear c17
      replace H := Option.bind_eq_some_iff.mp H
      obtain ⟨t103, A180, H⟩ := H
      replace H : (if t103 = true then (some true) else (some (decide (a0 ≥ 161)))) = some r := H
      have A18 := aM' A180
      clear A180
      by_cases c19 : t103 = true
      ·
       subst c19
       have H1 : (some true) = some r := by rw [if_pos rfl] at H; exact H
       clear H
       have H := H1
       clear H1
       obtain rfl := Option.some.inj H
       go_enter Tryd.func129, Tryd.ntmps129
       go_wp2_with (first | (go_at_call 157; (with_reducible refine (strings_ContainsRune.calls (⟨#[46, 95, 45]⟩ : ByteArray) a0 true _ A18.out).mono ?_); rintro e w20 ⟨rfl, hb⟩; have n0_ := aM' (below_step (by repeat (first | (with_reducible first | exact HB.out | apply below_alloc | apply pw_below_drewN | apply below_drew1) | exact HB.out)) hb); clear HB; have HB := n0_; clear n0_; (try clear hb); (try clear hb2); (try clear hk); (try clear hi)))
       go_ret
       exact ⟨by first | rfl | (simp [errW_none, errW_some] <;> rfl) | (simp [*, errW_none, errW_some] <;> rfl), by repeat (first | (with_reducible first | exact HB.out | apply below_alloc | apply pw_below_drewN | apply below_drew1) | exact HB.out)⟩
      ·
       replace c19 := Bool.eq_false_iff.mpr c19
       subst c19
       have H1 : (some (decide (a0 ≥ 161))) = some r := by rw [if_neg (show ¬ (false = true) by decide)] at H; exact H
       clear H
       have H := H1
       clear H1
       obtain rfl := Option.some.inj H
       go_enter Tryd.func129, Tryd.ntmps129
       go_wp2_with (first | (go_at_call 157; (with_reducible refine (strings_ContainsRune.calls (⟨#[46, 95, 45]⟩ : ByteArray) a0 false _ A18.out).mono ?_); rintro e w21 ⟨rfl, hb⟩; have n0_ := aM' (below_step (by repeat (first | (with_reducible first | exact HB.out | apply below_alloc | apply pw_below_drewN | apply below_drew1) | exact HB.out)) hb); clear HB; have HB := n0_; clear n0_; (try clear hb); (try clear hb2); (try clear hk); (try clear hi)))
       go_ret
       exact ⟨by first | rfl | (simp [errW_none, errW_some] <;> rfl) | (simp [*, errW_none, errW_some] <;> rfl), by repeat (first | (with_reducible first | exact HB.out | apply below_alloc | apply pw_below_drewN | apply below_drew1) | exact HB.out)⟩
    ·
     rw [if_neg c16] at H
     have c16b0 : decide (48 ≤ a0) = false := decide_eq_false c16
     clear c16
     replace H := Option.bind_eq_some_iff.mp H
     obtain ⟨t104, A220, H⟩ := H
     replace H : (if t104 = true then (some true) else (some (decide (a0 ≥ 161)))) = some r := H
     have A22 := aM' A220
     clear A220
     by_cases c23 : t104 = true
     ·
      subst c23
      have H1 : (some true) = some r := by rw [if_pos rfl] at H; exact H
      clear H
      have H := H1
      clear H1
      obtain rfl := Option.some.inj H
      go_enter Tryd.func129, Tryd.ntmps129
      go_wp2_with (first | (go_at_call 157; (with_reducible refine (strings_ContainsRune.calls (⟨#[46, 95, 45]⟩ : ByteArray) a0 true _ A22.out).mono ?_); rintro e w24 ⟨rfl, hb⟩; have n0_ := aM' (below_step (by repeat (first | (with_reducible first | exact HB.out | apply below_alloc | apply pw_below_drewN | apply below_drew1) | exact HB.out)) hb); clear HB; have HB := n0_; clear n0_; (try clear hb); (try clear hb2); (try clear hk); (try clear hi)))
      go_ret
      exact ⟨by first | rfl | (simp [errW_none, errW_some] <;> rfl) | (simp [*, errW_none, errW_some] <;> rfl), by repeat (first | (with_reducible first | exact HB.out | apply below_alloc | apply pw_below_drewN | apply below_drew1) | exact HB.out)⟩
     ·
      replace c23 := Bool.eq_false_iff.mpr c23
      subst c23
      have H1 : (some (decide (a0 ≥ 161))) = some r := by rw [if_neg (show ¬ (false = true) by decide)] at H; exact H
      clear H
      have H := H1
      clear H1
      obtain rfl := Option.some.inj H
      go_enter Tryd.func129, Tryd.ntmps129
      go_wp2_with (first | (go_at_call 157; (with_reducible refine (strings_ContainsRune.calls (⟨#[46, 95, 45]⟩ : ByteArray) a0 false _ A22.out).mono ?_); rintro e w25 ⟨rfl, hb⟩; have n0_ := aM' (below_step (by repeat (first | (with_reducible first | exact HB.out | apply below_alloc | apply pw_below_drewN | apply below_drew1) | exact HB.out)) hb); clear HB; have HB := n0_; clear n0_; (try clear hb); (try clear hb2); (try clear hk); (try clear hi)))
      go_ret
      exact ⟨by first | rfl | (simp [errW_none, errW_some] <;> rfl) | (simp [*, errW_none, errW_some] <;> rfl), by repeat (first | (with_reducible first | exact HB.out | apply below_alloc | apply pw_below_drewN | apply below_drew1) | exact HB.out)⟩
 ·
  rw [if_neg c2] at H
  have c2b0 : decide (97 ≤ a0) = false := decide_eq_false c2
  clear c2
  by_cases c26 : a0 ≥ 65
  ·
   rw [if_pos c26] at H
   have c26b0 : decide (65 ≤ a0) = true := decide_eq_true c26
   clear c26
   by_cases c27 : a0 ≤ 90
   ·
    rw [if_pos c27] at H
    have c27b0 : decide (a0 ≤ 90) = true := decide_eq_true c27
    clear c27
    obtain rfl := Option.some.inj H
    go_enter Tryd.func129, Tryd.ntmps129
    go_wp2
    go_ret
    exact ⟨by first | rfl | (simp [errW_none, errW_some] <;> rfl) | (simp [*, errW_none, errW_some] <;> rfl), by repeat (first | (with_reducible first | exact HB.out | apply below_alloc | apply pw_below_drewN | apply below_drew1) | exact HB.out)⟩
   ·
    rw [if_neg c27] at H
    have c27b0 : decide (a0 ≤ 90) = false := decide_eq_false c27
    clear c27
    by_cases c28 : a0 ≥ 48
    ·
     rw [if_pos c28] at H
     have c28b0 : decide (48 ≤ a0) = true := decide_eq_true c28
     clear c28
     by_cases c29 : a0 ≤ 57
     ·
      rw [if_pos c29] at H
      have c29b0 : decide (a0 ≤ 57) = true := decide_eq_true c29
      clear c29
      obtain rfl := Option.some.inj H
      go_enter Tryd.func129, Tryd.ntmps129
      go_wp2
      go_ret
      exact ⟨by first | rfl | (simp [errW_none, errW_some] <;> rfl) | (simp [*, errW_none, errW_some] <;> rfl), by repeat (first | (with_reducible first | exact HB.out | apply below_alloc | apply pw_below_drewN | apply below_drew1) | exact HB.out)⟩
     ·
      rw [if_neg c29] at H
      have c29b0 : decide (a0 ≤ 57) = false := decide_eq_false c29
      clear c29
      replace H := Option.bind_eq_some_iff.mp H
      obtain ⟨t105, A300, H⟩ := H
      replace H : (if t105 = true then (some true) else (some (decide (a0 ≥ 161)))) = some r := H
      have A30 := aM' A300
      clear A300
      by_cases c31 : t105 = true
      ·
       subst c31
       have H1 : (some true) = some r := by rw [if_pos rfl] at H; exact H
       clear H
       have H := H1
       clear H1
       obtain rfl := Option.some.inj H
       go_enter Tryd.func129, Tryd.ntmps129
       go_wp2_with (first | (go_at_call 157; (with_reducible refine (strings_ContainsRune.calls (⟨#[46, 95, 45]⟩ : ByteArray) a0 true _ A30.out).mono ?_); rintro e w32 ⟨rfl, hb⟩; have n0_ := aM' (below_step (by repeat (first | (with_reducible first | exact HB.out | apply below_alloc | apply pw_below_drewN | apply below_drew1) | exact HB.out)) hb); clear HB; have HB := n0_; clear n0_; (try clear hb); (try clear hb2); (try clear hk); (try clear hi)))
       go_ret
       exact ⟨by first | rfl | (simp [errW_none, errW_some] <;> rfl) | (simp [*, errW_none, errW_some] <;> rfl), by repeat (first | (with_reducible first | exact HB.out | apply below_alloc | apply pw_below_drewN | apply below_drew1) | exact HB.out)⟩
      ·
       replace c31 := Bool.eq_false_iff.mpr c31
       subst c31
       have H1 : (some (decide (a0 ≥ 161))) = some r := by rw [if_neg (show ¬ (false = true) by decide)] at H; exact H
       clear H
       have H := H1
       clear H1
       obtain rfl := Option.some.inj H
       go_enter Tryd.func129, Tryd.ntmps129
       go_wp2_with (first | (go_at_call 157; (with_reducible refine (strings_ContainsRune.calls (⟨#[46, 95, 45]⟩ : ByteArray) a0 false _ A30.out).mono ?_); rintro e w33 ⟨rfl, hb⟩; have n0_ := aM' (below_step (by repeat (first | (with_reducible first | exact HB.out | apply below_alloc | apply pw_below_drewN | apply below_drew1) | exact HB.out)) hb); clear HB; have HB := n0_; clear n0_; (try clear hb); (try clear hb2); (try clear hk); (try clear hi)))
       go_ret
       exact ⟨by first | rfl | (simp [errW_none, errW_some] <;> rfl) | (simp [*, errW_none, errW_some] <;> rfl), by repeat (first | (with_reducible first | exact HB.out | apply below_alloc | apply pw_below_drewN | apply below_drew1) | exact HB.out)⟩
    ·
     rw [if_neg c28] at H
     have c28b0 : decide (48 ≤ a0) = false := decide_eq_false c28
     clear c28
     replace H := Option.bind_eq_some_iff.mp H
     obtain ⟨t106, A340, H⟩ := H
     replace H : (if t106 = true then (some true) else (some (decide (a0 ≥ 161)))) = some r := H
     have A34 := aM' A340
     clear A340
     by_cases c35 : t106 = true
     ·
      subst c35
      have H1 : (some true) = some r := by rw [if_pos rfl] at H; exact H
      clear H
      have H := H1
      clear H1
      obtain rfl := Option.some.inj H
      go_enter Tryd.func129, Tryd.ntmps129
      go_wp2_with (first | (go_at_call 157; (with_reducible refine (strings_ContainsRune.calls (⟨#[46, 95, 45]⟩ : ByteArray) a0 true _ A34.out).mono ?_); rintro e w36 ⟨rfl, hb⟩; have n0_ := aM' (below_step (by repeat (first | (with_reducible first | exact HB.out | apply below_alloc | apply pw_below_drewN | apply below_drew1) | exact HB.out)) hb); clear HB; have HB := n0_; clear n0_; (try clear hb); (try clear hb2); (try clear hk); (try clear hi)))
      go_ret
      exact ⟨by first | rfl | (simp [errW_none, errW_some] <;> rfl) | (simp [*, errW_none, errW_some] <;> rfl), by repeat (first | (with_reducible first | exact HB.out | apply below_alloc | apply pw_below_drewN | apply below_drew1) | exact HB.out)⟩
     ·
      replace c35 := Bool.eq_false_iff.mpr c35
      subst c35
      have H1 : (some (decide (a0 ≥ 161))) = some r := by rw [if_neg (show ¬ (false = true) by decide)] at H; exact H
      clear H
      have H := H1
      clear H1
      obtain rfl := Option.some.inj H
      go_enter Tryd.func129, Tryd.ntmps129
      go_wp2_with (first | (go_at_call 157; (with_reducible refine (strings_ContainsRune.calls (⟨#[46, 95, 45]⟩ : ByteArray) a0 false _ A34.out).mono ?_); rintro e w37 ⟨rfl, hb⟩; have n0_ := aM' (below_step (by repeat (first | (with_reducible first | exact HB.out | apply below_alloc | apply pw_below_drewN | apply below_drew1) | exact HB.out)) hb); clear HB; have HB := n0_; clear n0_; (try clear hb); (try clear hb2); (try clear hk); (try clear hi)))
      go_ret
      exact ⟨by first | rfl | (simp [errW_none, errW_some] <;> rfl) | (simp [*, errW_none, errW_some] <;> rfl), by repeat (first | (with_reducible first | exact HB.out | apply below_alloc | apply pw_below_drewN | apply below_drew1) | exact HB.out)⟩
  ·
   rw [if_neg c26] at H
   have c26b0 : decide (65 ≤ a0) = false := decide_eq_false c26
   clear c26
   by_cases c38 : a0 ≥ 48
   ·
    rw [if_pos c38] at H
    have c38b0 : decide (48 ≤ a0) = true := decide_eq_true c38
    clear c38
    by_cases c39 : a0 ≤ 57
    ·
     rw [if_pos c39] at H
     have c39b0 : decide (a0 ≤ 57) = true := decide_eq_true c39
     clear c39
     obtain rfl := Option.some.inj H
     go_enter Tryd.func129, Tryd.ntmps129
     go_wp2
     go_ret
     exact ⟨by first | rfl | (simp [errW_none, errW_some] <;> rfl) | (simp [*, errW_none, errW_some] <;> rfl), by repeat (first | (with_reducible first | exact HB.out | apply below_alloc | apply pw_below_drewN | apply below_drew1) | exact HB.out)⟩
    ·
     rw [if_neg c39] at H
     have c39b0 : decide (a0 ≤ 57) = false := decide_eq_false c39
     clear c39
     replace H := Option.bind_eq_some_iff.mp H
     obtain ⟨t107, A400, H⟩ := H
     replace H : (if t107 = true then (some true) else (some (decide (a0 ≥ 161)))) = some r := H
     have A40 := aM' A400
     clear A400
     by_cases c41 : t107 = true
     ·
      subst c41
      have H1 : (some true) = some r := by rw [if_pos rfl] at H; exact H
      clear H
      have H := H1
      clear H1
      obtain rfl := Option.some.inj H
      go_enter Tryd.func129, Tryd.ntmps129
      go_wp2_with (first | (go_at_call 157; (with_reducible refine (strings_ContainsRune.calls (⟨#[46, 95, 45]⟩ : ByteArray) a0 true _ A40.out).mono ?_); rintro e w42 ⟨rfl, hb⟩; have n0_ := aM' (below_step (by repeat (first | (with_reducible first | exact HB.out | apply below_alloc | apply pw_below_drewN | apply below_drew1) | exact HB.out)) hb); clear HB; have HB := n0_; clear n0_; (try clear hb); (try clear hb2); (try clear hk); (try clear hi)))
      go_ret
      exact ⟨by first | rfl | (simp [errW_none, errW_some] <;> rfl) | (simp [*, errW_none, errW_some] <;> rfl), by repeat (first | (with_reducible first | exact HB.out | apply below_alloc | apply pw_below_drewN | apply below_drew1) | exact HB.out)⟩
     ·
      replace c41 := Bool.eq_false_iff.mpr c41
      subst c41
      have H1 : (some (decide (a0 ≥ 161))) = some r := by rw [if_neg (show ¬ (false = true) by decide)] at H; exact H
      clear H
      have H := H1
      clear H1
      obtain rfl := Option.some.inj H
      go_enter Tryd.func129, Tryd.ntmps129
      go_wp2_with (first | (go_at_call 157; (with_reducible refine (strings_ContainsRune.calls (⟨#[46, 95, 45]⟩ : ByteArray) a0 false _ A40.out).mono ?_); rintro e w43 ⟨rfl, hb⟩; have n0_ := aM' (below_step (by repeat (first | (with_reducible first | exact HB.out | apply below_alloc | apply pw_below_drewN | apply below_drew1) | exact HB.out)) hb); clear HB; have HB := n0_; clear n0_; (try clear hb); (try clear hb2); (try clear hk); (try clear hi)))
      go_ret
      exact ⟨by first | rfl | (simp [errW_none, errW_some] <;> rfl) | (simp [*, errW_none, errW_some] <;> rfl), by repeat (first | (with_reducible first | exact HB.out | apply below_alloc | apply pw_below_drewN | apply below_drew1) | exact HB.out)⟩
   ·
    rw [if_neg c38] at H
    have c38b0 : decide (48 ≤ a0) = false := decide_eq_false c38
    clear c38
    replace H := Option.bind_eq_some_iff.mp H
    obtain ⟨t108, A440, H⟩ := H
    replace H : (if t108 = true then (some true) else (some (decide (a0 ≥ 161)))) = some r := H
    have A44 := aM' A440
    clear A440
    by_cases c45 : t108 = true
    ·
     subst c45
     have H1 : (some true) = some r := by rw [if_pos rfl] at H; exact H
     clear H
     have H := H1
     clear H1
     obtain rfl := Option.some.inj H
     go_enter Tryd.func129, Tryd.ntmps129
     go_wp2_with (first | (go_at_call 157; (with_reducible refine (strings_ContainsRune.calls (⟨#[46, 95, 45]⟩ : ByteArray) a0 true _ A44.out).mono ?_); rintro e w46 ⟨rfl, hb⟩; have n0_ := aM' (below_step (by repeat (first | (with_reducible first | exact HB.out | apply below_alloc | apply pw_below_drewN | apply below_drew1) | exact HB.out)) hb); clear HB; have HB := n0_; clear n0_; (try clear hb); (try clear hb2); (try clear hk); (try clear hi)))
     go_ret
     exact ⟨by first | rfl | (simp [errW_none, errW_some] <;> rfl) | (simp [*, errW_none, errW_some] <;> rfl), by repeat (first | (with_reducible first | exact HB.out | apply below_alloc | apply pw_below_drewN | apply below_drew1) | exact HB.out)⟩
    ·
     replace c45 := Bool.eq_false_iff.mpr c45
     subst c45
     have H1 : (some (decide (a0 ≥ 161))) = some r := by rw [if_neg (show ¬ (false = true) by decide)] at H; exact H
     clear H
     have H := H1
     clear H1
     obtain rfl := Option.some.inj H
     go_enter Tryd.func129, Tryd.ntmps129
     go_wp2_with (first | (go_at_call 157; (with_reducible refine (strings_ContainsRune.calls (⟨#[46, 95, 45]⟩ : ByteArray) a0 false _ A44.out).mono ?_); rintro e w47 ⟨rfl, hb⟩; have n0_ := aM' (below_step (by repeat (first | (with_reducible first | exact HB.out | apply below_alloc | apply pw_below_drewN | apply below_drew1) | exact HB.out)) hb); clear HB; have HB := n0_; clear n0_; (try clear hb); (try clear hb2); (try clear hk); (try clear hi)))
     go_ret
     exact ⟨by first | rfl | (simp [errW_none, errW_some] <;> rfl) | (simp [*, errW_none, errW_some] <;> rfl), by repeat (first | (with_reducible first | exact HB.out | apply below_alloc | apply pw_below_drewN | apply below_drew1) | exact HB.out)⟩
end Go.Proofs.YtfcodmdckcihmaaDoor.P
namespace Go.Proofs
open Go.Shelf
shelf_try shelf_lay Lays.n196 Nm 196 at Tryd as Tryd.laysValid
shelf_try open Go.RowKit in
theorem Tryd.utf8_ValidString (s : ByteArray) (w : World) (hs : s.size ≤ 9223372036854775807) (hT : Lib.Utf8Tabs (Tryd.laysValid_ren.g 3) (Tryd.laysValid_ren.g 4) w) :
  Calls Tryd.prog 128 #[.string s] w fun e w' => e = .returned (.bool (Lib.validD s.data.toList)) ∧ Below w.heap.size w w' := Any.utf8_ValidString Tryd.laysValid s w hs hT
shelf_try #print axioms Tryd.utf8_ValidString
shelf_tried
end Go.Proofs
namespace Go.Proofs.YtfcodmdckcihmaaDoor.P
open Go.RowKit Go.Proofs.YtfcodmdckcihmaaDoorW.PrintWords Go.Proofs.YtfcodmdckcihmaaDoorW.PrintLast Go.Proofs.YtfcodmdckcihmaaDoorW.PrintMore
set_option linter.unusedVariables false
set_option linter.unusedSimpArgs false
set_option linter.unnecessarySimpa false
def Tabs (w : World) : Prop := Lib.Utf8Tabs (Tryd.laysValid_ren.g 3) (Tryd.laysValid_ren.g 4) w
def LaidT (w : World) : Prop := Laid w ∧ Tabs w
theorem LaidT.below {w w1 : World} (h : LaidT w) (hb : Below w.heap.size w w1) : LaidT w1 := ⟨h.1.below hb, Utf8Tabs_below h.2 hb⟩
abbrev laid3 : List (String × DataW Unit) := [("paymaster/block.constants", Rows.laid_paymaster_block_constants), ("unicode/utf8.acceptRanges", Rows.laid_unicode_utf8_acceptRanges), ("unicode/utf8.first", Rows.laid_unicode_utf8_first)]
theorem kConst_of_reads {w : World} (h : Lib.VarReads Tryd.prog w "paymaster/block.constants" Rows.laid_paymaster_block_constants) : Laid w := by
 obtain ⟨g, t, cs, fuel, p, hg, ht, hv, htr⟩ := h
 obtain rfl : g = 3 := Option.some.inj (hg.symm.trans kGlobal)
 obtain rfl : t = 254 := Option.some.inj (ht.symm.trans kGlobalType)
 have e : Rows.laid_paymaster_block_constants = Lib.tabData (H := Unit) .u32 kConst := by rfl
 rw [e] at htr
 have hc := Lib.cells_of_tab Tryd.underlying254 Tryd.underlying166 (by kernel_rfl) (by kernel_rfl) htr
 intro i hi
 rw [World.var?_cell kGlobal hv i]
 have hl : i < kConst.length := hi
 rw [← Array.getElem?_toList, hc, List.getElem?_map, List.getElem?_eq_getElem hl]
 simp [List.getD, List.getElem?_eq_getElem hl]
theorem accept_data : Rows.laid_unicode_utf8_acceptRanges = Lib.acceptData := by kernel_rfl
theorem first_data : Rows.laid_unicode_utf8_first = Lib.firstData := by kernel_rfl
theorem laidT_of_met {w : World} (h : laidMetH Tryd.prog laid3 w) : LaidT w := by
 have h : laidMet Tryd.prog laid3 w := h
 refine ⟨kConst_of_reads (Lib.laidMet.reads h (.head _)), ?_⟩
 have h1 := Lib.laidMet.reads h (.tail _ (.head _))
 have h2 := Lib.laidMet.reads h (.tail _ (.tail _ (.head _)))
 rw [accept_data] at h1
 rw [first_data] at h2
 exact utf8Tabs_of_readsT (U8Types.of196 Tryd.laysValid) ⟨by kernel_rfl, by kernel_rfl, by kernel_rfl, by kernel_rfl, by kernel_rfl, by kernel_rfl, by kernel_rfl⟩ h2 h1
noncomputable def laidWorldT (os : Os) : World := World.laidAll Tryd.prog os laid3
theorem laidWorldT_met (os : Os) (args : Array Value) : laidMetH Tryd.prog laid3 ((laidWorldT os).forCall (fun _ _ => 0) ⟨#[], args, []⟩).memory := laidMet_laidAll args (by kernel_rfl) (by kernel_rfl)
end Go.Proofs.YtfcodmdckcihmaaDoor.P
namespace Go.Proofs.YtfcodmdckcihmaaDoor.P
open Go.RowKit Go.Proofs.YtfcodmdckcihmaaDoorW.PrintWords Go.Proofs.YtfcodmdckcihmaaDoorW.PrintLast Go.Proofs.YtfcodmdckcihmaaDoorW.PrintMore
set_option linter.unusedVariables false
set_option linter.unusedSimpArgs false
set_option linter.unnecessarySimpa false
def runeOf (d : Nat × Nat) : Int × Int := if d.1 = 65533 ∧ d.2 = 1 then (0, 0) else ((d.1 : Int), (d.2 : Int))
def runeI (s : ByteArray) (i : Nat) : Int × Int := runeOf (Utf8.decode s i)
theorem get_nat (s : ByteArray) (i : Nat) (h : i < s.size) : s.get! i = s[i]'h := by simp [ByteArray.get!, getElem!_pos, h]; rfl
def contI (s : ByteArray) (i : Nat) : Prop := i < s.size ∧ (s.get! i).toNat / 64 = 2
instance (s : ByteArray) (i : Nat) : Decidable (contI s i) := by unfold contI; infer_instance
theorem valid_nat (c : Nat) : (Utf8.valid (c : Int) = true) ↔ c < 55296 ∨ (57344 ≤ c ∧ c ≤ 1114111) := by
 unfold Utf8.valid; simp; omega
def withinI (c : Int) : Bool := decide (97 ≤ c ∧ c ≤ 122) || (decide (65 ≤ c ∧ c ≤ 90) || (decide (48 ≤ c ∧ c ≤ 57) || (decide (c = 46 ∨ c = 95 ∨ c = 45) || decide (161 ≤ c))))
theorem withinI_iff (c : Int) : withinI c = true ↔ (97 ≤ c ∧ c ≤ 122) ∨ (65 ≤ c ∧ c ≤ 90) ∨ (48 ≤ c ∧ c ≤ 57) ∨ (c = 46 ∨ c = 95 ∨ c = 45) ∨ 161 ≤ c := by
 simp only [withinI, Bool.or_eq_true, decide_eq_true_eq]
theorem withinI_t {c : Int} (h : (97 ≤ c ∧ c ≤ 122) ∨ (65 ≤ c ∧ c ≤ 90) ∨ (48 ≤ c ∧ c ≤ 57) ∨ (c = 46 ∨ c = 95 ∨ c = 45) ∨ 161 ≤ c) : some true = some (withinI c) := by rw [(withinI_iff c).2 h]
theorem withinI_d {c : Int} (h : ¬ ((97 ≤ c ∧ c ≤ 122) ∨ (65 ≤ c ∧ c ≤ 90) ∨ (48 ≤ c ∧ c ≤ 57) ∨ (c = 46 ∨ c = 95 ∨ c = 45))) : some (decide (c ≥ 161)) = some (withinI c) := by
 congr 1
 rw [Bool.eq_iff_iff, decide_eq_true_eq, withinI_iff]; omega
def idFrom (s : ByteArray) : Nat → Nat → Nat → Bool
 | 0, n, _ => decide (1 ≤ n) && decide (n ≤ 24)
 | b + 1, n, i => if i < s.size then (if (runeI s i).2 = 0 then false else if withinI (runeI s i).1 = true then idFrom s b (n + 1) (i + (Utf8.decode s i).2) else false) else decide (1 ≤ n) && decide (n ≤ 24)
def mayIdI (s : ByteArray) : Bool := idFrom s s.size 0 0
theorem runeI_2 (s : ByteArray) (i : Nat) (hi : i < s.size) : (runeI s i).2 = 0 ∨ (runeI s i).2 = ((Utf8.decode s i).2 : Int) := by
 unfold runeI runeOf; split
 ·
  exact .inl rfl
 ·
  exact .inr rfl
theorem decode_4 (s : ByteArray) (i : Nat) : (Utf8.decode s i).2 ≤ 4 := by
 simp only [Utf8.decode]
 repeat' split
 all_goals simp
theorem decode_congr (a b : ByteArray) (i j : Nat) (hg : ∀ k, k < 4 → a.get! (i + k) = b.get! (j + k)) (hs : ∀ k, k < 4 → (i + k < a.size ↔ j + k < b.size)) : Utf8.decode a i = Utf8.decode b j := by
 simp only [Utf8.decode, hg 0 (by decide), hg 1 (by decide), hg 2 (by decide), hg 3 (by decide), decide_eq_decide.2 (hs 1 (by decide)), decide_eq_decide.2 (hs 2 (by decide)), decide_eq_decide.2 (hs 3 (by decide))]
theorem get_list (s : ByteArray) (i : Nat) : s.get! i = s.data.toList.getD i 0 := by
 by_cases h : i < s.size
 ·
  rw [get_nat s i h, List.getD_eq_getElem?_getD, List.getElem?_eq_getElem (by simpa using h)]; rfl
 ·
  rw [List.getD_eq_getElem?_getD, List.getElem?_eq_none (by simpa using h)]
  have h2 : s.data[i]? = none := Array.getElem?_eq_none (Nat.not_lt.1 h)
  simp [ByteArray.get!, getElem!_def, h2]; rfl
theorem decodeL_drop (s : ByteArray) (i : Nat) (hi : i ≤ s.size) : Lib.decodeL (s.data.toList.drop i) = Utf8.decode s i := by
 unfold Lib.decodeL
 refine decode_congr _ _ _ _ (fun k _ => ?_) (fun k _ => ?_)
 ·
  rw [get_list, get_list, List.getD_eq_getElem?_getD, List.getD_eq_getElem?_getD]
  show (s.data.toList.drop i)[0 + k]?.getD 0 = _
  rw [List.getElem?_drop, Nat.zero_add]
 ·
  have e : (⟨(s.data.toList.drop i).toArray⟩ : ByteArray).size = s.size - i := by
   show (s.data.toList.drop i).toArray.size = _
   rw [List.size_toArray, List.length_drop]; rfl
  rw [e]; omega
def validFrom (s : ByteArray) : Nat → Nat → Bool
 | 0, _ => true
 | b + 1, i => if i < s.size then (if (runeI s i).2 = 0 then false else validFrom s b (i + (Utf8.decode s i).2)) else true
theorem validFrom_eq (s : ByteArray) : ∀ b i : Nat, i ≤ s.size + 4 → Lib.validGoD b (s.data.toList.drop i) = validFrom s b i
 | 0, _, _ => rfl
 | b + 1, i, h => by
  unfold Lib.validGoD validFrom
  by_cases hi : i < s.size
  ·
   have hl : i < s.data.toList.length := by simpa using hi
   rw [if_neg (by rw [List.drop_eq_nil_iff]; omega), if_pos hi, decodeL_drop s i (by omega), List.drop_drop]
   have h4 := decode_4 s i
   by_cases hb : (Utf8.decode s i).1 = 65533 ∧ (Utf8.decode s i).2 = 1
   ·
    rw [if_pos hb, if_pos (by unfold runeI runeOf; rw [if_pos hb])]
   ·
    have hw := Lib.decode_width_pos s i hi
    rw [if_neg hb, if_neg (by unfold runeI runeOf; rw [if_neg hb]; dsimp only; omega)]
    by_cases h5 : i + (Utf8.decode s i).2 ≤ s.size + 4
    ·
     exact validFrom_eq s b _ h5
    ·
     omega
  ·
   rw [if_pos (by rw [List.drop_eq_nil_iff]; simp; exact Nat.not_lt.1 hi), if_neg hi]
def allFrom (s : ByteArray) : Nat → Nat → Bool
 | 0, _ => true
 | b + 1, i => if i < s.size then (withinI (Utf8.decode s i).1 && allFrom s b (i + (Utf8.decode s i).2)) else true
theorem allFrom_end (s : ByteArray) (b i : Nat) (h : ¬ i < s.size) : allFrom s b i = true := by
 cases b with
 | zero => rfl
 | succ b => unfold allFrom; rw [if_neg h]
theorem idFrom_eq (s : ByteArray) : ∀ b n i : Nat, s.size ≤ i + b → idFrom s b n i = ((decide (1 ≤ n + Lib.runeCountFrom s b i) && decide (n + Lib.runeCountFrom s b i ≤ 24)) && (validFrom s b i && allFrom s b i))
 | b, n, i, hb => by
  by_cases hi : i < s.size
  ·
   obtain ⟨b, rfl⟩ : ∃ c, b = c + 1 := ⟨b - 1, by omega⟩
   have hw := Lib.decode_width_pos s i hi
   unfold idFrom validFrom allFrom Lib.runeCountFrom
   rw [if_pos hi, if_pos hi, if_pos hi, if_pos hi]
   by_cases h0 : (runeI s i).2 = 0
   ·
    rw [if_pos h0, if_pos h0]; simp
   ·
    rw [if_neg h0, if_neg h0]
    have e1 : (runeI s i).1 = ((Utf8.decode s i).1 : Int) := by
     unfold runeI runeOf at h0 ⊢
     split at h0
     ·
      exact absurd rfl h0
     ·
      rename_i h; rw [if_neg h]
    rw [e1, idFrom_eq s b (n + 1) _ (by omega), show n + 1 + Lib.runeCountFrom s b (i + (Utf8.decode s i).2) = n + (1 + Lib.runeCountFrom s b (i + (Utf8.decode s i).2)) by omega]
    cases withinI ((Utf8.decode s i).1 : Int) <;> simp
  ·
   have e : idFrom s b n i = (decide (1 ≤ n) && decide (n ≤ 24)) := by
    cases b with
    | zero => rfl
    | succ b => unfold idFrom; rw [if_neg hi]
   have e2 : validFrom s b i = true := by
    cases b with
    | zero => rfl
    | succ b => unfold validFrom; rw [if_neg hi]
   rw [e, e2, allFrom_end s b i hi, Lib.runeCountFrom_end s b i hi]; simp
theorem mayIdI_eq (s : ByteArray) : mayIdI s = ((decide (1 ≤ Lib.runeCount s) && decide (Lib.runeCount s ≤ 24)) && (Lib.validD s.data.toList && allFrom s s.size 0)) := by
 unfold mayIdI Lib.runeCount Lib.validD
 rw [idFrom_eq s s.size 0 0 (by omega), Nat.zero_add]
 have := validFrom_eq s s.size 0 (by omega)
 rw [List.drop_zero] at this
 rw [show s.data.toList.length = s.size by simp, this]
end Go.Proofs.YtfcodmdckcihmaaDoor.P
namespace Go.Proofs.YtfcodmdckcihmaaDoor.P
open Go.RowKit Go.Proofs.YtfcodmdckcihmaaDoorW.PrintWords Go.Proofs.YtfcodmdckcihmaaDoorW.PrintLast Go.Proofs.YtfcodmdckcihmaaDoorW.PrintMore
set_option linter.unusedVariables false
set_option linter.unusedSimpArgs false
set_option linter.unnecessarySimpa false
theorem tagWithin_eq (c : Int) (hv : Utf8.valid c = true) : tag_within.f c = some (withinI c) := by
 have e : strings_ContainsRune.f (⟨#[46, 95, 45]⟩ : ByteArray) c = some (dotI c) := by unfold strings_ContainsRune.f; rw [if_pos ⟨rfl, hv⟩]
 have hd : dotI c = true ↔ (c = 46 ∨ c = 95 ∨ c = 45) := by simp only [dotI, decide_eq_true_eq]
 unfold tag_within.f
 simp only [e, Option.bind_some]
 repeat' split
 all_goals first | exact withinI_t (by omega) | (rename_i h; rw [hd] at h; first | exact withinI_t (by omega) | exact withinI_d (by omega))
theorem decode_valid (s : ByteArray) (i : Nat) (hi : i < s.size) : Utf8.valid ((Utf8.decode s i).1 : Int) = true := by
 obtain ⟨B, hB⟩ : ∃ B, (s.get! i).toNat = B := ⟨_, rfl⟩
 have hb : B < 256 := by rw [← hB]; exact (s.get! i).toNat_lt
 have h1 := (s.get! (i + 1)).toNat_lt
 have h2 := (s.get! (i + 2)).toNat_lt
 rw [valid_nat]
 simp only [Utf8.decode, Nat.add_zero, hB, valid_nat, Utf8.runeError, Bool.and_eq_true, decide_eq_true_eq, beq_iff_eq]
 repeat' split
 all_goals (try dsimp only)
 all_goals omega
theorem iterPos_at {w : World} {k : Nat} {s : ByteArray} {p : Nat} (h : w.heap[k]? = some (.stringIter s p)) : w.iterPos k = p := by unfold World.iterPos; rw [h]
set_option maxRecDepth 100000 in
set_option maxHeartbeats 1000000 in
theorem mayId.calls (s : ByteArray) (hs : s.size ≤ 1000000) (w : World) (hK : LaidT w) : Calls Tryd.prog 94 #[.string s] w fun e w' => e = .returned (.bool (mayIdI s)) ∧ Below w.heap.size w w' := by
 have HK := aM' hK
 have HS := aM' hs
 have HE := aM' (mayIdI_eq s)
 clear hK hs
 have hrc : (Lib.runeCount s : Int) ≤ 1000000 := by have := Lib.runeCount_le s; have := HS.out; omega
 have hr0 : (0 : Int) ≤ (Lib.runeCount s : Int) := by omega
 obtain ⟨n, hn⟩ : ∃ n, Lib.runeCount s = n := ⟨_, rfl⟩
 rw [hn] at hrc hr0
 go_enter Tryd.func94, Tryd.ntmps94
 go_wp2_with fail
 refine (Tryd.utf8_RuneCountInString s _ (by have := HS.out; omega)).mono ?_
 rw [hn]
 have HN := aM' hn
 clear hn
 rintro e w1 ⟨rfl, pos, hw1⟩
 have HB := aM' (show Below w.heap.size w w1 by rw [hw1]; exact below_iter w _ _)
 clear hw1
 by_cases h1 : 1 ≤ n
 ·
  by_cases h2 : n ≤ 24
  ·
   have b1 : decide ((n : Int) < 1) = false := decide_eq_false (by omega)
   have b2 : decide ((24 : Int) < (n : Int)) = false := decide_eq_false (by omega)
   go_wp2_with fail
   refine (Tryd.utf8_ValidString s _ (by have := HS.out; omega) (HK.out.below HB.out).2).mono ?_
   rintro e w2 ⟨rfl, hb⟩
   have HB2 := aM' (HB.out.trans (hb.mono HB.out.size))
   clear hb
   cases hv : Lib.validD s.data.toList with
   | false =>
    have HV := aM' hv
    clear hv
    go_wp2
    go_ret
    exact ⟨by rw [HE.out, HV.out]; simp, HB2.out⟩
   | true =>
    have HV := aM' hv
    clear hv
    go_wp2
    clear hrc hr0 b1 b2
    go_loopw [] (fun wr => ∃ pos fuel : Nat, Aside0 (wr.heap[w2.heap.size]? = some (.stringIter s pos)) ∧ Aside0 (Below w2.heap.size w2 wr) ∧ Aside0 (allFrom s fuel pos = allFrom s s.size 0) ∧ s.size ≤ pos + fuel) (fun wr => s.size - wr.iterPos w2.heap.size)
    case atStart => exact ⟨0, s.size, ⟨World.iter_heap w2 s 0⟩, ⟨below_iter w2 s 0⟩, ⟨rfl⟩, by omega⟩
    case round =>
     obtain ⟨pos, fuel, HIT, HBW, HA, hf⟩ := hrel
     by_cases hp : pos < s.size
     ·
      have hnx : ∀ ty, (Instr.next (.pointer (some ⟨w2.heap.size, 0, none⟩)) true ty).run Tryd.prog wr = _ := fun ty => Lib.run_next_any_at wr w2.heap.size s pos ty HIT.out hp
      have hwd := Lib.decode_width_pos s pos hp
      obtain ⟨fuel, rfl⟩ : ∃ f', fuel = f' + 1 := ⟨fuel - 1, by omega⟩
      have HP0 := aM' (iterPos_at HIT.out)
      have HIT2 := aM' (Lib.iterAt_heap wr w2.heap.size s pos (pos + (Utf8.decode s pos).2) HIT.out)
      have HBW2 := aM' (Lib.below_iterAt HBW.out (k := w2.heap.size) (Nat.le_refl _) s (pos + (Utf8.decode s pos).2))
      obtain ⟨W1, hW1⟩ : ∃ W1, W1 = wr.iterAt w2.heap.size s (pos + (Utf8.decode s pos).2) := ⟨_, rfl⟩
      rw [← hW1] at hnx HIT2 HBW2
      have HWI := aM' (tagWithin_eq ((Utf8.decode s pos).1 : Int) (decode_valid s pos hp))
      have HA2 := aM' (show (withinI ((Utf8.decode s pos).1 : Int) && allFrom s fuel (pos + (Utf8.decode s pos).2)) = allFrom s s.size 0 by rw [← HA.out]; conv => rhs; unfold allFrom; rw [if_pos hp])
      clear hW1 HIT HBW HA
      go_wp2_with fail
      refine (tag_within.calls _ (withinI ((Utf8.decode s pos).1 : Int)) _ HWI.out).mono ?_
      rintro e w3 ⟨rfl, hb⟩
      have HIT3 := aM' (blk_below HIT2.out hb)
      have HBW3 := aM' (HBW2.out.trans (hb.mono HBW2.out.size))
      have HP3 := aM' (iterPos_at HIT3.out)
      clear hb
      cases hw : withinI ((Utf8.decode s pos).1 : Int) with
      | true =>
       have HWT := aM' hw
       clear hw
       go_wp2
       go_roundw
       case rel => exact ⟨_, fuel, HIT3, HBW3, ⟨by rw [← HA2.out, HWT.out, Bool.true_and]⟩, by omega⟩
       case measure => rw [HP3.out, HP0.out]; omega
      | false =>
       have HWT := aM' hw
       clear hw
       go_wp2
       go_ret
       exact ⟨by rw [HE.out, ← HA2.out, HWT.out]; simp, HB2.out.trans (HBW3.out.mono HB2.out.size)⟩
     ·
      have hnx : ∀ ty, (Instr.next (.pointer (some ⟨w2.heap.size, 0, none⟩)) true ty).run Tryd.prog wr = _ := fun ty => Lib.run_next_end_at wr w2.heap.size s pos ty HIT.out hp
      have HE2 := aM' (show allFrom s s.size 0 = true by rw [← HA.out]; exact allFrom_end s fuel pos hp)
      go_wp2
      go_ret
      exact ⟨by rw [HE.out, HN.out, HV.out, HE2.out, decide_eq_true h1, decide_eq_true h2]; rfl, HB2.out.trans (HBW.out.mono HB2.out.size)⟩
  ·
   have b1 : decide ((n : Int) < 1) = false := decide_eq_false (by omega)
   have b2 : decide ((24 : Int) < (n : Int)) = true := decide_eq_true (by omega)
   go_wp2
   go_ret
   exact ⟨by rw [HE.out, HN.out, decide_eq_false h2]; simp, HB.out⟩
 ·
  have b1 : decide ((n : Int) < 1) = true := decide_eq_true (by omega)
  go_wp2
  go_ret
  exact ⟨by rw [HE.out, HN.out, decide_eq_false h1]; simp, HB.out⟩
def tag_MayId.f (s : ByteArray) : Option Bool := if s.size ≤ 1000000 then some (mayIdI s) else none
theorem tag_MayId.calls (s : ByteArray) (b : Bool) (w : World) (hK : LaidT w) (h : tag_MayId.f s = some b) :
  Calls Tryd.prog 94 #[.string s] w fun e w' => e = .returned (.bool b) ∧ Below w.heap.size w w' := by
 unfold tag_MayId.f at h
 split at h
 ·
  rename_i hh
  obtain rfl := Option.some.inj h
  exact mayId.calls s hh w hK
 ·
  cases h
end Go.Proofs.YtfcodmdckcihmaaDoor.P
namespace Go.Proofs.YtfcodmdckcihmaaDoor.P
open Go.RowKit Go.Proofs.YtfcodmdckcihmaaDoorW.PrintWords Go.Proofs.YtfcodmdckcihmaaDoorW.PrintLast Go.Proofs.YtfcodmdckcihmaaDoorW.PrintMore
attribute [local go_sem] max2_int min2_int max_two min_two max_three min_three max_four min_four-- for this text's walks alone
set_option linter.unusedVariables false
set_option linter.unusedSimpArgs false
attribute [local go_sem high] eqAU128
def tag_MayLeaf.f (a0_0 : Bool) (a0_1 : ByteArray) (a0_2 : ByteArray) (a0_3 : Int) (a0_4 : Int) : Option (Bool) := if (a0_2.size : Int) > 32 then (some false) else (if a0_0 = true then (if a0_1.toList = ([] : List UInt8) then (some (a0_3 == 0 && (a0_4 == 0))) else (some false)) else ((tag_MayId.f a0_1).bind fun t107 => (some t107)))
set_option maxHeartbeats 8000000 in
set_option maxRecDepth 100000 in
theorem tag_MayLeaf.calls (a0_0 : Bool) (a0_1 : ByteArray) (a0_2 : ByteArray) (a0_3 : Int) (a0_4 : Int) (r : Bool) (w : World) (hK : LaidT w) (h : tag_MayLeaf.f a0_0 a0_1 a0_2 a0_3 a0_4 = some r) :
  Calls Tryd.prog 56 #[.agg #[.bool a0_0, .string a0_1, .string a0_2, .int .u64 a0_3, .int .u64 a0_4]] w fun e w' => e = .returned (.bool r) ∧ Below w.heap.size w w' := by
 have hu36 := Tryd.underlying36
 have hu34 := Tryd.underlying34
 have HB := aM' (Below.refl w.heap.size w)
 have HLD := aM' hK
 clear hK
 have H : (if (a0_2.size : Int) > 32 then (some false) else (if a0_0 = true then (if a0_1.toList = ([] : List UInt8) then (some (a0_3 == 0 && (a0_4 == 0))) else (some false)) else ((tag_MayId.f a0_1).bind fun t107 => (some t107)))) = some r := h
 clear h
 by_cases c2 : (a0_2.size : Int) > 32
 ·
  rw [if_pos c2] at H
  have c2b0 : decide (32 < (a0_2.size : Int)) = true := decide_eq_true c2
  have c2b1 : decide (32 < a0_2.size) = true := decide_eq_true (by omega)
  clear c2
  obtain rfl := Option.some.inj H
  go_enter Tryd.func56, Tryd.ntmps56
  go_wp2_with (first | ((with_reducible refine gate_dst (N := 1) rfl ?_); refine box_event ?hg (N := 1) ?hd (cs := #[.bool a0_0, .string a0_1, .string a0_2, .int .u64 a0_3, .int .u64 a0_4]) (t := 36) ?hr ?_; (case hd => rfl); (case hg => rfl); (case hr => first | (go_simp; done) | (go_simp; rfl)); intro gb106 hg w3 hbox hb; have n0_ := aM' (below_step (by repeat (first | (with_reducible first | exact HB.out | apply below_alloc | apply pw_below_drewN | apply below_drew1) | exact HB.out)) hb); have n1_ := aM' (hbox); have n2_ := aM' ((by rw [hg]; exact (below_size (by repeat (first | (with_reducible first | exact HB.out | apply below_alloc | apply pw_below_drewN | apply below_drew1) | exact HB.out))) : w.heap.size ≤ gb106)); have n3_ := aM' ((by rw [hg]; exact (below_size (by repeat (first | (with_reducible first | exact HB.out | apply below_alloc | apply pw_below_drewN | apply below_drew1) | exact HB.out))) : w.heap.size ≤ gb106)); clear HB; have HB := n0_; have BK106 := n1_; have GW106 := n2_; have GE106 := n3_; clear n0_ n1_ n2_ n3_; clear hb hbox hg; have hcz4_0 : w3.cell? ⟨gb106, 0, none⟩ = some (.bool a0_0) := (blk_cell BK106.out 0).trans rfl; have hcz4_1 : w3.cell? ⟨gb106, 1, none⟩ = some (.string a0_1) := (blk_cell BK106.out 1).trans rfl; have hcz4_2 : w3.cell? ⟨gb106, 2, none⟩ = some (.string a0_2) := (blk_cell BK106.out 2).trans rfl; have hcz4_3 : w3.cell? ⟨gb106, 3, none⟩ = some (.int .u64 a0_3) := (blk_cell BK106.out 3).trans rfl; have hcz4_4 : w3.cell? ⟨gb106, 4, none⟩ = some (.int .u64 a0_4) := (blk_cell BK106.out 4).trans rfl; have hfz4_0 := blk_frozen BK106.out 0; have hfz4_1 := blk_frozen BK106.out 1; have hfz4_2 := blk_frozen BK106.out 2; have hfz4_3 := blk_frozen BK106.out 3; have hfz4_4 := blk_frozen BK106.out 4))
  go_ret
  exact ⟨by first | rfl | (simp [errW_none, errW_some] <;> rfl) | (simp [*, errW_none, errW_some] <;> rfl), by repeat (first | (with_reducible first | exact HB.out | apply below_alloc | apply pw_below_drewN | apply below_drew1 | refine below_set ?_ GE106.out) | exact HB.out)⟩
 ·
  rw [if_neg c2] at H
  have c2b0 : decide (32 < (a0_2.size : Int)) = false := decide_eq_false c2
  have c2b1 : decide (32 < a0_2.size) = false := decide_eq_false (by omega)
  clear c2
  by_cases c5 : a0_0 = true
  ·
   subst c5
   have H1 : (if a0_1.toList = ([] : List UInt8) then (some (a0_3 == 0 && (a0_4 == 0))) else (some false)) = some r := by rw [if_pos rfl] at H; exact H
   clear H
   have H := H1
   clear H1
   by_cases c6 : a0_1.toList = ([] : List UInt8)
   ·
    rw [if_pos c6] at H
    have c6b0 : (a0_1.toList == ([] : List UInt8)) = true := beq_iff_eq.mpr c6
    have c6b1 : (a0_1.toList != ([] : List UInt8)) = false := bne_eq_false_iff_eq.mpr c6
    clear c6
    obtain rfl := Option.some.inj H
    go_enter Tryd.func56, Tryd.ntmps56
    go_wp2_with (first | ((with_reducible refine gate_dst (N := 1) rfl ?_); refine box_event ?hg (N := 1) ?hd (cs := #[.bool true, .string a0_1, .string a0_2, .int .u64 a0_3, .int .u64 a0_4]) (t := 36) ?hr ?_; (case hd => rfl); (case hg => rfl); (case hr => first | (go_simp; done) | (go_simp; rfl)); intro gb106 hg w7 hbox hb; have n0_ := aM' (below_step (by repeat (first | (with_reducible first | exact HB.out | apply below_alloc | apply pw_below_drewN | apply below_drew1) | exact HB.out)) hb); have n1_ := aM' (hbox); have n2_ := aM' ((by rw [hg]; exact (below_size (by repeat (first | (with_reducible first | exact HB.out | apply below_alloc | apply pw_below_drewN | apply below_drew1) | exact HB.out))) : w.heap.size ≤ gb106)); have n3_ := aM' ((by rw [hg]; exact (below_size (by repeat (first | (with_reducible first | exact HB.out | apply below_alloc | apply pw_below_drewN | apply below_drew1) | exact HB.out))) : w.heap.size ≤ gb106)); clear HB; have HB := n0_; have BK106 := n1_; have GW106 := n2_; have GE106 := n3_; clear n0_ n1_ n2_ n3_; clear hb hbox hg; have hcz8_0 : w7.cell? ⟨gb106, 0, none⟩ = some (.bool true) := (blk_cell BK106.out 0).trans rfl; have hcz8_1 : w7.cell? ⟨gb106, 1, none⟩ = some (.string a0_1) := (blk_cell BK106.out 1).trans rfl; have hcz8_2 : w7.cell? ⟨gb106, 2, none⟩ = some (.string a0_2) := (blk_cell BK106.out 2).trans rfl; have hcz8_3 : w7.cell? ⟨gb106, 3, none⟩ = some (.int .u64 a0_3) := (blk_cell BK106.out 3).trans rfl; have hcz8_4 : w7.cell? ⟨gb106, 4, none⟩ = some (.int .u64 a0_4) := (blk_cell BK106.out 4).trans rfl; have hfz8_0 := blk_frozen BK106.out 0; have hfz8_1 := blk_frozen BK106.out 1; have hfz8_2 := blk_frozen BK106.out 2; have hfz8_3 := blk_frozen BK106.out 3; have hfz8_4 := blk_frozen BK106.out 4))
    go_ret
    exact ⟨by first | rfl | (simp [errW_none, errW_some] <;> rfl) | (simp [*, errW_none, errW_some] <;> rfl), by repeat (first | (with_reducible first | exact HB.out | apply below_alloc | apply pw_below_drewN | apply below_drew1 | refine below_set ?_ GE106.out) | exact HB.out)⟩
   ·
    rw [if_neg c6] at H
    have c6b0 : (a0_1.toList == ([] : List UInt8)) = false := beq_eq_false_iff_ne.mpr c6
    have c6b1 : (a0_1.toList != ([] : List UInt8)) = true := bne_iff_ne.mpr c6
    obtain rfl := Option.some.inj H
    go_enter Tryd.func56, Tryd.ntmps56
    go_wp2_with (first | ((with_reducible refine gate_dst (N := 1) rfl ?_); refine box_event ?hg (N := 1) ?hd (cs := #[.bool true, .string a0_1, .string a0_2, .int .u64 a0_3, .int .u64 a0_4]) (t := 36) ?hr ?_; (case hd => rfl); (case hg => rfl); (case hr => first | (go_simp; done) | (go_simp; rfl)); intro gb106 hg w9 hbox hb; have n0_ := aM' (below_step (by repeat (first | (with_reducible first | exact HB.out | apply below_alloc | apply pw_below_drewN | apply below_drew1) | exact HB.out)) hb); have n1_ := aM' (hbox); have n2_ := aM' ((by rw [hg]; exact (below_size (by repeat (first | (with_reducible first | exact HB.out | apply below_alloc | apply pw_below_drewN | apply below_drew1) | exact HB.out))) : w.heap.size ≤ gb106)); have n3_ := aM' ((by rw [hg]; exact (below_size (by repeat (first | (with_reducible first | exact HB.out | apply below_alloc | apply pw_below_drewN | apply below_drew1) | exact HB.out))) : w.heap.size ≤ gb106)); clear HB; have HB := n0_; have BK106 := n1_; have GW106 := n2_; have GE106 := n3_; clear n0_ n1_ n2_ n3_; clear hb hbox hg; have hcz10_0 : w9.cell? ⟨gb106, 0, none⟩ = some (.bool true) := (blk_cell BK106.out 0).trans rfl; have hcz10_1 : w9.cell? ⟨gb106, 1, none⟩ = some (.string a0_1) := (blk_cell BK106.out 1).trans rfl; have hcz10_2 : w9.cell? ⟨gb106, 2, none⟩ = some (.string a0_2) := (blk_cell BK106.out 2).trans rfl; have hcz10_3 : w9.cell? ⟨gb106, 3, none⟩ = some (.int .u64 a0_3) := (blk_cell BK106.out 3).trans rfl; have hcz10_4 : w9.cell? ⟨gb106, 4, none⟩ = some (.int .u64 a0_4) := (blk_cell BK106.out 4).trans rfl; have hfz10_0 := blk_frozen BK106.out 0; have hfz10_1 := blk_frozen BK106.out 1; have hfz10_2 := blk_frozen BK106.out 2; have hfz10_3 := blk_frozen BK106.out 3; have hfz10_4 := blk_frozen BK106.out 4))
    go_ret
    exact ⟨by first | rfl | (simp [errW_none, errW_some] <;> rfl) | (simp [*, errW_none, errW_some] <;> rfl), by repeat (first | (with_reducible first | exact HB.out | apply below_alloc | apply pw_below_drewN | apply below_drew1 | refine below_set ?_ GE106.out) | exact HB.out)⟩
  ·
   replace c5 := Bool.eq_false_iff.mpr c5
   subst c5
   have H1 : ((tag_MayId.f a0_1).bind fun t107 => (some t107)) = some r := by rw [if_neg (show ¬ (false = true) by decide)] at H; exact H
   clear H
   have H := H1
   clear H1
   replace H := Option.bind_eq_some_iff.mp H
   obtain ⟨t107, A110, H⟩ := H
   replace H : (some t107) = some r := H
   have A11 := aM' A110
   clear A110
   obtain rfl := Option.some.inj H
   go_enter Tryd.func56, Tryd.ntmps56
   go_wp2_with (first | ((with_reducible refine gate_dst (N := 1) rfl ?_); refine box_event ?hg (N := 1) ?hd (cs := #[.bool false, .string a0_1, .string a0_2, .int .u64 a0_3, .int .u64 a0_4]) (t := 36) ?hr ?_; (case hd => rfl); (case hg => rfl); (case hr => first | (go_simp; done) | (go_simp; rfl)); intro gb106 hg w12 hbox hb; have n0_ := aM' (below_step (by repeat (first | (with_reducible first | exact HB.out | apply below_alloc | apply pw_below_drewN | apply below_drew1) | exact HB.out)) hb); have n1_ := aM' (hbox); have n2_ := aM' ((by rw [hg]; exact (below_size (by repeat (first | (with_reducible first | exact HB.out | apply below_alloc | apply pw_below_drewN | apply below_drew1) | exact HB.out))) : w.heap.size ≤ gb106)); have n3_ := aM' ((by rw [hg]; exact (below_size (by repeat (first | (with_reducible first | exact HB.out | apply below_alloc | apply pw_below_drewN | apply below_drew1) | exact HB.out))) : w.heap.size ≤ gb106)); clear HB; have HB := n0_; have BK106 := n1_; have GW106 := n2_; have GE106 := n3_; clear n0_ n1_ n2_ n3_; clear hb hbox hg; have hcz13_0 : w12.cell? ⟨gb106, 0, none⟩ = some (.bool false) := (blk_cell BK106.out 0).trans rfl; have hcz13_1 : w12.cell? ⟨gb106, 1, none⟩ = some (.string a0_1) := (blk_cell BK106.out 1).trans rfl; have hcz13_2 : w12.cell? ⟨gb106, 2, none⟩ = some (.string a0_2) := (blk_cell BK106.out 2).trans rfl; have hcz13_3 : w12.cell? ⟨gb106, 3, none⟩ = some (.int .u64 a0_3) := (blk_cell BK106.out 3).trans rfl; have hcz13_4 : w12.cell? ⟨gb106, 4, none⟩ = some (.int .u64 a0_4) := (blk_cell BK106.out 4).trans rfl; have hfz13_0 := blk_frozen BK106.out 0; have hfz13_1 := blk_frozen BK106.out 1; have hfz13_2 := blk_frozen BK106.out 2; have hfz13_3 := blk_frozen BK106.out 3; have hfz13_4 := blk_frozen BK106.out 4) | ((with_reducible refine gate_callee (f := 94) rfl ?_); refine goesL_ (some 20) rfl rfl Tryd.func94 (by kernel_rfl) rfl #[.string a0_1] rfl (by (try simp only [List.map_toArray, List.map_cons, List.map_nil]); first | done | rfl | (simp only [List.length_drop, List.length_take]; rfl)) ?_; (with_reducible refine (tag_MayId.calls a0_1 t107 _ ?side1 A11.out).mono ?_); (case side1 => exact LaidT.below HLD.out (by repeat (first | (with_reducible first | exact HB.out | apply below_alloc | apply pw_below_drewN | apply below_drew1 | refine below_set ?_ GE106.out) | exact HB.out))); rintro e w14 ⟨rfl, hb⟩; refine ⟨_, rfl, ?_⟩; have n0_ := aM' (blk_below (g := gb106) (o := .cells #[.bool false, .string a0_1, .string a0_2, .int .u64 a0_3, .int .u64 a0_4] 36 (0, 0)) (by (with_reducible repeat (first | refine blk_drewN ?_ _ | refine blk_drew ?_ | refine blk_alloc ?_ _)); exact BK106.out) hb); have n1_ := aM' (below_step (by repeat (first | (with_reducible first | exact HB.out | apply below_alloc | apply pw_below_drewN | apply below_drew1 | refine below_set ?_ GE106.out) | exact HB.out)) hb); clear BK106; clear HB; have BK106 := n0_; have HB := n1_; clear n0_ n1_; (try clear hb); (try clear hb2); (try clear hk); (try clear hi)))
   go_ret
   exact ⟨by first | rfl | (simp [errW_none, errW_some] <;> rfl) | (simp [*, errW_none, errW_some] <;> rfl), by repeat (first | (with_reducible first | exact HB.out | apply below_alloc | apply pw_below_drewN | apply below_drew1 | refine below_set ?_ GE106.out) | exact HB.out)⟩
def verify_asked_leaf.f (a0_0 : ByteArray) (a0_1 : Int) (a0_2 : Int) (a0_3 : Int) (a0_4 : Bool) (a0_5 : ByteArray) (a0_6 : ByteArray) (a0_7 : Int) (a0_8 : Int) (a0_9 : Int) (l0_10 : List (SNode)) : Option (Int) := (tag_MayLeaf.f a0_4 a0_5 a0_6 a0_7 a0_8).bind fun t109 => (if t109 = true then (some 0) else (some 130))
set_option maxHeartbeats 8000000 in
set_option maxRecDepth 100000 in
theorem verify_asked_leaf.calls (a0_0 : ByteArray) (a0_1 : Int) (a0_2 : Int) (a0_3 : Int) (a0_4 : Bool) (a0_5 : ByteArray) (a0_6 : ByteArray) (a0_7 : Int) (a0_8 : Int) (a0_9 : Int) (A0_10 : Option Addr) (c0_10 : Nat) (l0_10 : List (SNode)) (r : Int) (w : World) (hK : LaidT w) (hr0_10 : Kd.C kNode w A0_10 l0_10.length l0_10) (hc0_10 : l0_10.length ≤ c0_10) (h : verify_asked_leaf.f a0_0 a0_1 a0_2 a0_3 a0_4 a0_5 a0_6 a0_7 a0_8 a0_9 l0_10 = some r) :
  Calls Tryd.prog 84 #[.agg #[.string a0_0, .int .u64 a0_1, .int .u64 a0_2, .int .i64 a0_3, .bool a0_4, .string a0_5, .string a0_6, .int .u64 a0_7, .int .u64 a0_8, .int .u64 a0_9, .slice A0_10 l0_10.length c0_10]] w fun e w' => e = .returned (.int .i64 r) ∧ Below w.heap.size w w' := by
 have hu146 := Tryd.underlying146
 have hu36 := Tryd.underlying36
 have HR0_10 := aM' hr0_10
 have HC0_10 := aM' hc0_10
 clear hr0_10 hc0_10
 have HB := aM' (Below.refl w.heap.size w)
 have HLD := aM' hK
 clear hK
 have H : ((tag_MayLeaf.f a0_4 a0_5 a0_6 a0_7 a0_8).bind fun t109 => (if t109 = true then (some 0) else (some 130))) = some r := h
 clear h
 replace H := Option.bind_eq_some_iff.mp H
 obtain ⟨t109, A20, H⟩ := H
 replace H : (if t109 = true then (some 0) else (some 130)) = some r := H
 have A2 := aM' A20
 clear A20
 by_cases c3 : t109 = true
 ·
  subst c3
  have H1 : (some 0) = some r := by rw [if_pos rfl] at H; exact H
  clear H
  have H := H1
  clear H1
  obtain rfl := Option.some.inj H
  go_enter Tryd.func84, Tryd.ntmps84
  go_wp2_with (first | ((with_reducible refine gate_dst (N := 1) rfl ?_); refine box_event ?hg (N := 1) ?hd (cs := #[.string a0_0, .int .u64 a0_1, .int .u64 a0_2, .int .i64 a0_3, .bool a0_4, .string a0_5, .string a0_6, .int .u64 a0_7, .int .u64 a0_8, .int .u64 a0_9, .slice A0_10 l0_10.length c0_10]) (t := 146) ?hr ?_; (case hd => rfl); (case hg => rfl); (case hr => first | (go_simp; done) | (go_simp; rfl)); intro gb108 hg w4 hbox hb; have n0_ := aM' (below_step (by repeat (first | (with_reducible first | exact HB.out | apply below_alloc | apply pw_below_drewN | apply below_drew1) | exact HB.out)) hb); have n1_ := aM' (hbox); have n2_ := aM' ((by rw [hg]; exact (below_size (by repeat (first | (with_reducible first | exact HB.out | apply below_alloc | apply pw_below_drewN | apply below_drew1) | exact HB.out))) : w.heap.size ≤ gb108)); have n3_ := aM' ((by rw [hg]; exact (below_size (by repeat (first | (with_reducible first | exact HB.out | apply below_alloc | apply pw_below_drewN | apply below_drew1) | exact HB.out))) : w.heap.size ≤ gb108)); clear HB; have HB := n0_; have BK108 := n1_; have GW108 := n2_; have GE108 := n3_; clear n0_ n1_ n2_ n3_; clear hb hbox hg; have hcz5_0 : w4.cell? ⟨gb108, 0, none⟩ = some (.string a0_0) := (blk_cell BK108.out 0).trans rfl; have hcz5_1 : w4.cell? ⟨gb108, 1, none⟩ = some (.int .u64 a0_1) := (blk_cell BK108.out 1).trans rfl; have hcz5_2 : w4.cell? ⟨gb108, 2, none⟩ = some (.int .u64 a0_2) := (blk_cell BK108.out 2).trans rfl; have hcz5_3 : w4.cell? ⟨gb108, 3, none⟩ = some (.int .i64 a0_3) := (blk_cell BK108.out 3).trans rfl; have hcz5_4 : w4.cell? ⟨gb108, 4, none⟩ = some (.bool a0_4) := (blk_cell BK108.out 4).trans rfl; have hcz5_5 : w4.cell? ⟨gb108, 5, none⟩ = some (.string a0_5) := (blk_cell BK108.out 5).trans rfl; have hcz5_6 : w4.cell? ⟨gb108, 6, none⟩ = some (.string a0_6) := (blk_cell BK108.out 6).trans rfl; have hcz5_7 : w4.cell? ⟨gb108, 7, none⟩ = some (.int .u64 a0_7) := (blk_cell BK108.out 7).trans rfl; have hcz5_8 : w4.cell? ⟨gb108, 8, none⟩ = some (.int .u64 a0_8) := (blk_cell BK108.out 8).trans rfl; have hcz5_9 : w4.cell? ⟨gb108, 9, none⟩ = some (.int .u64 a0_9) := (blk_cell BK108.out 9).trans rfl; have hcz5_10 : w4.cell? ⟨gb108, 10, none⟩ = some (.slice A0_10 l0_10.length c0_10) := (blk_cell BK108.out 10).trans rfl; have hfz5_0 := blk_frozen BK108.out 0; have hfz5_1 := blk_frozen BK108.out 1; have hfz5_2 := blk_frozen BK108.out 2; have hfz5_3 := blk_frozen BK108.out 3; have hfz5_4 := blk_frozen BK108.out 4; have hfz5_5 := blk_frozen BK108.out 5; have hfz5_6 := blk_frozen BK108.out 6; have hfz5_7 := blk_frozen BK108.out 7; have hfz5_8 := blk_frozen BK108.out 8; have hfz5_9 := blk_frozen BK108.out 9; have hfz5_10 := blk_frozen BK108.out 10) | ((with_reducible refine gate_callee (f := 56) rfl ?_); refine goesL_ (some 6) rfl rfl Tryd.func56 (by kernel_rfl) rfl #[.agg #[.bool a0_4, .string a0_5, .string a0_6, .int .u64 a0_7, .int .u64 a0_8]] rfl (by (try simp only [List.map_toArray, List.map_cons, List.map_nil]); first | done | rfl | (simp only [List.length_drop, List.length_take]; rfl)) ?_; (with_reducible refine (tag_MayLeaf.calls a0_4 a0_5 a0_6 a0_7 a0_8 true _ ?side1 A2.out).mono ?_); (case side1 => exact LaidT.below HLD.out (by repeat (first | (with_reducible first | exact HB.out | apply below_alloc | apply pw_below_drewN | apply below_drew1 | refine below_set ?_ GE108.out) | exact HB.out))); rintro e w6 ⟨rfl, hb⟩; refine ⟨_, rfl, ?_⟩; have n0_ := aM' (blk_below (g := gb108) (o := .cells #[.string a0_0, .int .u64 a0_1, .int .u64 a0_2, .int .i64 a0_3, .bool a0_4, .string a0_5, .string a0_6, .int .u64 a0_7, .int .u64 a0_8, .int .u64 a0_9, .slice A0_10 l0_10.length c0_10] 146 (0, 0)) (by (with_reducible repeat (first | refine blk_drewN ?_ _ | refine blk_drew ?_ | refine blk_alloc ?_ _)); exact BK108.out) hb); have n1_ := aM' (below_step (by repeat (first | (with_reducible first | exact HB.out | apply below_alloc | apply pw_below_drewN | apply below_drew1 | refine below_set ?_ GE108.out) | exact HB.out)) hb); clear BK108; clear HB; have BK108 := n0_; have HB := n1_; clear n0_ n1_; (try clear hb); (try clear hb2); (try clear hk); (try clear hi)))
  go_ret
  exact ⟨by first | rfl | (simp [errW_none, errW_some] <;> rfl) | (simp [*, errW_none, errW_some] <;> rfl), by repeat (first | (with_reducible first | exact HB.out | apply below_alloc | apply pw_below_drewN | apply below_drew1 | refine below_set ?_ GE108.out) | exact HB.out)⟩
 ·
  replace c3 := Bool.eq_false_iff.mpr c3
  subst c3
  have H1 : (some 130) = some r := by rw [if_neg (show ¬ (false = true) by decide)] at H; exact H
  clear H
  have H := H1
  clear H1
  obtain rfl := Option.some.inj H
  go_enter Tryd.func84, Tryd.ntmps84
  go_wp2_with (first | ((with_reducible refine gate_dst (N := 1) rfl ?_); refine box_event ?hg (N := 1) ?hd (cs := #[.string a0_0, .int .u64 a0_1, .int .u64 a0_2, .int .i64 a0_3, .bool a0_4, .string a0_5, .string a0_6, .int .u64 a0_7, .int .u64 a0_8, .int .u64 a0_9, .slice A0_10 l0_10.length c0_10]) (t := 146) ?hr ?_; (case hd => rfl); (case hg => rfl); (case hr => first | (go_simp; done) | (go_simp; rfl)); intro gb108 hg w7 hbox hb; have n0_ := aM' (below_step (by repeat (first | (with_reducible first | exact HB.out | apply below_alloc | apply pw_below_drewN | apply below_drew1) | exact HB.out)) hb); have n1_ := aM' (hbox); have n2_ := aM' ((by rw [hg]; exact (below_size (by repeat (first | (with_reducible first | exact HB.out | apply below_alloc | apply pw_below_drewN | apply below_drew1) | exact HB.out))) : w.heap.size ≤ gb108)); have n3_ := aM' ((by rw [hg]; exact (below_size (by repeat (first | (with_reducible first | exact HB.out | apply below_alloc | apply pw_below_drewN | apply below_drew1) | exact HB.out))) : w.heap.size ≤ gb108)); clear HB; have HB := n0_; have BK108 := n1_; have GW108 := n2_; have GE108 := n3_; clear n0_ n1_ n2_ n3_; clear hb hbox hg; have hcz8_0 : w7.cell? ⟨gb108, 0, none⟩ = some (.string a0_0) := (blk_cell BK108.out 0).trans rfl; have hcz8_1 : w7.cell? ⟨gb108, 1, none⟩ = some (.int .u64 a0_1) := (blk_cell BK108.out 1).trans rfl; have hcz8_2 : w7.cell? ⟨gb108, 2, none⟩ = some (.int .u64 a0_2) := (blk_cell BK108.out 2).trans rfl; have hcz8_3 : w7.cell? ⟨gb108, 3, none⟩ = some (.int .i64 a0_3) := (blk_cell BK108.out 3).trans rfl; have hcz8_4 : w7.cell? ⟨gb108, 4, none⟩ = some (.bool a0_4) := (blk_cell BK108.out 4).trans rfl; have hcz8_5 : w7.cell? ⟨gb108, 5, none⟩ = some (.string a0_5) := (blk_cell BK108.out 5).trans rfl; have hcz8_6 : w7.cell? ⟨gb108, 6, none⟩ = some (.string a0_6) := (blk_cell BK108.out 6).trans rfl; have hcz8_7 : w7.cell? ⟨gb108, 7, none⟩ = some (.int .u64 a0_7) := (blk_cell BK108.out 7).trans rfl; have hcz8_8 : w7.cell? ⟨gb108, 8, none⟩ = some (.int .u64 a0_8) := (blk_cell BK108.out 8).trans rfl; have hcz8_9 : w7.cell? ⟨gb108, 9, none⟩ = some (.int .u64 a0_9) := (blk_cell BK108.out 9).trans rfl; have hcz8_10 : w7.cell? ⟨gb108, 10, none⟩ = some (.slice A0_10 l0_10.length c0_10) := (blk_cell BK108.out 10).trans rfl; have hfz8_0 := blk_frozen BK108.out 0; have hfz8_1 := blk_frozen BK108.out 1; have hfz8_2 := blk_frozen BK108.out 2; have hfz8_3 := blk_frozen BK108.out 3; have hfz8_4 := blk_frozen BK108.out 4; have hfz8_5 := blk_frozen BK108.out 5; have hfz8_6 := blk_frozen BK108.out 6; have hfz8_7 := blk_frozen BK108.out 7; have hfz8_8 := blk_frozen BK108.out 8; have hfz8_9 := blk_frozen BK108.out 9; have hfz8_10 := blk_frozen BK108.out 10) | ((with_reducible refine gate_callee (f := 56) rfl ?_); refine goesL_ (some 6) rfl rfl Tryd.func56 (by kernel_rfl) rfl #[.agg #[.bool a0_4, .string a0_5, .string a0_6, .int .u64 a0_7, .int .u64 a0_8]] rfl (by (try simp only [List.map_toArray, List.map_cons, List.map_nil]); first | done | rfl | (simp only [List.length_drop, List.length_take]; rfl)) ?_; (with_reducible refine (tag_MayLeaf.calls a0_4 a0_5 a0_6 a0_7 a0_8 false _ ?side1 A2.out).mono ?_); (case side1 => exact LaidT.below HLD.out (by repeat (first | (with_reducible first | exact HB.out | apply below_alloc | apply pw_below_drewN | apply below_drew1 | refine below_set ?_ GE108.out) | exact HB.out))); rintro e w9 ⟨rfl, hb⟩; refine ⟨_, rfl, ?_⟩; have n0_ := aM' (blk_below (g := gb108) (o := .cells #[.string a0_0, .int .u64 a0_1, .int .u64 a0_2, .int .i64 a0_3, .bool a0_4, .string a0_5, .string a0_6, .int .u64 a0_7, .int .u64 a0_8, .int .u64 a0_9, .slice A0_10 l0_10.length c0_10] 146 (0, 0)) (by (with_reducible repeat (first | refine blk_drewN ?_ _ | refine blk_drew ?_ | refine blk_alloc ?_ _)); exact BK108.out) hb); have n1_ := aM' (below_step (by repeat (first | (with_reducible first | exact HB.out | apply below_alloc | apply pw_below_drewN | apply below_drew1 | refine below_set ?_ GE108.out) | exact HB.out)) hb); clear BK108; clear HB; have BK108 := n0_; have HB := n1_; clear n0_ n1_; (try clear hb); (try clear hb2); (try clear hk); (try clear hi)))
  go_ret
  exact ⟨by first | rfl | (simp [errW_none, errW_some] <;> rfl) | (simp [*, errW_none, errW_some] <;> rfl), by repeat (first | (with_reducible first | exact HB.out | apply below_alloc | apply pw_below_drewN | apply below_drew1 | refine below_set ?_ GE108.out) | exact HB.out)⟩
end Go.Proofs.YtfcodmdckcihmaaDoor.P
namespace Go.Proofs.YtfcodmdckcihmaaDoor.P
open Go.RowKit Go.Proofs.YtfcodmdckcihmaaDoorW.PrintWords Go.Proofs.YtfcodmdckcihmaaDoorW.PrintLast Go.Proofs.YtfcodmdckcihmaaDoorW.PrintMore
attribute [local go_sem] max2_int min2_int max_two min_two max_three min_three max_four min_four-- for this text's walks alone
set_option linter.unusedVariables false
set_option linter.unusedSimpArgs false
def tag_sized.f (a0 : ByteArray) : Option (ByteArray) := (some (([((a0.size : Int)) % 256] : List Int) : List Int)).bind fun y101 => (if (strOfNums y101).size + a0.size ≤ 9223372036854775807 then (some ((strOfNums y101) ++ a0)) else (none))
set_option maxHeartbeats 8000000 in
set_option maxRecDepth 100000 in
theorem tag_sized.calls (a0 : ByteArray) (r : ByteArray) (w : World) (h : tag_sized.f a0 = some r) :
  Calls Tryd.prog 69 #[.string a0] w fun e w' => e = .returned (.string r) ∧ Below w.heap.size w w' := by
 have HB := aM' (Below.refl w.heap.size w)
 have H : ((some (([((a0.size : Int)) % 256] : List Int) : List Int)).bind fun y101 => (if (strOfNums y101).size + a0.size ≤ 9223372036854775807 then (some ((strOfNums y101) ++ a0)) else (none))) = some r := h
 clear h
 obtain ⟨y101, hy101⟩ : ∃ y_ : List Int, y_ = (([((a0.size : Int)) % 256] : List Int)) := ⟨_, rfl⟩
 replace H : (if (strOfNums y101).size + a0.size ≤ 9223372036854775807 then (some ((strOfNums y101) ++ a0)) else (none)) = some r := by first | (rw [hy101]; with_reducible exact H) | (have H2_ := (Option.bind_some _ _).symm.trans H; rw [hy101]; with_reducible exact H2_) | (have H2_ := (Option.bind_some _ _).symm.trans H; with_reducible exact H2_) | with_reducible exact H | (rw [hy101]; exact H) | exact H
 have Ny101 := aM' hy101
 clear hy101
 by_cases c2 : (strOfNums y101).size + a0.size ≤ 9223372036854775807
 ·
  rw [if_pos c2] at H
  have c2b0 := eq_true c2
  have c2b1 : decide ((strOfNums y101).size + a0.size ≤ 9223372036854775807) = true := decide_eq_true c2
  try have c2b2 : (9223372036854775807 < (strOfNums y101).size + a0.size) = False := eq_false (Nat.not_lt.2 c2)
  try (have c2b9 := c2; simp only [ByteArray.size_append, ba_size, List.length_cons, List.length_nil, Nat.zero_add, Nat.reduceAdd] at c2b9; have c2b8 := eq_false (Nat.not_lt.2 c2b9))
  obtain rfl := Option.some.inj H
  go_enter Tryd.func69, Tryd.ntmps69
  go_wp2_with (first | ((with_reducible refine gate_dst (N := 6) rfl ?_); refine Kd.R_lit (Kd.int .u8) _ 5 ?hg (N := 6) ?hd (xs := ([((a0.size : Int)) % 256] : List Int)) (inner := [.int .u8 (((a0.size : Int)) % 256)]) (ok := fun _ => True) (okp := fun _ => True) ?hr ?hp (fun _ hk => hk) trivial (Below.refl _ _) (Nat.le_refl _) (by simp) ?_; (case hd => rfl); (case hg => rfl); (case hr => first | (go_simp; done) | (go_simp; rfl)); (case hp => exact (Reps.one (show Kd.M (Kd.int .u8) _ _ _ (((a0.size : Int)) % 256) [.int .u8 (((a0.size : Int)) % 256)] from rfl) (Reps.none _ _))); intro v102 w3 ho4 hb hg_ hnew_; clear hg_ hnew_; (first | rw [← Ny101.out] at ho4 | (simp only [Int.reduceToNat] at ho4; rw [← Ny101.out] at ho4)); have n0_ := aM' (Kd.R_lower ho4 (below_size (by repeat (first | (with_reducible first | exact HB.out | apply below_alloc | apply pw_below_drewN | apply below_drew1) | exact HB.out)))); have n1_ := aM' (below_step (by repeat (first | (with_reducible first | exact HB.out | apply below_alloc | apply pw_below_drewN | apply below_drew1) | exact HB.out)) hb); clear HB; have HO103 := n0_; have HB := n1_; clear n0_ n1_; clear hb ho4; have hcv5 := own_string (P := Tryd.prog) Tryd.underlying125 Tryd.underlying5 Tryd.underlying9 (Kd.own_of_R HO103.out)))
  go_ret
  exact ⟨by first | rfl | (simp [errW_none, errW_some] <;> rfl) | (simp [*, errW_none, errW_some] <;> rfl), by repeat (first | (with_reducible first | exact HB.out | apply below_alloc | apply pw_below_drewN | apply below_drew1) | exact HB.out)⟩
 ·
  rw [if_neg c2] at H
  exact absurd H (by simp)
end Go.Proofs.YtfcodmdckcihmaaDoor.P
namespace Go.Proofs.YtfcodmdckcihmaaDoor.P
open Go.RowKit Go.Proofs.YtfcodmdckcihmaaDoorW.PrintWords Go.Proofs.YtfcodmdckcihmaaDoorW.PrintLast Go.Proofs.YtfcodmdckcihmaaDoorW.PrintMore
set_option linter.unusedVariables false
set_option linter.unusedSimpArgs false
set_option linter.unnecessarySimpa false
theorem add64_runs (x y c : Int) (hx : 0 ≤ x) (hy : 0 ≤ y) (hc0 : 0 ≤ c) (hc : c ≤ 1) (w : World) : (callFunc 67 #[.int .u64 x, .int .u64 y, .int .u64 c]).run Tryd.prog w =
  .ok (.value (.tuple #[.int .u64 ((x + y + c) % 18446744073709551616), .int .u64 ((x + y + c) / 18446744073709551616)])) w := by
 rw [run_callFunc_extern Tryd.func67 (by kernel_rfl) (by kernel_rfl) (by kernel_rfl) (e := add64Entry) (by kernel_rfl), run_add64 x y c hx hy hc0 hc]
 rfl
def u128_Add.f (a0_0 a0_1 a1_0 a1_1 : Int) : Option (Int × Int × Int) :=
 if ((0 ≤ a0_0 ∧ a0_0 < 18446744073709551616) ∧ (0 ≤ a0_1 ∧ a0_1 < 18446744073709551616)) ∧ ((0 ≤ a1_0 ∧ a1_0 < 18446744073709551616) ∧ (0 ≤ a1_1 ∧ a1_1 < 18446744073709551616)) then
  (if a0_0 + a1_0 + (a0_1 + a1_1) / 18446744073709551616 < 18446744073709551616 then some (a0_0 + a1_0 + (a0_1 + a1_1) / 18446744073709551616, (a0_1 + a1_1) % 18446744073709551616, 0) else some (0, 0, 10))
 else none
set_option maxRecDepth 100000 in
theorem u128_Add.calls (a0_0 : Int) (a0_1 : Int) (a1_0 : Int) (a1_1 : Int) (r1 : Int) (r2 : Int) (r3 : Int) (w : World) (h : u128_Add.f a0_0 a0_1 a1_0 a1_1 = some (r1, r2, r3)) :
  Calls Tryd.prog 29 #[.agg #[.int .u64 a0_0, .int .u64 a0_1], .agg #[.int .u64 a1_0, .int .u64 a1_1]] w fun e w' => e = .returned (.tuple #[.agg #[.int .u64 r1, .int .u64 r2], .int .i64 r3]) ∧ Below w.heap.size w w' := by
 have hu := Tryd.underlying34
 unfold u128_Add.f at h
 split at h
 ·
  rename_i hb
  obtain ⟨⟨⟨h00, h01⟩, h02, h03⟩, ⟨h10, h11⟩, h12, h13⟩ := hb
  have ha := add64_runs a0_1 a1_1 0 h02 h12 (by omega) (by omega)
  have hc := add64_runs a0_0 a1_0 ((a0_1 + a1_1) / 18446744073709551616) h00 h10 (by omega) (by omega)
  rw [Int.add_zero] at ha
  split at h
  ·
   rename_i hs
   simp only [Option.some.injEq, Prod.mk.injEq] at h
   obtain ⟨rfl, rfl, rfl⟩ := h
   have e1 : (a0_0 + a1_0 + (a0_1 + a1_1) / 18446744073709551616) / 18446744073709551616 = 0 := by omega
   have e2 : (a0_0 + a1_0 + (a0_1 + a1_1) / 18446744073709551616) % 18446744073709551616 = a0_0 + a1_0 + (a0_1 + a1_1) / 18446744073709551616 := by omega
   have E2 := aM' e2
   have hc2 : ∀ w : World, (callFunc 67 #[.int .u64 a0_0, .int .u64 a1_0, .int .u64 ((a0_1 + a1_1) / 18446744073709551616)]).run Tryd.prog w = .ok (.value (.tuple #[.int .u64 (a0_0 + a1_0 + (a0_1 + a1_1) / 18446744073709551616), .int .u64 0])) w := by
    intro w; rw [hc w, e1, e2]
   clear hc e1 e2 h00 h01 h02 h03 h10 h11 h12 h13 hs
   go_enter Tryd.func29, Tryd.ntmps29
   go_wp2_with fail
   refine bodyPost_ret (v := .tuple #[.agg #[.int .u64 (a0_0 + a1_0 + (a0_1 + a1_1) / 18446744073709551616), .int .u64 ((a0_1 + a1_1) % 18446744073709551616)], .int .i64 0]) ?_ rfl ⟨rfl, ?_⟩
   ·
    simp [results, Tryd.results29, go_sem, hu]
   ·
    repeat (with_reducible first | exact Below.refl _ _ | apply below_alloc | refine below_set ?_ (Nat.le_refl _))
  ·
   rename_i hs
   simp only [Option.some.injEq, Prod.mk.injEq] at h
   obtain ⟨rfl, rfl, rfl⟩ := h
   have e1 : (a0_0 + a1_0 + (a0_1 + a1_1) / 18446744073709551616) / 18446744073709551616 = 1 := by omega
   have hc2 : ∀ w : World, (callFunc 67 #[.int .u64 a0_0, .int .u64 a1_0, .int .u64 ((a0_1 + a1_1) / 18446744073709551616)]).run Tryd.prog w = .ok (.value (.tuple #[.int .u64 ((a0_0 + a1_0 + (a0_1 + a1_1) / 18446744073709551616) % 18446744073709551616), .int .u64 1])) w := by
    intro w; rw [hc w, e1]
   clear hc e1 h00 h01 h02 h03 h10 h11 h12 h13 hs
   go_enter Tryd.func29, Tryd.ntmps29
   go_wp2_with fail
   refine bodyPost_ret (v := .tuple #[.agg #[.int .u64 0, .int .u64 0], .int .i64 10]) ?_ rfl ⟨rfl, ?_⟩
   ·
    simp [results, Tryd.results29, go_sem, hu]
   ·
    repeat (with_reducible first | exact Below.refl _ _ | apply below_alloc | refine below_set ?_ (Nat.le_refl _))
 ·
  cases h
def halfB (x : Int) (i : Nat) : Int := x / 2 ^ (56 - 8 * i) % 256
def u128B (hi lo : Int) : ByteArray := strOfNums ((List.range 8).map (halfB hi) ++ (List.range 8).map (halfB lo))
def rowB (hi lo : Int) (k : Nat) : Array Value :=
 #[.int .u8 (if 0 < k then halfB hi 0 else 0), .int .u8 (if 1 < k then halfB hi 1 else 0), .int .u8 (if 2 < k then halfB hi 2 else 0), .int .u8 (if 3 < k then halfB hi 3 else 0), .int .u8 (if 4 < k then halfB hi 4 else 0), .int .u8 (if 5 < k then halfB hi 5 else 0), .int .u8 (if 6 < k then halfB hi 6 else 0), .int .u8 (if 7 < k then halfB hi 7 else 0),
  .int .u8 (if 0 < k then halfB lo 0 else 0), .int .u8 (if 1 < k then halfB lo 1 else 0), .int .u8 (if 2 < k then halfB lo 2 else 0), .int .u8 (if 3 < k then halfB lo 3 else 0), .int .u8 (if 4 < k then halfB lo 4 else 0), .int .u8 (if 5 < k then halfB lo 5 else 0), .int .u8 (if 6 < k then halfB lo 6 else 0), .int .u8 (if 7 < k then halfB lo 7 else 0)]
theorem rowB_step (hi lo : Int) (k : Nat) (h : k < 8) : ((rowB hi lo k).setIfInBounds k (.int .u8 (halfB hi k))).setIfInBounds (k + 8) (.int .u8 (halfB lo k)) = rowB hi lo (k + 1) := by
 have : k = 0 ∨ k = 1 ∨ k = 2 ∨ k = 3 ∨ k = 4 ∨ k = 5 ∨ k = 6 ∨ k = 7 := by omega
 rcases this with h | h | h | h | h | h | h | h <;> subst h <;> rfl
def u128_Bytes.f (a0_0 a0_1 : Int) : Option ByteArray := some (u128B a0_0 a0_1)
set_option maxRecDepth 100000 in
set_option maxHeartbeats 2000000 in
theorem u128Bytes.calls (hi lo : Int) (w : World) :
  Calls Tryd.prog 70 #[.agg #[.int .u64 hi, .int .u64 lo]] w fun e w' => e = .returned (.string (u128B hi lo)) ∧ Below w.heap.size w w' := by
 have hu := Tryd.underlying34
 have hu2 := Tryd.underlying159
 go_enter Tryd.func70, Tryd.ntmps70
 go_wp2_with fail
 go_loopw [5] (fun v wr => ∃ k : Nat, v = .int .i64 k ∧ k ≤ 8 ∧ Aside0 (wr.heap[w.heap.size + 1]? = some (.cells (rowB hi lo k) 159 (0, 0))) ∧ Aside0 (wr.heap[w.heap.size]? = some (.cells #[.int .u64 hi, .int .u64 lo] 34 (0, 0))) ∧ Aside0 (Below w.heap.size w wr)) (fun v _ => 8 - (intOf v).toNat)
 case atStart =>
  refine ⟨0, rfl, by omega, ⟨?_⟩, ⟨?_⟩, ⟨?_⟩⟩
  ·
   have := blk_new (w.alloc (.cells #[.int .u64 hi, .int .u64 lo] 34)) (.cells (rowB hi lo 0) 159)
   rw [show (w.alloc (.cells #[.int .u64 hi, .int .u64 lo] 34)).heap.size = w.heap.size + 1 by simp] at this
   exact this
  ·
   exact blk_alloc (blk_new w _) _
  ·
   repeat (first | exact Below.refl _ _ | apply below_alloc)
 case round =>
  obtain ⟨k, rfl, hk, HO, HX, HB⟩ := hrel
  by_cases hlt : k < 8
  ·
   have b1 : decide ((k : Int) < 8) = true := decide_eq_true (by omega)
   have c0 : wr.cell? ⟨w.heap.size, 0, none⟩ = some (.int .u64 hi) := blk_cell HX.out 0
   have c1 : wr.cell? ⟨w.heap.size, 1, none⟩ = some (.int .u64 lo) := blk_cell HX.out 1
   have hf : ∀ i, wr.frozen? ⟨w.heap.size + 1, i, none⟩ = false := fun i => blk_frozen HO.out i
   have p0 : (0 : Int) ≤ (k : Int) := by omega
   have p1 : (k : Int) < 16 := by omega
   have p2 : (k : Int) + 8 < 16 := by omega
   have p3 : (0 : Int) ≤ 56 - 8 * (k : Int) := by omega
   obtain ⟨v0, hv0⟩ : ∃ v, wr.cell? ⟨w.heap.size + 1, k, none⟩ = some v := by
    rw [blk_cell HO.out k, Array.getElem?_eq_getElem (by show k < 16; omega)]; exact ⟨_, rfl⟩
   obtain ⟨v1, hv1⟩ : ∃ v, wr.cell? ⟨w.heap.size + 1, k + 8, none⟩ = some v := by
    rw [blk_cell HO.out (k + 8), Array.getElem?_eq_getElem (by show k + 8 < 16; omega)]; exact ⟨_, rfl⟩
   have h8 := aM' (rowB_step hi lo k hlt)
   go_wp2_with fail
   clear hv0 hv1 hf c0 c1 b1 p0 p1 p2 p3
   go_roundw
   case rel =>
    refine ⟨k + 1, by go_num, by omega, ⟨?_⟩, ⟨?_⟩, ⟨?_⟩⟩
    ·
     rw [← h8.out]
     exact blk_set (blk_set HO.out k _) (k + 8) _
    ·
     exact blk_far (blk_far HX.out (show w.heap.size ≠ w.heap.size + 1 by omega) _) (show w.heap.size ≠ w.heap.size + 1 by omega) _
    ·
     exact below_set (below_set HB.out (Nat.le_add_right _ _)) (Nat.le_add_right _ _)
   case measure => simp [intOf]; omega
  ·
   have b1 : decide ((k : Int) < 8) = false := decide_eq_false (by omega)
   obtain rfl : k = 8 := by omega
   have hcv := run_convert_bytes_arg wr 125 5 Tryd.underlying125 Tryd.underlying5 (w.heap.size + 1) 0 16 16 ((List.range 8).map (halfB hi) ++ (List.range 8).map (halfB lo)) (by simp) (fun i hi16 => by
    rw [Nat.zero_add, blk_cell HO.out i]
    have : i = 0 ∨ i = 1 ∨ i = 2 ∨ i = 3 ∨ i = 4 ∨ i = 5 ∨ i = 6 ∨ i = 7 ∨ i = 8 ∨ i = 9 ∨ i = 10 ∨ i = 11 ∨ i = 12 ∨ i = 13 ∨ i = 14 ∨ i = 15 := by omega
    rcases this with h | h | h | h | h | h | h | h | h | h | h | h | h | h | h | h <;> subst h <;> rfl) 9 Tryd.underlying9
   go_wp2_with fail
   go_ret
   exact ⟨rfl, HB.out⟩
theorem u128_Bytes.calls (a0_0 : Int) (a0_1 : Int) (r : ByteArray) (w : World) (h : u128_Bytes.f a0_0 a0_1 = some r) :
  Calls Tryd.prog 70 #[.agg #[.int .u64 a0_0, .int .u64 a0_1]] w fun e w' => e = .returned (.string r) ∧ Below w.heap.size w w' := by
 cases h
 exact u128Bytes.calls a0_0 a0_1 w
end Go.Proofs.YtfcodmdckcihmaaDoor.P
namespace Go.Proofs.YtfcodmdckcihmaaDoor.P
open Go.RowKit Go.Proofs.YtfcodmdckcihmaaDoorW.PrintWords Go.Proofs.YtfcodmdckcihmaaDoorW.PrintLast Go.Proofs.YtfcodmdckcihmaaDoorW.PrintMore
set_option linter.unusedVariables false
set_option linter.unusedSimpArgs false
set_option linter.unnecessarySimpa false
structure Dig (x : Int) : Prop where
 h0 : 0 ≤ x
 h1 : x < 65536
def addI128 (a0 a1 b0 b1 : Int) : Int × Int × Int :=
 if a0 + b0 + (a1 + b1) / 18446744073709551616 < 18446744073709551616 then (a0 + b0 + (a1 + b1) / 18446744073709551616, (a1 + b1) % 18446744073709551616, 0) else (0, 0, 10)
theorem u128Add_eq (a0 a1 b0 b1 : Int) (ha0 : 0 ≤ a0 ∧ a0 < 18446744073709551616) (ha1 : 0 ≤ a1 ∧ a1 < 18446744073709551616) (hb0 : 0 ≤ b0 ∧ b0 < 18446744073709551616) (hb1 : 0 ≤ b1 ∧ b1 < 18446744073709551616) :
  u128_Add.f a0 a1 b0 b1 = some (addI128 a0 a1 b0 b1) := by
 unfold u128_Add.f addI128
 rw [if_pos ⟨⟨ha0, ha1⟩, hb0, hb1⟩]
 split <;> rfl
theorem u128B_size (hi lo : Int) : (u128B hi lo).size = 16 := by rw [u128B, strOfNums_size]; rfl
theorem u128Bytes_eq (hi lo : Int) : u128_Bytes.f hi lo = some (u128B hi lo) := rfl
end Go.Proofs.YtfcodmdckcihmaaDoor.P
namespace Go.Proofs.YtfcodmdckcihmaaDoor.P
open Go.RowKit Go.Proofs.YtfcodmdckcihmaaDoorW.PrintWords Go.Proofs.YtfcodmdckcihmaaDoorW.PrintLast Go.Proofs.YtfcodmdckcihmaaDoorW.PrintMore
set_option linter.unusedVariables false
set_option linter.unusedSimpArgs false
set_option linter.unnecessarySimpa false
def nodeOf (w : Int) (n : SNode) : Bool := decide (1 ≤ w) && (decide (w ≤ 32) && ((n.f0.size : Int) == w))
theorem node_Of_eq (w : Int) (n : SNode) : node_Of.f w n.f0 n.f1.f0 n.f1.f1 = some (nodeOf w n) := by
 unfold node_Of.f nodeOf
 by_cases h1 : w ≥ 1
 ·
  by_cases h2 : w ≤ 32
  ·
   rw [if_pos h1, if_pos h2]
   have h1' : 1 ≤ w := h1
   simp [h1', h2]
  ·
   rw [if_pos h1, if_neg h2]; simp [h2]
 ·
  rw [if_neg h1]
  have h1' : ¬ 1 ≤ w := h1
  simp [h1']
theorem rdNode_nat (l : List SNode) (i : Nat) (h : i < l.length) : rd_TNode l (i : Int) = l[i] := by simp [rd_TNode, h]
end Go.Proofs.YtfcodmdckcihmaaDoor.P
namespace Go.Proofs.YtfcodmdckcihmaaDoor.P
open Go.RowKit Go.Proofs.YtfcodmdckcihmaaDoorW.PrintWords Go.Proofs.YtfcodmdckcihmaaDoorW.PrintLast Go.Proofs.YtfcodmdckcihmaaDoorW.PrintMore
set_option linter.unusedVariables false
set_option linter.unusedSimpArgs false
set_option linter.unnecessarySimpa false
def mayLeafI (l : SLeaf) : Bool := if 32 < l.f2.size then false else if l.f0 = true then (if l.f1.toList = [] then (l.f3.f0 == 0 && (l.f3.f1 == 0)) else false) else mayIdI l.f1
theorem tagMayLeaf_eq (l : SLeaf) (hid : l.f1.size ≤ 1000000) : tag_MayLeaf.f l.f0 l.f1 l.f2 l.f3.f0 l.f3.f1 = some (mayLeafI l) := by
 unfold tag_MayLeaf.f mayLeafI
 by_cases h1 : 32 < l.f2.size
 ·
  rw [if_pos (by omega), if_pos h1]
 ·
  rw [if_neg (by omega), if_neg h1]
  cases l.f0 with
  | true =>
   simp only [if_true]
   by_cases h2 : l.f1.toList = []
   ·
    rw [if_pos h2, if_pos h2]
   ·
    rw [if_neg h2, if_neg h2]
  | false =>
   simp only [Bool.false_eq_true, if_false]
   have e : tag_MayId.f l.f1 = some (mayIdI l.f1) := by unfold tag_MayId.f; rw [if_pos hid]
   rw [e]; rfl
def szI (s : ByteArray) : ByteArray := strOfNums [(s.size : Int) % 256] ++ s
theorem szI_size (s : ByteArray) : (szI s).size = 1 + s.size := by
 rw [szI, ByteArray.size_append, strOfNums_size]; rfl
def leafTextI (l : SLeaf) : ByteArray := if mayLeafI l = true then (if l.f0 = true then strOfNums [2] ++ szI l.f2 else strOfNums [0] ++ szI l.f1 ++ szI l.f2 ++ u128B l.f3.f0 l.f3.f1) else ⟨#[]⟩
theorem tagSized_eq (s : ByteArray) (hs : s.size ≤ 1000000) : tag_sized.f s = some (szI s) := by
 unfold tag_sized.f szI
 simp only [Option.bind_some]
 rw [if_pos (by rw [strOfNums_size]; show 1 + _ ≤ _; omega)]
end Go.Proofs.YtfcodmdckcihmaaDoor.P
namespace Go.Proofs.YtfcodmdckcihmaaDoor.P
open Go.RowKit Go.Proofs.YtfcodmdckcihmaaDoorW.PrintWords Go.Proofs.YtfcodmdckcihmaaDoorW.PrintLast Go.Proofs.YtfcodmdckcihmaaDoorW.PrintMore
set_option linter.unusedVariables false
set_option linter.unusedSimpArgs false
set_option linter.unnecessarySimpa false
def sel (b : Bool) (v u : Value) : Value := match b with | true => v | false => u
theorem sel_true (v u : Value) : sel true v u = v := rfl
def rgNeeds (o : Oper) : List Nat := (o.after.toList.filter (fun e => Region.binds .any e)).map (fun e => e.on)
def rgOrd (ops : Array Oper) : Bool := (List.range ops.size).all fun i => match ops[i]? with
 | some o => (rgNeeds o).all (fun j => decide (j < i))
 | none => true
def upd (l : Nat → Bool) (i : Nat) : Nat → Bool := fun j => if j = i then true else l j
def rgUndone (n : Nat) (l : Nat → Bool) : Nat := (List.range n).countP (fun j => !l j)
theorem rgUndone_zero {n : Nat} {l : Nat → Bool} (h : rgUndone n l = 0) : ∀ i, i < n → l i = true := by
 intro i hi
 have := List.countP_eq_zero.1 h i (List.mem_range.2 hi)
 simpa using this
theorem countP_upd (l : Nat → Bool) (i : Nat) (hl : l i = false) : ∀ L : List Nat, L.Nodup → i ∈ L → L.countP (fun j => !upd l i j) + 1 = L.countP (fun j => !l j)
 | [], _, h => absurd h (List.not_mem_nil)
 | x :: L, hn, h => by
  rw [List.countP_cons, List.countP_cons]
  by_cases e : x = i
  ·
   subst e
   have hx : x ∉ L := (List.nodup_cons.1 hn).1
   have e1 : L.countP (fun j => !upd l x j) = L.countP (fun j => !l j) := by
    refine List.countP_congr (fun j hj => ?_)
    have : j ≠ x := fun e => hx (e ▸ hj)
    simp [upd, this]
   rw [e1]; simp [upd, hl]
  ·
   have := countP_upd l i hl L (List.nodup_cons.1 hn).2 ((List.mem_cons.1 h).resolve_left (fun e' => e e'.symm))
   have e2 : upd l i x = l x := by simp [upd, e]
   rw [e2]; omega
theorem rgUndone_upd {n i : Nat} {l : Nat → Bool} (hi : i < n) (hl : l i = false) : rgUndone n (upd l i) + 1 = rgUndone n l := countP_upd l i hl _ List.nodup_range (List.mem_range.2 hi)
section
variable {P : Program} {ops : Array Oper} {Q : Exit → Act → World → Prop}
def StepAt (P : Program) (ops : Array Oper) (Q : Exit → Act → World → Prop) (I : (Nat → Bool) → Act → World → Prop) (i : Nat) : Prop :=
 ∀ o, ops[i]? = some o → ∀ l a w, I l a w → l i = false → (∀ j ∈ rgNeeds o, l j = true) → if Region.wanted o (yielded ops a.tmps) = true then o.wp P a w (fun a' w' => I (upd l i) a' w') Q else I (upd l i) (a.put o.dst undef) w
theorem rg_any (I : (Nat → Bool) → Act → World → Prop) (hord : rgOrd ops = true) (hstep : ∀ i, i < ops.size → StepAt P ops Q I i) (hend : ∀ l a w, I l a w → (∀ i, i < ops.size → l i = true) → Q .normal a w) :
  ∀ (fuel : Nat) (arr : Array Bool) (a : Act) (w : World), arr.size = ops.size → I (fun j => arr.getD j false) a w → rgUndone ops.size (fun j => arr.getD j false) ≤ fuel → wpAny P .any ops Q fuel arr a w := by
 have hready : ∀ arr : Array Bool, arr.size = ops.size → Region.ready .any ops arr = [] → ∀ i, i < ops.size → arr.getD i false = true := by
  intro arr hs hr i
  induction i using Nat.strongRecOn with
  | ind i ih =>
   intro hi
   cases hb : arr.getD i false with
   | true => rfl
   | false =>
    exfalso
    have ho : ops[i]? = some ops[i] := Array.getElem?_eq_getElem hi
    have hall : (rgNeeds ops[i]).all (fun j => decide (j < i)) = true := by
     have := List.all_eq_true.1 hord i (List.mem_range.2 hi)
     simp only [ho] at this
     exact this
    have hmem : i ∈ Region.ready .any ops arr := by
     unfold Region.ready
     rw [List.mem_filter]
     refine ⟨List.mem_range.2 hi, ?_⟩
     have h1 : arr.getD i true = false := by
      simp only [Array.getD_eq_getD_getElem?] at hb ⊢
      rw [Array.getElem?_eq_getElem (by omega)] at hb ⊢
      simpa using hb
     simp only [h1, Bool.not_false, Bool.true_and, ho, Option.map_some, Option.getD_some]
     rw [← Array.all_toList, List.all_eq_true]
     intro e he
     cases hbd : Region.binds .any e with
     | false => rfl
     | true =>
      have hj : e.on ∈ rgNeeds ops[i] := List.mem_map.2 ⟨e, List.mem_filter.2 ⟨he, hbd⟩, rfl⟩
      have hlt : e.on < i := by simpa using List.all_eq_true.1 hall e.on hj
      rw [ih e.on hlt (by omega)]; rfl
    rw [hr] at hmem
    exact absurd hmem (List.not_mem_nil)
 intro fuel
 induction fuel with
 | zero =>
  intro arr a w hs hI hu
  have hd := rgUndone_zero (Nat.le_zero.1 hu)
  refine ⟨?_, hend _ a w hI hd⟩
  unfold Region.ready
  rw [List.filter_eq_nil_iff]
  intro i hi
  have h1 := hd i (List.mem_range.1 hi)
  have h2 : arr.getD i true = true := by
   have hlt := List.mem_range.1 hi
   simp only [Array.getD_eq_getD_getElem?] at h1 ⊢
   rw [Array.getElem?_eq_getElem (by omega)] at h1 ⊢
   simpa using h1
  simp [h2]
 | succ fuel ih =>
  intro arr a w hs hI hu
  refine ⟨fun hr => hend _ a w hI (hready arr hs hr), fun i hi => ?_⟩
  unfold Region.ready at hi
  rw [List.mem_filter] at hi
  obtain ⟨hir, hi2⟩ := hi
  have hlt := List.mem_range.1 hir
  have ho : ops[i]? = some ops[i] := Array.getElem?_eq_getElem hlt
  simp only [ho, Option.map_some, Option.getD_some, Bool.and_eq_true, Bool.not_eq_true'] at hi2
  have hb : arr.getD i false = false := by
   have h1 := hi2.1
   simp only [Array.getD_eq_getD_getElem?] at h1 ⊢
   rw [Array.getElem?_eq_getElem (by omega)] at h1 ⊢
   simpa using h1
  have hn : ∀ j ∈ rgNeeds ops[i], arr.getD j false = true := by
   intro j hj
   obtain ⟨e, he, rfl⟩ := List.mem_map.1 hj
   obtain ⟨he1, he2⟩ := List.mem_filter.1 he
   have h3 := hi2.2
   rw [← Array.all_toList, List.all_eq_true] at h3
   have := h3 e he1
   rw [he2] at this
   simpa using this
  have hst := hstep i hlt _ ho _ a w hI hb hn
  have hK : ∀ a' w', I (upd (fun j => arr.getD j false) i) a' w' → wpAny P .any ops Q fuel (arr.setIfInBounds i true) a' w' := by
   intro a' w' h'
   have e : (fun j => (arr.setIfInBounds i true).getD j false) = upd (fun j => arr.getD j false) i := by
    funext j
    unfold upd
    simp only [Array.getD_eq_getD_getElem?]
    by_cases e : j = i
    ·
     subst e
     rw [if_pos rfl, Array.getElem?_setIfInBounds_self_of_lt (by omega)]; rfl
    ·
     rw [if_neg e, Array.getElem?_setIfInBounds_ne (fun h => e h.symm)]
   refine ih _ a' w' (by simpa using hs) (by rw [e]; exact h') ?_
   rw [e]
   have := rgUndone_upd (l := fun j => arr.getD j false) hlt hb
   omega
  unfold wpOp
  rw [ho]
  dsimp only
  split
  ·
   rename_i hw
   rw [if_pos hw] at hst
   exact .inl (Oper.wp_mono hK hst)
  ·
   rename_i hw
   rw [if_neg hw] at hst
   exact hK _ _ hst
theorem region_inv {id : Nat} {a : Act} {w : World} (I : (Nat → Bool) → Act → World → Prop) (n : Nat) (hm : P.follows .mixedOrders = true) (hn : ops.size = n) (hord : rgOrd ops = true) (h0 : I (fun _ => false) a w.drew)
  (hend : ∀ l a w, I l a w → (∀ i, i < n → l i = true) → Q .normal a w) (hstep : ∀ i, i < n → StepAt P ops Q I i) : (Code.region id ops true).wp P Q a w := by
 subst hn
 refine wp_region_any hm (rg_any I hord hstep hend ops.size _ a _ (by simp) ?_ ?_)
 ·
  have e : (fun j => (Array.replicate ops.size false).getD j false) = fun _ => false := by
   funext j
   simp only [Array.getD_eq_getD_getElem?, Array.getElem?_replicate]
   split <;> rfl
  rw [e]; exact h0
 ·
  unfold rgUndone
  have := List.countP_le_length (p := fun j => !(Array.replicate ops.size false).getD j false) (l := List.range ops.size)
  simpa using this
theorem rg_cons {p : Nat → Prop} {n : Nat} (h : ∀ i, i < n → p i) (hn : p n) : ∀ i, i < n + 1 → p i := fun i hi => by
 by_cases e : i = n
 ·
  subst e; exact hn
 ·
  exact h i (by omega)
theorem rg_nil {p : Nat → Prop} : ∀ i, i < 0 → p i := fun i hi => absurd hi (Nat.not_lt_zero _)
theorem rg_step {I : (Nat → Bool) → Act → World → Prop} {i : Nat} {oi : Oper} (hi : ops[i]? = some oi)
  (h : ∀ l a w, I l a w → l i = false → (∀ j ∈ rgNeeds oi, l j = true) → if Region.wanted oi (yielded ops a.tmps) = true then oi.wp P a w (fun a' w' => I (upd l i) a' w') Q else I (upd l i) (a.put oi.dst undef) w) : StepAt P ops Q I i := by
 intro o ho
 rw [hi] at ho
 cases ho
 exact h
theorem rg_val {K : Act → World → Prop} {oi : Oper} {a : Act} {w w' : World} {v : Value} (hw : Region.wanted oi (yielded ops a.tmps) = true) (hrun : (execOp a.eval oi).run P w = .ok (.value v) w') (hK : K (a.put oi.dst v) w') :
  if Region.wanted oi (yielded ops a.tmps) = true then oi.wp P a w K Q else K (a.put oi.dst undef) w := by
 rw [if_pos hw]; unfold Oper.wp; rw [hrun]; exact hK
theorem rg_skip {K : Act → World → Prop} {oi : Oper} {a : Act} {w w' : World} (hw : Region.wanted oi (yielded ops a.tmps) = true) (hrun : (execOp a.eval oi).run P w = .ok .skip w') (hK : K (a.put oi.dst undef) w') :
  if Region.wanted oi (yielded ops a.tmps) = true then oi.wp P a w K Q else K (a.put oi.dst undef) w := by
 rw [if_pos hw]; unfold Oper.wp; rw [hrun]; exact hK
theorem rg_call {K : Act → World → Prop} {oi : Oper} {a : Act} {w : World} {f : FuncId} {args : Array Value} (hw : Region.wanted oi (yielded ops a.tmps) = true) (hrun : (execOp a.eval oi).run P w = .ok (.enter f args) w)
  (h : Calls P f args w fun e w' => ∃ v, e = .returned v ∧ K (a.put oi.dst v) w') :
  if Region.wanted oi (yielded ops a.tmps) = true then oi.wp P a w K Q else K (a.put oi.dst undef) w := by
 rw [if_pos hw]; unfold Oper.wp; rw [hrun]
 exact h.mono fun e w' ⟨v, he, hk⟩ => by subst he; exact hk
theorem rg_not {K : Act → World → Prop} {oi : Oper} {a : Act} {w : World} (hw : Region.wanted oi (yielded ops a.tmps) = false) (hK : K (a.put oi.dst undef) w) :
  if Region.wanted oi (yielded ops a.tmps) = true then oi.wp P a w K Q else K (a.put oi.dst undef) w := by
 rw [if_neg (by rw [hw]; decide)]; exact hK
end
end Go.Proofs.YtfcodmdckcihmaaDoor.P
namespace Go.Proofs.YtfcodmdckcihmaaDoor.P
open Go.RowKit Go.Proofs.YtfcodmdckcihmaaDoorW.PrintWords Go.Proofs.YtfcodmdckcihmaaDoorW.PrintLast Go.Proofs.YtfcodmdckcihmaaDoorW.PrintMore
set_option linter.unusedVariables false
set_option linter.unusedSimpArgs false
set_option linter.unnecessarySimpa false
attribute [local go_sem] sel_true
abbrev leafC (l : SLeaf) : Array Value := #[.bool l.f0, .string l.f1, .string l.f2, .int .u64 l.f3.f0, .int .u64 l.f3.f1]
structure LtS (w W : World) (l : SLeaf) : Prop where
 hB : Below w.heap.size w W
 h0 : W.heap[w.heap.size]? = some (.cells (leafC l) 36 (0, 0))
theorem LtS.below {w W W' : World} {l : SLeaf} (h : LtS w W l) (hb : Below W.heap.size W W') : LtS w W' l := ⟨h.hB.trans (hb.mono h.hB.size), blk_below h.h0 hb⟩
set_option maxRecDepth 100000 in
set_option maxHeartbeats 2000000 in
theorem leafText.calls (l : SLeaf) (hid : l.f1.size ≤ 1000000) (hsa : l.f2.size ≤ 1000000) (w : World) (hK : LaidT w) :
  Calls Tryd.prog 31 #[.agg (leafC l)] w fun e w' => e = .returned (.string (leafTextI l)) ∧ Below w.heap.size w w' := by
 have HL := aM' hid
 have HR := aM' hsa
 have HK := aM' hK
 have HM := aM' (tagMayLeaf_eq l hid)
 have HT := aM' (show leafTextI l = if mayLeafI l = true then (if l.f0 = true then strOfNums [2] ++ szI l.f2 else strOfNums [0] ++ szI l.f1 ++ szI l.f2 ++ u128B l.f3.f0 l.f3.f1) else ⟨#[]⟩ from rfl)
 obtain ⟨bi, hbi⟩ : ∃ b, b = szI l.f1 := ⟨_, rfl⟩
 obtain ⟨bs, hbs⟩ : ∃ b, b = szI l.f2 := ⟨_, rfl⟩
 obtain ⟨bb, hbb⟩ : ∃ b, b = u128B l.f3.f0 l.f3.f1 := ⟨_, rfl⟩
 have HBl := aM' (show bi.size ≤ 1000001 by rw [hbi, szI_size]; omega)
 have HBr := aM' (show bs.size ≤ 1000001 by rw [hbs, szI_size]; omega)
 have HBb := aM' (show bb.size = 16 by rw [hbb, u128B_size])
 have HFi := aM' (show tag_sized.f l.f1 = some bi by rw [hbi]; exact tagSized_eq _ hid)
 have HFs := aM' (show tag_sized.f l.f2 = some bs by rw [hbs]; exact tagSized_eq _ hsa)
 have HFb := aM' (show u128_Bytes.f l.f3.f0 l.f3.f1 = some bb by rw [hbb]; exact u128Bytes_eq _ _)
 rw [← hbi, ← hbs, ← hbb] at HT
 clear hbi hbs hbb hid hsa hK
 generalize leafTextI l = tx at HT ⊢
 go_enter Tryd.func31, Tryd.ntmps31
 go_wp2_with fail
 have HS := aM' (show LtS w (w.alloc (.cells (leafC l) 36)) l from ⟨below_alloc (Below.refl _ _) _, blk_new w _⟩)
 refine (tag_MayLeaf.calls l.f0 l.f1 l.f2 l.f3.f0 l.f3.f1 _ _ (HK.out.below HS.out.hB) HM.out).mono ?_
 rintro x w1 ⟨rfl, hb⟩
 have hS1 := HS.out.below hb
 clear HS hb
 have HS := aM' hS1
 have cp : w1.cell? ⟨w.heap.size, 0, none⟩ = some (.bool l.f0) := blk_cell hS1.h0 0
 clear hS1
 cases hm : mayLeafI l with
 | false =>
  rw [hm] at HT
  have HT2 := aM' (HT.out.trans (if_neg (by decide)))
  clear hm HT
  go_wp2
  go_ret
  exact ⟨by rw [HT2.out]; rfl, HS.out.hB⟩
 | true =>
  rw [hm] at HT
  have HT2 := aM' (HT.out.trans (if_pos rfl))
  clear hm HT
  cases hp : l.f0 with
  | true =>
   rw [hp] at HT2 cp
   have HT3 := aM' (HT2.out.trans (if_pos rfl))
   clear HT2
   go_wp2
   refine region_inv (fun l_ a W => ∃ γ : Nat, a = ({ tmps := #[.agg (leafC l), .pointer (some ⟨w.heap.size, 0, none⟩), sel (l_ 6) (.string ((⟨#[2]⟩ : ByteArray) ++ bs)) (.string ⟨#[]⟩), .bool false, .agg #[.bool true, .string l.f1, .string l.f2, .int .u64 l.f3.f0, .int .u64 l.f3.f1], .bool true, .bool false, .bool true, .pointer (some ⟨w.heap.size, 0, none⟩), .bool true, sel (l_ 0) (.slice (some ⟨γ, 0, none⟩) 1 1) (undef), sel (l_ 1) (.string (⟨#[2]⟩ : ByteArray)) (undef), sel (l_ 2) (.pointer (some ⟨w.heap.size, 2, none⟩)) (undef), sel (l_ 3) (.string l.f2) (undef), sel (l_ 4) (.string bs) (undef), sel (l_ 5) (.string ((⟨#[2]⟩ : ByteArray) ++ bs)) (undef), undef, undef, undef, undef, undef, undef, undef, undef, undef, undef, undef, undef, undef, undef], defers := [] } : Act) ∧ (LtS w W l ∧ (l_ 0 = true → W.heap[γ]? = some (.cells #[.int .u8 2] 5 (0, 0))))) 7 rfl rfl (by kernel_rfl) ?h0 ?hend ?hstep
   case h0 => exact ⟨0, rfl, HS.out.below (below_drew (Below.refl _ _)), fun h => by cases h⟩
   case hstep =>
    refine rg_cons (rg_cons (rg_cons (rg_cons (rg_cons (rg_cons (rg_cons (rg_nil) ?s0) ?s1) ?s2) ?s3) ?s4) ?s5) ?s6
    case s0 =>
     refine rg_step rfl ?_
     rintro l_ a W ⟨γ, rfl, hI⟩ hl hd
     clear hd
     refine rg_val (v := .slice (some ⟨W.heap.size, 0, none⟩) 1 1) (w' := W.alloc (.cells #[.int .u8 2] 5)) rfl (by go_simp) ?_
     refine ⟨W.heap.size, ?_, ?_⟩
     ·
      simp only [Act.put, List.setIfInBounds_toArray, List.set_cons_zero, List.set_cons_succ]; rfl
     ·
      exact ⟨hI.1.below (below_alloc (Below.refl _ _) _), fun _ => blk_new W _⟩
    case s1 =>
     refine rg_step rfl ?_
     rintro l_ a W ⟨γ, rfl, hI⟩ hl hd
     have d0 := hd 0 (by decide)
     clear hd
     have y0 := blk_cell (hI.2 d0) 0
     simp at y0
     refine rg_val (v := .string (⟨#[2]⟩ : ByteArray)) (w' := W) rfl ?_ ?_
     ·
      have hcv := run_convert_bytes_arg (P := Tryd.prog) (w := W) 125 5 Tryd.underlying125 Tryd.underlying5 γ 0 1 1 [2] rfl (fun i hi => by obtain rfl : i = 0 := (by omega); exact y0) 9 Tryd.underlying9
      rw [show strOfNums [2] = (⟨#[2]⟩ : ByteArray) from rfl] at hcv
      go_simp
     refine ⟨γ, ?_, ?_⟩
     ·
      simp only [Act.put, List.setIfInBounds_toArray, List.set_cons_zero, List.set_cons_succ]; rfl
     ·
      exact hI
    case s2 =>
     refine rg_step rfl ?_
     rintro l_ a W ⟨γ, rfl, hI⟩ hl hd
     clear hd
     refine rg_val (v := .pointer (some ⟨w.heap.size, 2, none⟩)) (w' := W) rfl (by go_simp) ?_
     refine ⟨γ, ?_, ?_⟩
     ·
      simp only [Act.put, List.setIfInBounds_toArray, List.set_cons_zero, List.set_cons_succ]; rfl
     ·
      exact hI
    case s3 =>
     refine rg_step rfl ?_
     rintro l_ a W ⟨γ, rfl, hI⟩ hl hd
     have d2 := hd 2 (by decide)
     clear hd
     have x2 := blk_cell (hI.1.h0) 2
     simp at x2
     refine rg_val (v := .string l.f2) (w' := W) rfl (by go_simp) ?_
     refine ⟨γ, ?_, ?_⟩
     ·
      simp only [Act.put, List.setIfInBounds_toArray, List.set_cons_zero, List.set_cons_succ]; rfl
     ·
      exact hI
    case s4 =>
     refine rg_step rfl ?_
     rintro l_ a W ⟨γ, rfl, hI⟩ hl hd
     have d3 := hd 3 (by decide)
     clear hd
     refine rg_call rfl (by go_simp; exact ⟨rfl, rfl⟩) ?_
     refine (tag_sized.calls _ _ _ HFs.out).mono ?_
     rintro x W' ⟨rfl, hb⟩
     refine ⟨_, rfl, γ, ?_, ?_⟩
     ·
      simp only [Act.put, List.setIfInBounds_toArray, List.set_cons_zero, List.set_cons_succ]; rfl
     ·
      exact ⟨hI.1.below hb, fun h => blk_below (hI.2 h) hb⟩
    case s5 =>
     refine rg_step rfl ?_
     rintro l_ a W ⟨γ, rfl, hI⟩ hl hd
     have d1 := hd 1 (by decide)
     have d4 := hd 4 (by decide)
     clear hd
     refine rg_val (v := .string ((⟨#[2]⟩ : ByteArray) ++ bs)) (w' := W) rfl (by go_simp; have := HBl.out; have := HBr.out; have := HBb.out; omega) ?_
     refine ⟨γ, ?_, ?_⟩
     ·
      simp only [Act.put, List.setIfInBounds_toArray, List.set_cons_zero, List.set_cons_succ]; rfl
     ·
      exact hI
    case s6 =>
     refine rg_step rfl ?_
     rintro l_ a W ⟨γ, rfl, hI⟩ hl hd
     have d5 := hd 5 (by decide)
     clear hd
     refine rg_val (v := .string ((⟨#[2]⟩ : ByteArray) ++ bs)) (w' := W) rfl (by go_simp) ?_
     refine ⟨γ, ?_, ?_⟩
     ·
      simp only [Act.put, List.setIfInBounds_toArray, List.set_cons_zero, List.set_cons_succ]; rfl
     ·
      exact hI
   case hend =>
    rintro l_ a W ⟨γ, rfl, hI⟩ hall
    have e0 := hall 0 (by decide)
    have e1 := hall 1 (by decide)
    have e2 := hall 2 (by decide)
    have e3 := hall 3 (by decide)
    have e4 := hall 4 (by decide)
    have e5 := hall 5 (by decide)
    have e6 := hall 6 (by decide)
    clear hall
    simp only [e0, e1, e2, e3, e4, e5, e6, sel_true]
    clear e0 e1 e2 e3 e4 e5 e6
    have HI := aM' hI.1
    clear hI
    go_wp2
    go_ret
    exact ⟨by rw [HT3.out]; rfl, HI.out.hB⟩
  | false =>
   rw [hp] at HT2 cp
   have HT3 := aM' (HT2.out.trans (if_neg (by decide)))
   clear HT2
   go_wp2
   refine region_inv (fun l_ a W => ∃ γ : Nat, a = ({ tmps := #[.agg (leafC l), .pointer (some ⟨w.heap.size, 0, none⟩), sel (l_ 14) (.string ((⟨#[0]⟩ : ByteArray) ++ bi ++ bs ++ bb)) (.string ⟨#[]⟩), .bool false, .agg #[.bool false, .string l.f1, .string l.f2, .int .u64 l.f3.f0, .int .u64 l.f3.f1], .bool true, .bool false, .bool false, .pointer (some ⟨w.heap.size, 0, none⟩), .bool false, undef, undef, undef, undef, undef, undef, sel (l_ 0) (.slice (some ⟨γ, 0, none⟩) 1 1) (undef), sel (l_ 1) (.string (⟨#[0]⟩ : ByteArray)) (undef), sel (l_ 2) (.pointer (some ⟨w.heap.size, 1, none⟩)) (undef), sel (l_ 3) (.string l.f1) (undef), sel (l_ 4) (.string bi) (undef), sel (l_ 5) (.string ((⟨#[0]⟩ : ByteArray) ++ bi)) (undef), sel (l_ 6) (.pointer (some ⟨w.heap.size, 2, none⟩)) (undef), sel (l_ 7) (.string l.f2) (undef), sel (l_ 8) (.string bs) (undef), sel (l_ 9) (.string ((⟨#[0]⟩ : ByteArray) ++ bi ++ bs)) (undef), sel (l_ 10) (.pointer (some ⟨w.heap.size, 3, none⟩)) (undef), sel (l_ 11) (.agg #[.int .u64 l.f3.f0, .int .u64 l.f3.f1]) (undef), sel (l_ 12) (.string bb) (undef), sel (l_ 13) (.string ((⟨#[0]⟩ : ByteArray) ++ bi ++ bs ++ bb)) (undef)], defers := [] } : Act) ∧ (LtS w W l ∧ (l_ 0 = true → W.heap[γ]? = some (.cells #[.int .u8 0] 5 (0, 0))))) 15 rfl rfl (by kernel_rfl) ?h0 ?hend ?hstep
   case h0 => exact ⟨0, rfl, HS.out.below (below_drew (Below.refl _ _)), fun h => by cases h⟩
   case hstep =>
    refine rg_cons (rg_cons (rg_cons (rg_cons (rg_cons (rg_cons (rg_cons (rg_cons (rg_cons (rg_cons (rg_cons (rg_cons (rg_cons (rg_cons (rg_cons (rg_nil) ?s0) ?s1) ?s2) ?s3) ?s4) ?s5) ?s6) ?s7) ?s8) ?s9) ?s10) ?s11) ?s12) ?s13) ?s14
    case s0 =>
     refine rg_step rfl ?_
     rintro l_ a W ⟨γ, rfl, hI⟩ hl hd
     clear hd
     refine rg_val (v := .slice (some ⟨W.heap.size, 0, none⟩) 1 1) (w' := W.alloc (.cells #[.int .u8 0] 5)) rfl (by go_simp) ?_
     refine ⟨W.heap.size, ?_, ?_⟩
     ·
      simp only [Act.put, List.setIfInBounds_toArray, List.set_cons_zero, List.set_cons_succ]; rfl
     ·
      exact ⟨hI.1.below (below_alloc (Below.refl _ _) _), fun _ => blk_new W _⟩
    case s1 =>
     refine rg_step rfl ?_
     rintro l_ a W ⟨γ, rfl, hI⟩ hl hd
     have d0 := hd 0 (by decide)
     clear hd
     have y0 := blk_cell (hI.2 d0) 0
     simp at y0
     refine rg_val (v := .string (⟨#[0]⟩ : ByteArray)) (w' := W) rfl ?_ ?_
     ·
      have hcv := run_convert_bytes_arg (P := Tryd.prog) (w := W) 125 5 Tryd.underlying125 Tryd.underlying5 γ 0 1 1 [0] rfl (fun i hi => by obtain rfl : i = 0 := (by omega); exact y0) 9 Tryd.underlying9
      rw [show strOfNums [0] = (⟨#[0]⟩ : ByteArray) from rfl] at hcv
      go_simp
     refine ⟨γ, ?_, ?_⟩
     ·
      simp only [Act.put, List.setIfInBounds_toArray, List.set_cons_zero, List.set_cons_succ]; rfl
     ·
      exact hI
    case s2 =>
     refine rg_step rfl ?_
     rintro l_ a W ⟨γ, rfl, hI⟩ hl hd
     clear hd
     refine rg_val (v := .pointer (some ⟨w.heap.size, 1, none⟩)) (w' := W) rfl (by go_simp) ?_
     refine ⟨γ, ?_, ?_⟩
     ·
      simp only [Act.put, List.setIfInBounds_toArray, List.set_cons_zero, List.set_cons_succ]; rfl
     ·
      exact hI
    case s3 =>
     refine rg_step rfl ?_
     rintro l_ a W ⟨γ, rfl, hI⟩ hl hd
     have d2 := hd 2 (by decide)
     clear hd
     have x1 := blk_cell (hI.1.h0) 1
     simp at x1
     refine rg_val (v := .string l.f1) (w' := W) rfl (by go_simp) ?_
     refine ⟨γ, ?_, ?_⟩
     ·
      simp only [Act.put, List.setIfInBounds_toArray, List.set_cons_zero, List.set_cons_succ]; rfl
     ·
      exact hI
    case s4 =>
     refine rg_step rfl ?_
     rintro l_ a W ⟨γ, rfl, hI⟩ hl hd
     have d3 := hd 3 (by decide)
     clear hd
     refine rg_call rfl (by go_simp; exact ⟨rfl, rfl⟩) ?_
     refine (tag_sized.calls _ _ _ HFi.out).mono ?_
     rintro x W' ⟨rfl, hb⟩
     refine ⟨_, rfl, γ, ?_, ?_⟩
     ·
      simp only [Act.put, List.setIfInBounds_toArray, List.set_cons_zero, List.set_cons_succ]; rfl
     ·
      exact ⟨hI.1.below hb, fun h => blk_below (hI.2 h) hb⟩
    case s5 =>
     refine rg_step rfl ?_
     rintro l_ a W ⟨γ, rfl, hI⟩ hl hd
     have d1 := hd 1 (by decide)
     have d4 := hd 4 (by decide)
     clear hd
     refine rg_val (v := .string ((⟨#[0]⟩ : ByteArray) ++ bi)) (w' := W) rfl (by go_simp; have := HBl.out; have := HBr.out; have := HBb.out; omega) ?_
     refine ⟨γ, ?_, ?_⟩
     ·
      simp only [Act.put, List.setIfInBounds_toArray, List.set_cons_zero, List.set_cons_succ]; rfl
     ·
      exact hI
    case s6 =>
     refine rg_step rfl ?_
     rintro l_ a W ⟨γ, rfl, hI⟩ hl hd
     clear hd
     refine rg_val (v := .pointer (some ⟨w.heap.size, 2, none⟩)) (w' := W) rfl (by go_simp) ?_
     refine ⟨γ, ?_, ?_⟩
     ·
      simp only [Act.put, List.setIfInBounds_toArray, List.set_cons_zero, List.set_cons_succ]; rfl
     ·
      exact hI
    case s7 =>
     refine rg_step rfl ?_
     rintro l_ a W ⟨γ, rfl, hI⟩ hl hd
     have d6 := hd 6 (by decide)
     clear hd
     have x2 := blk_cell (hI.1.h0) 2
     simp at x2
     refine rg_val (v := .string l.f2) (w' := W) rfl (by go_simp) ?_
     refine ⟨γ, ?_, ?_⟩
     ·
      simp only [Act.put, List.setIfInBounds_toArray, List.set_cons_zero, List.set_cons_succ]; rfl
     ·
      exact hI
    case s8 =>
     refine rg_step rfl ?_
     rintro l_ a W ⟨γ, rfl, hI⟩ hl hd
     have d7 := hd 7 (by decide)
     clear hd
     refine rg_call rfl (by go_simp; exact ⟨rfl, rfl⟩) ?_
     refine (tag_sized.calls _ _ _ HFs.out).mono ?_
     rintro x W' ⟨rfl, hb⟩
     refine ⟨_, rfl, γ, ?_, ?_⟩
     ·
      simp only [Act.put, List.setIfInBounds_toArray, List.set_cons_zero, List.set_cons_succ]; rfl
     ·
      exact ⟨hI.1.below hb, fun h => blk_below (hI.2 h) hb⟩
    case s9 =>
     refine rg_step rfl ?_
     rintro l_ a W ⟨γ, rfl, hI⟩ hl hd
     have d5 := hd 5 (by decide)
     have d8 := hd 8 (by decide)
     clear hd
     refine rg_val (v := .string ((⟨#[0]⟩ : ByteArray) ++ bi ++ bs)) (w' := W) rfl (by go_simp; have := HBl.out; have := HBr.out; have := HBb.out; omega) ?_
     refine ⟨γ, ?_, ?_⟩
     ·
      simp only [Act.put, List.setIfInBounds_toArray, List.set_cons_zero, List.set_cons_succ]; rfl
     ·
      exact hI
    case s10 =>
     refine rg_step rfl ?_
     rintro l_ a W ⟨γ, rfl, hI⟩ hl hd
     clear hd
     refine rg_val (v := .pointer (some ⟨w.heap.size, 3, none⟩)) (w' := W) rfl (by go_simp) ?_
     refine ⟨γ, ?_, ?_⟩
     ·
      simp only [Act.put, List.setIfInBounds_toArray, List.set_cons_zero, List.set_cons_succ]; rfl
     ·
      exact hI
    case s11 =>
     refine rg_step rfl ?_
     rintro l_ a W ⟨γ, rfl, hI⟩ hl hd
     have d10 := hd 10 (by decide)
     clear hd
     have x3 := blk_cell (hI.1.h0) 3
     have x4 := blk_cell (hI.1.h0) 4
     simp at x3 x4
     refine rg_val (v := .agg #[.int .u64 l.f3.f0, .int .u64 l.f3.f1]) (w' := W) rfl (by go_simp) ?_
     refine ⟨γ, ?_, ?_⟩
     ·
      simp only [Act.put, List.setIfInBounds_toArray, List.set_cons_zero, List.set_cons_succ]; rfl
     ·
      exact hI
    case s12 =>
     refine rg_step rfl ?_
     rintro l_ a W ⟨γ, rfl, hI⟩ hl hd
     have d11 := hd 11 (by decide)
     clear hd
     refine rg_call rfl (by go_simp; exact ⟨rfl, rfl⟩) ?_
     refine (u128_Bytes.calls _ _ _ _ HFb.out).mono ?_
     rintro x W' ⟨rfl, hb⟩
     refine ⟨_, rfl, γ, ?_, ?_⟩
     ·
      simp only [Act.put, List.setIfInBounds_toArray, List.set_cons_zero, List.set_cons_succ]; rfl
     ·
      exact ⟨hI.1.below hb, fun h => blk_below (hI.2 h) hb⟩
    case s13 =>
     refine rg_step rfl ?_
     rintro l_ a W ⟨γ, rfl, hI⟩ hl hd
     have d9 := hd 9 (by decide)
     have d12 := hd 12 (by decide)
     clear hd
     refine rg_val (v := .string ((⟨#[0]⟩ : ByteArray) ++ bi ++ bs ++ bb)) (w' := W) rfl (by go_simp; have := HBl.out; have := HBr.out; have := HBb.out; omega) ?_
     refine ⟨γ, ?_, ?_⟩
     ·
      simp only [Act.put, List.setIfInBounds_toArray, List.set_cons_zero, List.set_cons_succ]; rfl
     ·
      exact hI
    case s14 =>
     refine rg_step rfl ?_
     rintro l_ a W ⟨γ, rfl, hI⟩ hl hd
     have d13 := hd 13 (by decide)
     clear hd
     refine rg_val (v := .string ((⟨#[0]⟩ : ByteArray) ++ bi ++ bs ++ bb)) (w' := W) rfl (by go_simp) ?_
     refine ⟨γ, ?_, ?_⟩
     ·
      simp only [Act.put, List.setIfInBounds_toArray, List.set_cons_zero, List.set_cons_succ]; rfl
     ·
      exact hI
   case hend =>
    rintro l_ a W ⟨γ, rfl, hI⟩ hall
    have e0 := hall 0 (by decide)
    have e1 := hall 1 (by decide)
    have e2 := hall 2 (by decide)
    have e3 := hall 3 (by decide)
    have e4 := hall 4 (by decide)
    have e5 := hall 5 (by decide)
    have e6 := hall 6 (by decide)
    have e7 := hall 7 (by decide)
    have e8 := hall 8 (by decide)
    have e9 := hall 9 (by decide)
    have e10 := hall 10 (by decide)
    have e11 := hall 11 (by decide)
    have e12 := hall 12 (by decide)
    have e13 := hall 13 (by decide)
    have e14 := hall 14 (by decide)
    clear hall
    simp only [e0, e1, e2, e3, e4, e5, e6, e7, e8, e9, e10, e11, e12, e13, e14, sel_true]
    clear e0 e1 e2 e3 e4 e5 e6 e7 e8 e9 e10 e11 e12 e13 e14
    have HI := aM' hI.1
    clear hI
    go_wp2
    go_ret
    exact ⟨by rw [HT3.out]; rfl, HI.out.hB⟩
def tag_LeafText.f (a0 : Bool) (a1 a2 : ByteArray) (a3 a4 : Int) : Option ByteArray := if a1.size ≤ 1000000 ∧ a2.size ≤ 1000000 then some (leafTextI ⟨a0, a1, a2, ⟨a3, a4⟩⟩) else none
theorem tag_LeafText.calls (a0 : Bool) (a1 a2 : ByteArray) (a3 a4 : Int) (r : ByteArray) (w : World) (hK : LaidT w) (h : tag_LeafText.f a0 a1 a2 a3 a4 = some r) :
  Calls Tryd.prog 31 #[.agg #[.bool a0, .string a1, .string a2, .int .u64 a3, .int .u64 a4]] w fun e w' => e = .returned (.string r) ∧ Below w.heap.size w w' := by
 unfold tag_LeafText.f at h
 split at h
 ·
  rename_i hh
  obtain rfl := Option.some.inj h
  exact leafText.calls ⟨a0, a1, a2, ⟨a3, a4⟩⟩ hh.1 hh.2 w hK
 ·
  cases h
end Go.Proofs.YtfcodmdckcihmaaDoor.P
namespace Go.Proofs.YtfcodmdckcihmaaDoor.P
open Go.RowKit Go.Proofs.YtfcodmdckcihmaaDoorW.PrintWords Go.Proofs.YtfcodmdckcihmaaDoorW.PrintLast Go.Proofs.YtfcodmdckcihmaaDoorW.PrintMore
attribute [local go_sem] max2_int min2_int max_two min_two max_three min_three max_four min_four-- for this text's walks alone
set_option linter.unusedVariables false
set_option linter.unusedSimpArgs false
def tag_LeafNode.j0 : Nat → Int → Bool → Bool → ByteArray → ByteArray → Int → Int → Option (ByteArray × Int × Int)
 | 0, _, _, _, _, _, _, _ => none
 | k + 1, x0, x12, x111000, x111001, x111002, x111003, x111004 => if x12 = true then (some ((⟨#[]⟩ : ByteArray), 0, 0)) else ((tag_LeafText.f x111000 x111001 x111002 x111003 x111004).bind fun t114 => ((tag_Digest.f x0 t114).bind fun t115 => (some (t115, x111003, x111004))))
def tag_LeafNode.f (k : Nat) (a0 : Int) (a1_0 : Bool) (a1_1 : ByteArray) (a1_2 : ByteArray) (a1_3 : Int) (a1_4 : Int) : Option (ByteArray × Int × Int) := (tag_MayWidth.f a0).bind fun t112 => (if t112 = true then ((tag_MayLeaf.f a1_0 a1_1 a1_2 a1_3 a1_4).bind fun t113 => (tag_LeafNode.j0 k a0 (!t113) a1_0 a1_1 a1_2 a1_3 a1_4)) else (tag_LeafNode.j0 k a0 true a1_0 a1_1 a1_2 a1_3 a1_4))
def tag_LeafNode.T3 : Bool × List (List Nat × List Nat) := (true, [([], []), ([], []), ([1], [1]), ([0, 2, 2], [0, 2]), ([], []), ([4], [4]), ([3, 5], [3, 5]), ([6, 3, 0, 1, 2, 3, 4, 5, 6], [6])])
def tag_LeafNode.B3 : List Nat := [0, 0, 2, 7, 0, 16, 63, 127]
theorem tag_LeafNode.tab3 : rtab .any (opsOf Tryd.f34 3) = tag_LeafNode.T3 := by kernel_rfl
theorem tag_LeafNode.bits3 : waitsOk tag_LeafNode.T3.2 tag_LeafNode.B3 = true := by kernel_rfl
set_option maxHeartbeats 8000000 in
set_option maxRecDepth 100000 in
theorem tag_LeafNode.calls (k : Nat) (a0 : Int) (a1_0 : Bool) (a1_1 : ByteArray) (a1_2 : ByteArray) (a1_3 : Int) (a1_4 : Int) (r1 : ByteArray) (r2 : Int) (r3 : Int) (w : World) (hK : LaidT w) (h : tag_LeafNode.f k a0 a1_0 a1_1 a1_2 a1_3 a1_4 = some (r1, r2, r3)) :
  Calls Tryd.prog 34 #[.int .i64 a0, .agg #[.bool a1_0, .string a1_1, .string a1_2, .int .u64 a1_3, .int .u64 a1_4]] w fun e w' => e = .returned (.agg #[.string r1, .int .u64 r2, .int .u64 r3]) ∧ Below w.heap.size w w' := by
 have hu36 := Tryd.underlying36
 have hu46 := Tryd.underlying46
 have hu34 := Tryd.underlying34
 have HB := aM' (Below.refl w.heap.size w)
 have HLD := aM' hK
 clear hK
 have H : ((tag_MayWidth.f a0).bind fun t112 => (if t112 = true then ((tag_MayLeaf.f a1_0 a1_1 a1_2 a1_3 a1_4).bind fun t113 => (tag_LeafNode.j0 k a0 (!t113) a1_0 a1_1 a1_2 a1_3 a1_4)) else (tag_LeafNode.j0 k a0 true a1_0 a1_1 a1_2 a1_3 a1_4))) = some (r1, r2, r3) := h
 clear h
 have HC3 := aM' H
 clear H
 go_enter Tryd.func34, Tryd.ntmps34
 go_upto_region 1 with (first | ((with_reducible refine gate_dst (N := 3) rfl ?_); refine box_event ?hg (N := 3) ?hd (cs := #[.bool a1_0, .string a1_1, .string a1_2, .int .u64 a1_3, .int .u64 a1_4]) (t := 36) ?hr ?_; (case hd => rfl); (case hg => rfl); (case hr => first | (go_simp; done) | (go_simp; rfl)); intro gb110 hg w4 hbox hb; have n0_ := aM' (below_step (by repeat (first | (with_reducible first | exact HB.out | apply below_alloc | apply pw_below_drewN | apply below_drew1) | exact HB.out)) hb); have n1_ := aM' (hbox); have n2_ := aM' ((by rw [hg]; exact (below_size (by repeat (first | (with_reducible first | exact HB.out | apply below_alloc | apply pw_below_drewN | apply below_drew1) | exact HB.out))) : w.heap.size ≤ gb110)); have n3_ := aM' ((by rw [hg]; exact (below_size (by repeat (first | (with_reducible first | exact HB.out | apply below_alloc | apply pw_below_drewN | apply below_drew1) | exact HB.out))) : w.heap.size ≤ gb110)); clear HB; have HB := n0_; have BK110 := n1_; have GW110 := n2_; have GE110 := n3_; clear n0_ n1_ n2_ n3_; clear hb hbox hg) | ((with_reducible refine gate_dst (N := 4) rfl ?_); refine box_event ?hg (N := 4) ?hd (cs := #[.string (⟨#[]⟩ : ByteArray), .int .u64 0, .int .u64 0]) (t := 46) ?hr ?_; (case hd => rfl); (case hg => rfl); (case hr => first | (go_simp; done) | (go_simp; rfl)); intro gb111 hg w5 hbox hb; have n0_ := aM' (blk_below (g := gb110) (o := .cells #[.bool a1_0, .string a1_1, .string a1_2, .int .u64 a1_3, .int .u64 a1_4] 36 (0, 0)) (by (with_reducible repeat (first | refine blk_drewN ?_ _ | refine blk_drew ?_ | refine blk_alloc ?_ _)); exact BK110.out) hb); have n1_ := aM' (below_step (by repeat (first | (with_reducible first | exact HB.out | apply below_alloc | apply pw_below_drewN | apply below_drew1 | refine below_set ?_ GE110.out) | exact HB.out)) hb); have n2_ := aM' (hbox); have n3_ := aM' ((by rw [hg]; exact (below_size (by repeat (first | (with_reducible first | exact HB.out | apply below_alloc | apply pw_below_drewN | apply below_drew1 | refine below_set ?_ GE110.out) | exact HB.out))) : w.heap.size ≤ gb111)); have n4_ := aM' ((by rw [hg]; exact (below_size (by repeat (first | (with_reducible first | exact HB.out | apply below_alloc | apply pw_below_drewN | apply below_drew1 | refine below_set ?_ GE110.out) | exact HB.out))) : w.heap.size ≤ gb111)); have n5_ := aM' ((by rw [hg]; exact Nat.ne_of_lt (blk_lt (g := gb110) (o := .cells #[.bool a1_0, .string a1_1, .string a1_2, .int .u64 a1_3, .int .u64 a1_4] 36 (0, 0)) (by (with_reducible repeat (first | refine blk_drewN ?_ _ | refine blk_drew ?_ | refine blk_alloc ?_ _)); exact BK110.out)) : gb110 ≠ gb111)); have n6_ := aM' ((by rw [hg]; exact Nat.ne_of_gt (blk_lt (g := gb110) (o := .cells #[.bool a1_0, .string a1_1, .string a1_2, .int .u64 a1_3, .int .u64 a1_4] 36 (0, 0)) (by (with_reducible repeat (first | refine blk_drewN ?_ _ | refine blk_drew ?_ | refine blk_alloc ?_ _)); exact BK110.out)) : gb111 ≠ gb110)); clear BK110; clear HB; have BK110 := n0_; have HB := n1_; have BK111 := n2_; have GW111 := n3_; have GE111 := n4_; have NB110_111 := n5_; have NB111_110 := n6_; clear n0_ n1_ n2_ n3_ n4_ n5_ n6_; clear hb hbox hg))
 (try simp only [Act.put, List.setIfInBounds_toArray, List.set_cons_zero, List.set_cons_succ])
 go_cut [12] (fun v12 wc => ∃ (kq : Nat) (x12_2 : Bool), v12 = .bool x12_2 ∧ Aside0 (tag_LeafNode.j0 kq a0 x12_2 a1_0 a1_1 a1_2 a1_3 a1_4 = some (r1, r2, r3)) ∧ Aside0 (kq ≤ k) ∧ Aside0 (wc.heap[gb110]? = some (.cells #[.bool a1_0, .string a1_1, .string a1_2, .int .u64 a1_3, .int .u64 a1_4] 36 (0, 0))) ∧ Aside0 (wc.heap[gb111]? = some (.cells #[.string (⟨#[]⟩ : ByteArray), .int .u64 0, .int .u64 0] 46 (0, 0))) ∧ Aside0 (Below w.heap.size w wc))
 case first =>
  have H := HC3.out
  clear HC3
  replace H := Option.bind_eq_some_iff.mp H
  obtain ⟨t112, A60, H⟩ := H
  replace H : (if t112 = true then ((tag_MayLeaf.f a1_0 a1_1 a1_2 a1_3 a1_4).bind fun t113 => (tag_LeafNode.j0 k a0 (!t113) a1_0 a1_1 a1_2 a1_3 a1_4)) else (tag_LeafNode.j0 k a0 true a1_0 a1_1 a1_2 a1_3 a1_4)) = some (r1, r2, r3) := H
  have A6 := aM' A60
  clear A60
  by_cases c7 : t112 = true
  ·
   subst c7
   have H1 : ((tag_MayLeaf.f a1_0 a1_1 a1_2 a1_3 a1_4).bind fun t113 => (tag_LeafNode.j0 k a0 (!t113) a1_0 a1_1 a1_2 a1_3 a1_4)) = some (r1, r2, r3) := by rw [if_pos rfl] at H; exact H
   clear H
   have H := H1
   clear H1
   replace H := Option.bind_eq_some_iff.mp H
   obtain ⟨t113, A80, H⟩ := H
   replace H : (tag_LeafNode.j0 k a0 (!t113) a1_0 a1_1 a1_2 a1_3 a1_4) = some (r1, r2, r3) := H
   have A8 := aM' A80
   clear A80
   have H' := aM' H
   clear H
   go_wp2_with (first | ((with_reducible refine gate_callee (f := 71) rfl ?_); refine goesL_ (some 6) rfl rfl Tryd.func71 (by kernel_rfl) rfl #[.int .i64 a0] rfl (by (try simp only [List.map_toArray, List.map_cons, List.map_nil]); first | done | rfl | (simp only [List.length_drop, List.length_take]; rfl)) ?_; (with_reducible refine (tag_MayWidth.calls a0 true _ A6.out).mono ?_); rintro e w' ⟨rfl, ⟨nd, rfl⟩⟩; refine ⟨_, rfl, ?_⟩; have hnb9 := NB110_111.out; have hnc9 := NB111_110.out; have hcz10_0 : w5.cell? ⟨gb110, 0, none⟩ = some (.bool a1_0) := (blk_cell BK110.out 0).trans rfl; have hcz10_1 : w5.cell? ⟨gb110, 1, none⟩ = some (.string a1_1) := (blk_cell BK110.out 1).trans rfl; have hcz10_2 : w5.cell? ⟨gb110, 2, none⟩ = some (.string a1_2) := (blk_cell BK110.out 2).trans rfl; have hcz10_3 : w5.cell? ⟨gb110, 3, none⟩ = some (.int .u64 a1_3) := (blk_cell BK110.out 3).trans rfl; have hcz10_4 : w5.cell? ⟨gb110, 4, none⟩ = some (.int .u64 a1_4) := (blk_cell BK110.out 4).trans rfl; have hfz10_0 := blk_frozen BK110.out 0; have hfz10_1 := blk_frozen BK110.out 1; have hfz10_2 := blk_frozen BK110.out 2; have hfz10_3 := blk_frozen BK110.out 3; have hfz10_4 := blk_frozen BK110.out 4) | (go_at_call 56; (with_reducible refine (tag_MayLeaf.calls a1_0 a1_1 a1_2 a1_3 a1_4 t113 _ ?side1 A8.out).mono ?_); (case side1 => exact LaidT.below HLD.out (by repeat (first | (with_reducible first | exact HB.out | apply below_alloc | apply pw_below_drewN | apply below_drew1 | refine below_set ?_ GE110.out | refine below_set ?_ GE111.out) | exact HB.out))); rintro e w11 ⟨rfl, hb⟩; have n0_ := aM' (blk_below (g := gb110) (o := .cells #[.bool a1_0, .string a1_1, .string a1_2, .int .u64 a1_3, .int .u64 a1_4] 36 (0, 0)) (by (with_reducible repeat (first | refine blk_drewN ?_ _ | refine blk_drew ?_ | refine blk_alloc ?_ _)); exact BK110.out) hb); have n1_ := aM' (blk_below (g := gb111) (o := .cells #[.string (⟨#[]⟩ : ByteArray), .int .u64 0, .int .u64 0] 46 (0, 0)) (by (with_reducible repeat (first | refine blk_drewN ?_ _ | refine blk_drew ?_ | refine blk_alloc ?_ _)); exact BK111.out) hb); have n2_ := aM' (below_step (by repeat (first | (with_reducible first | exact HB.out | apply below_alloc | apply pw_below_drewN | apply below_drew1 | refine below_set ?_ GE110.out | refine below_set ?_ GE111.out) | exact HB.out)) hb); clear BK110; clear BK111; clear HB; have BK110 := n0_; have BK111 := n1_; have HB := n2_; clear n0_ n1_ n2_; (try clear hb); (try clear hb2); (try clear hk); (try clear hi)))
   go_meet
   case rel => exact ⟨_, (!t113), (by first | rfl | (simp; done) | (simp [*]; done)), H', ⟨by first | omega | exact Nat.le_refl _⟩, ⟨by (with_reducible repeat (first | refine blk_drewN ?_ _ | refine blk_drew ?_ | refine blk_alloc ?_ _)); exact BK110.out⟩, ⟨by (with_reducible repeat (first | refine blk_drewN ?_ _ | refine blk_drew ?_ | refine blk_alloc ?_ _)); exact BK111.out⟩, ⟨by repeat (first | (with_reducible first | exact HB.out | apply below_alloc | apply pw_below_drewN | apply below_drew1 | refine below_set ?_ GE110.out | refine below_set ?_ GE111.out) | exact HB.out)⟩⟩
  ·
   replace c7 := Bool.eq_false_iff.mpr c7
   subst c7
   have H1 : (tag_LeafNode.j0 k a0 true a1_0 a1_1 a1_2 a1_3 a1_4) = some (r1, r2, r3) := by rw [if_neg (show ¬ (false = true) by decide)] at H; exact H
   clear H
   have H := H1
   clear H1
   have H' := aM' H
   clear H
   go_wp2_with (first | ((with_reducible refine gate_callee (f := 71) rfl ?_); refine goesL_ (some 6) rfl rfl Tryd.func71 (by kernel_rfl) rfl #[.int .i64 a0] rfl (by (try simp only [List.map_toArray, List.map_cons, List.map_nil]); first | done | rfl | (simp only [List.length_drop, List.length_take]; rfl)) ?_; (with_reducible refine (tag_MayWidth.calls a0 false _ A6.out).mono ?_); rintro e w' ⟨rfl, ⟨nd, rfl⟩⟩; refine ⟨_, rfl, ?_⟩))
   go_meet
   case rel => exact ⟨_, (true), (by first | rfl | (simp; done) | (simp [*]; done)), H', ⟨by first | omega | exact Nat.le_refl _⟩, ⟨by (with_reducible repeat (first | refine blk_drewN ?_ _ | refine blk_drew ?_ | refine blk_alloc ?_ _)); exact BK110.out⟩, ⟨by (with_reducible repeat (first | refine blk_drewN ?_ _ | refine blk_drew ?_ | refine blk_alloc ?_ _)); exact BK111.out⟩, ⟨by repeat (first | (with_reducible first | exact HB.out | apply below_alloc | apply pw_below_drewN | apply below_drew1 | refine below_set ?_ GE110.out | refine below_set ?_ GE111.out) | exact HB.out)⟩⟩
 case rest =>
  clear HC3
  try clear p2
  try clear c3
  try clear c7
  try clear c9
  try clear hcz10_0
  try clear hcz10_1
  try clear hcz10_2
  try clear hcz10_3
  try clear hcz10_4
  try clear hfz10_0
  try clear hfz10_1
  try clear hfz10_2
  try clear hfz10_3
  try clear hfz10_4
  obtain ⟨kq, x12_2, rfl, HA, HJ2, BK110, BK111, HB⟩ := hcut
  cases kq with
  | zero => exact absurd HA.out (by simp [tag_LeafNode.j0])
  | succ kj2 =>
   have H := HA.out
   clear HA
   simp only [tag_LeafNode.j0] at H
   by_cases c12 : x12_2 = true
   ·
    subst c12
    have H1 : (some ((⟨#[]⟩ : ByteArray), 0, 0)) = some (r1, r2, r3) := by rw [if_pos rfl] at H; exact H
    clear H
    have H := H1
    clear H1
    simp only [Option.some.injEq, Prod.mk.injEq] at H
    obtain ⟨rfl, rfl, rfl⟩ := H
    have hnb13 := NB111_110.out
    have hnc13 := NB110_111.out
    have hcz14_0 : wc.cell? ⟨gb111, 0, none⟩ = some (.string (⟨#[]⟩ : ByteArray)) := (blk_cell BK111.out 0).trans rfl
    have hcz14_1 : wc.cell? ⟨gb111, 1, none⟩ = some (.int .u64 0) := (blk_cell BK111.out 1).trans rfl
    have hcz14_2 : wc.cell? ⟨gb111, 2, none⟩ = some (.int .u64 0) := (blk_cell BK111.out 2).trans rfl
    have hfz14_0 := blk_frozen BK111.out 0
    have hfz14_1 := blk_frozen BK111.out 1
    have hfz14_2 := blk_frozen BK111.out 2
    go_wp2
    refine bodyPost_ret (results_cell_row rfl _ _ gb111 46 #[.string (⟨#[]⟩ : ByteArray), .int .u64 0, .int .u64 0] (0, 0) _ rfl (by (with_reducible repeat (first | refine blk_drewN ?_ _ | refine blk_drew ?_ | refine blk_alloc ?_ _)); refine blk_put (cs := #[.string (⟨#[]⟩ : ByteArray), .int .u64 0, .int .u64 0]) ?_ 2 _ rfl; (with_reducible repeat (first | refine blk_drewN ?_ _ | refine blk_drew ?_ | refine blk_alloc ?_ _)); refine blk_put (cs := #[.string (⟨#[]⟩ : ByteArray), .int .u64 0, .int .u64 0]) ?_ 1 _ rfl; (with_reducible repeat (first | refine blk_drewN ?_ _ | refine blk_drew ?_ | refine blk_alloc ?_ _)); refine blk_put (cs := #[.string (⟨#[]⟩ : ByteArray), .int .u64 0, .int .u64 0]) ?_ 0 _ rfl; (with_reducible repeat (first | refine blk_drewN ?_ _ | refine blk_drew ?_ | refine blk_alloc ?_ _)); exact BK111.out) Tryd.underlying46 rfl (by kernel_rfl)) rfl ?_
    exact ⟨by first | rfl | (simp [errW_none, errW_some] <;> rfl) | (simp [*, errW_none, errW_some] <;> rfl), by repeat (first | (with_reducible first | exact HB.out | apply below_alloc | apply pw_below_drewN | apply below_drew1 | refine below_set ?_ GE110.out | refine below_set ?_ GE111.out) | exact HB.out)⟩
   ·
    replace c12 := Bool.eq_false_iff.mpr c12
    subst c12
    have H1 : ((tag_LeafText.f a1_0 a1_1 a1_2 a1_3 a1_4).bind fun t114 => ((tag_Digest.f a0 t114).bind fun t115 => (some (t115, a1_3, a1_4)))) = some (r1, r2, r3) := by rw [if_neg (show ¬ (false = true) by decide)] at H; exact H
    clear H
    have H := H1
    clear H1
    replace H := Option.bind_eq_some_iff.mp H
    obtain ⟨t114, A150, H⟩ := H
    replace H : ((tag_Digest.f a0 t114).bind fun t115 => (some (t115, a1_3, a1_4))) = some (r1, r2, r3) := H
    have A15 := aM' A150
    clear A150
    replace H := Option.bind_eq_some_iff.mp H
    obtain ⟨t115, A160, H⟩ := H
    replace H : (some (t115, a1_3, a1_4)) = some (r1, r2, r3) := H
    have A16 := aM' A160
    clear A160
    simp only [Option.some.injEq, Prod.mk.injEq] at H
    obtain ⟨rfl, rfl, rfl⟩ := H
    try go_wp2
    have n0_ := aM' (blk_drew BK110.out)
    have n1_ := aM' (blk_drew BK111.out)
    have n2_ := aM' (below_drew1 HB.out)
    clear BK110
    clear BK111
    clear HB
    have BK110 := n0_
    have BK111 := n1_
    have HB := n2_
    clear n0_ n1_ n2_
    refine start_ (n := 8) (S := fun w' => w'.cell? ⟨gb110, 0, none⟩ = some (.bool a1_0) ∧ w'.cell? ⟨gb110, 1, none⟩ = some (.string a1_1) ∧ w'.cell? ⟨gb110, 2, none⟩ = some (.string a1_2) ∧ w'.cell? ⟨gb110, 3, none⟩ = some (.int .u64 a1_3) ∧ w'.cell? ⟨gb110, 4, none⟩ = some (.int .u64 a1_4)) (ds := []) #[false, false, false, false, false, false, false, false] (by kernel_rfl) rfl rfl ⟨(blk_cell BK110.out 0).trans rfl, (blk_cell BK110.out 1).trans rfl, (blk_cell BK110.out 2).trans rfl, (blk_cell BK110.out 3).trans rfl, (blk_cell BK110.out 4).trans rfl⟩ (fun hHeld => ?_); refine with_tabW tag_LeafNode.tab3 tag_LeafNode.bits3 (fun HT_ HW_ => ?_)
    generalize wc.drew = w17 at BK110 BK111 HB hHeld ⊢
    refine pure_ (i := 0) (N := some 14) (v := ?_) (a' := ?_) #[true, false, false, false, false, false, false, false] rfl rfl (any_of HT_.out (by kernel_rfl)) (fun _ _ _ h => h) (Or.inl ⟨by rfl, ?_⟩) ?_ ?_
    rotate_left
    ·
     intro w'
     go_simp
     with_reducible rfl
    rotate_left
    ·
     simp only [Act.put, List.setIfInBounds_toArray, List.set_cons_zero, List.set_cons_succ, i64_w, i32_w]
     rfl
    refine pure_ (i := 4) (N := some 18) (v := ?_) (a' := ?_) #[true, false, false, false, true, false, false, false] rfl rfl (any_of HT_.out (by kernel_rfl)) (fun _ _ _ h => h) (Or.inl ⟨by rfl, ?_⟩) ?_ ?_
    rotate_left
    ·
     intro w'
     go_simp
     with_reducible rfl
    rotate_left
    ·
     simp only [Act.put, List.setIfInBounds_toArray, List.set_cons_zero, List.set_cons_succ, i64_w, i32_w]
     rfl
    refine take_ (i := 1) (N := some 15) (v := ?_) (a' := ?_) #[true, true, false, false, true, false, false, false] rfl rfl (take_ofW HT_.out HW_.out (by kernel_rfl)) (fun _ _ _ h => h) (Or.inl ⟨by rfl, ?_⟩) hHeld ?_ ?_
    rotate_left
    ·
     rintro w' ⟨s0, s1, s2, s3, s4⟩
     go_simp
     with_reducible rfl
    rotate_left
    ·
     simp only [Act.put, List.setIfInBounds_toArray, List.set_cons_zero, List.set_cons_succ, i64_w, i32_w]
     rfl
    refine take_ (i := 5) (N := some 19) (v := ?_) (a' := ?_) #[true, true, false, false, true, true, false, false] rfl rfl (take_ofW HT_.out HW_.out (by kernel_rfl)) (fun _ _ _ h => h) (Or.inl ⟨by rfl, ?_⟩) hHeld ?_ ?_
    rotate_left
    ·
     rintro w' ⟨s0, s1, s2, s3, s4⟩
     go_simp
     with_reducible rfl
    rotate_left
    ·
     simp only [Act.put, List.setIfInBounds_toArray, List.set_cons_zero, List.set_cons_succ, i64_w, i32_w]
     rfl
    refine one_ (i := 2) (N := some 16) #[true, true, true, false, true, true, false, false] rfl rfl (one_of HT_.out (by kernel_rfl)) (by decide) (fun K hK => ?_)
    refine goes_ Tryd.func31 (by kernel_rfl) rfl #[.agg #[.bool a1_0, .string a1_1, .string a1_2, .int .u64 a1_3, .int .u64 a1_4]] (by rfl) rfl rfl (by (try simp only [List.map_toArray, List.map_cons, List.map_nil]); first | done | rfl | (simp only [List.length_drop, List.length_take]; rfl)) ?_
    with_reducible refine (tag_LeafText.calls a1_0 a1_1 a1_2 a1_3 a1_4 t114 _ ?side1 A15.out).mono ?_
    (case side1 => exact LaidT.below HLD.out (by repeat (first | (with_reducible first | exact HB.out | apply below_alloc | apply pw_below_drewN | apply below_drew1 | refine below_set ?_ GE110.out | refine below_set ?_ GE111.out) | exact HB.out)))
    rintro e w18 ⟨rfl, hb⟩
    refine ⟨_, rfl, ?_⟩
    have n0_ := aM' (blk_below (g := gb110) (o := .cells #[.bool a1_0, .string a1_1, .string a1_2, .int .u64 a1_3, .int .u64 a1_4] 36 (0, 0)) (by (with_reducible repeat (first | refine blk_drewN ?_ _ | refine blk_drew ?_ | refine blk_alloc ?_ _)); exact BK110.out) hb)
    have n1_ := aM' (blk_below (g := gb111) (o := .cells #[.string (⟨#[]⟩ : ByteArray), .int .u64 0, .int .u64 0] 46 (0, 0)) (by (with_reducible repeat (first | refine blk_drewN ?_ _ | refine blk_drew ?_ | refine blk_alloc ?_ _)); exact BK111.out) hb)
    have n2_ := aM' (below_step (by repeat (first | (with_reducible first | exact HB.out | apply below_alloc | apply pw_below_drewN | apply below_drew1 | refine below_set ?_ GE110.out | refine below_set ?_ GE111.out) | exact HB.out)) hb)
    clear BK110
    clear BK111
    clear HB
    have BK110 := n0_
    have BK111 := n1_
    have HB := n2_
    clear n0_ n1_ n2_
    (try clear hb)
    (try clear hb2)
    (try clear hk)
    (try clear hi)
    refine hK.out _ _ ⟨(blk_cell BK110.out 0).trans rfl, (blk_cell BK110.out 1).trans rfl, (blk_cell BK110.out 2).trans rfl, (blk_cell BK110.out 3).trans rfl, (blk_cell BK110.out 4).trans rfl⟩ (fun hHeld => ?_)
    clear hK K
    refine norm_ (a' := ?_) ?_ ?_
    rotate_left
    ·
     show Act.put _ (some 16) _ = _
     simp only [Act.put, List.setIfInBounds_toArray, List.set_cons_zero, List.set_cons_succ, i64_w, i32_w]
     rfl
    refine one_ (i := 3) (N := some 17) #[true, true, true, true, true, true, false, false] rfl rfl (one_of HT_.out (by kernel_rfl)) (by decide) (fun K hK => ?_)
    refine goes_ Tryd.func32 (by kernel_rfl) rfl #[.int .i64 a0, .string t114] (by rfl) rfl rfl (by (try simp only [List.map_toArray, List.map_cons, List.map_nil]); first | done | rfl | (simp only [List.length_drop, List.length_take]; rfl)) ?_
    with_reducible refine (tag_Digest.calls a0 t114 t115 _ ?side1 A16.out).mono ?_
    (case side1 => exact Laid.below HLD.out.1 (by repeat (first | (with_reducible first | exact HB.out | apply below_alloc | apply pw_below_drewN | apply below_drew1 | refine below_set ?_ GE110.out | refine below_set ?_ GE111.out) | exact HB.out)))
    rintro e w19 ⟨rfl, hb⟩
    refine ⟨_, rfl, ?_⟩
    have n0_ := aM' (blk_below (g := gb110) (o := .cells #[.bool a1_0, .string a1_1, .string a1_2, .int .u64 a1_3, .int .u64 a1_4] 36 (0, 0)) (by (with_reducible repeat (first | refine blk_drewN ?_ _ | refine blk_drew ?_ | refine blk_alloc ?_ _)); exact BK110.out) hb)
    have n1_ := aM' (blk_below (g := gb111) (o := .cells #[.string (⟨#[]⟩ : ByteArray), .int .u64 0, .int .u64 0] 46 (0, 0)) (by (with_reducible repeat (first | refine blk_drewN ?_ _ | refine blk_drew ?_ | refine blk_alloc ?_ _)); exact BK111.out) hb)
    have n2_ := aM' (below_step (by repeat (first | (with_reducible first | exact HB.out | apply below_alloc | apply pw_below_drewN | apply below_drew1 | refine below_set ?_ GE110.out | refine below_set ?_ GE111.out) | exact HB.out)) hb)
    clear BK110
    clear BK111
    clear HB
    have BK110 := n0_
    have BK111 := n1_
    have HB := n2_
    clear n0_ n1_ n2_
    (try clear hb)
    (try clear hb2)
    (try clear hk)
    (try clear hi)
    refine hK.out _ _ ⟨(blk_cell BK110.out 0).trans rfl, (blk_cell BK110.out 1).trans rfl, (blk_cell BK110.out 2).trans rfl, (blk_cell BK110.out 3).trans rfl, (blk_cell BK110.out 4).trans rfl⟩ (fun hHeld => ?_)
    clear hK K
    refine norm_ (a' := ?_) ?_ ?_
    rotate_left
    ·
     show Act.put _ (some 17) _ = _
     simp only [Act.put, List.setIfInBounds_toArray, List.set_cons_zero, List.set_cons_succ, i64_w, i32_w]
     rfl
    refine pure_ (i := 6) (N := some 20) (v := ?_) (a' := ?_) #[true, true, true, true, true, true, true, false] rfl rfl (any_of HT_.out (by kernel_rfl)) (fun _ _ _ h => h) (Or.inl ⟨by rfl, ?_⟩) ?_ ?_
    rotate_left
    ·
     intro w'
     go_simp
     with_reducible rfl
    rotate_left
    ·
     simp only [Act.put, List.setIfInBounds_toArray, List.set_cons_zero, List.set_cons_succ, i64_w, i32_w]
     rfl
    refine one_ (i := 7) (N := none) #[true, true, true, true, true, true, true, true] rfl rfl (one_of HT_.out (by kernel_rfl)) (by decide) (fun K hK => ?_)
    have hs20 : w19.cell? ⟨gb111, 0, none⟩ = some (.string (⟨#[]⟩ : ByteArray)) := (blk_cell BK111.out 0).trans rfl
    have hfs20 := blk_frozen BK111.out 0
    have hns20_0 := NB110_111.out
    have hms20_0 := NB111_110.out
    have hs21 : w19.cell? ⟨gb111, 1, none⟩ = some (.int .u64 0) := (blk_cell BK111.out 1).trans rfl
    have hfs21 := blk_frozen BK111.out 1
    have hns21_0 := NB110_111.out
    have hms21_0 := NB111_110.out
    have hs22 : w19.cell? ⟨gb111, 2, none⟩ = some (.int .u64 0) := (blk_cell BK111.out 2).trans rfl
    have hfs22 := blk_frozen BK111.out 2
    have hns22_0 := NB110_111.out
    have hms22_0 := NB111_110.out
    refine skip_ (w1 := ?_) (by rfl) rfl ?_ ?_
    rotate_left
    ·
     go_simp
     rfl
    refine hK.out _ _ ⟨((cell_far (p := ⟨gb111, _, none⟩) NB110_111.out _).trans (((cell_far (p := ⟨gb111, _, none⟩) NB110_111.out _).trans (((cell_far (p := ⟨gb111, _, none⟩) NB110_111.out _).trans (hHeld.1)))))), ((cell_far (p := ⟨gb111, _, none⟩) NB110_111.out _).trans (((cell_far (p := ⟨gb111, _, none⟩) NB110_111.out _).trans (((cell_far (p := ⟨gb111, _, none⟩) NB110_111.out _).trans (hHeld.2.1)))))), ((cell_far (p := ⟨gb111, _, none⟩) NB110_111.out _).trans (((cell_far (p := ⟨gb111, _, none⟩) NB110_111.out _).trans (((cell_far (p := ⟨gb111, _, none⟩) NB110_111.out _).trans (hHeld.2.2.1)))))), ((cell_far (p := ⟨gb111, _, none⟩) NB110_111.out _).trans (((cell_far (p := ⟨gb111, _, none⟩) NB110_111.out _).trans (((cell_far (p := ⟨gb111, _, none⟩) NB110_111.out _).trans (hHeld.2.2.2.1)))))), ((cell_far (p := ⟨gb111, _, none⟩) NB110_111.out _).trans (((cell_far (p := ⟨gb111, _, none⟩) NB110_111.out _).trans (((cell_far (p := ⟨gb111, _, none⟩) NB110_111.out _).trans (hHeld.2.2.2.2))))))⟩ (fun hHeld => ?_)
    clear hK K
    refine done_ (done_of HT_.out (by kernel_rfl)) ?_
    try go_wp2
    refine bodyPost_ret (results_cell_row rfl _ _ gb111 46 #[.string t115, .int .u64 a1_3, .int .u64 a1_4] (0, 0) _ rfl (by (with_reducible repeat (first | refine blk_drewN ?_ _ | refine blk_drew ?_ | refine blk_alloc ?_ _)); refine blk_put (cs := #[.string t115, .int .u64 a1_3, .int .u64 0]) ?_ 2 _ rfl; (with_reducible repeat (first | refine blk_drewN ?_ _ | refine blk_drew ?_ | refine blk_alloc ?_ _)); refine blk_put (cs := #[.string t115, .int .u64 0, .int .u64 0]) ?_ 1 _ rfl; (with_reducible repeat (first | refine blk_drewN ?_ _ | refine blk_drew ?_ | refine blk_alloc ?_ _)); refine blk_put (cs := #[.string (⟨#[]⟩ : ByteArray), .int .u64 0, .int .u64 0]) ?_ 0 _ rfl; (with_reducible repeat (first | refine blk_drewN ?_ _ | refine blk_drew ?_ | refine blk_alloc ?_ _)); exact BK111.out) Tryd.underlying46 rfl (by kernel_rfl)) rfl ?_
    exact ⟨by first | rfl | (simp [errW_none, errW_some] <;> rfl) | (simp [*, errW_none, errW_some] <;> rfl), by repeat (first | (with_reducible first | exact HB.out | apply below_alloc | apply pw_below_drewN | apply below_drew1 | refine below_set ?_ GE110.out | refine below_set ?_ GE111.out) | exact HB.out)⟩
end Go.Proofs.YtfcodmdckcihmaaDoor.P
namespace Go.Proofs.YtfcodmdckcihmaaDoor.P
open Go.RowKit Go.Proofs.YtfcodmdckcihmaaDoorW.PrintWords Go.Proofs.YtfcodmdckcihmaaDoorW.PrintLast Go.Proofs.YtfcodmdckcihmaaDoorW.PrintMore
set_option linter.unusedVariables false
set_option linter.unusedSimpArgs false
set_option linter.unnecessarySimpa false
abbrev nodeV (n : SNode) : Value := .agg #[.string n.f0, .int .u64 n.f1.f0, .int .u64 n.f1.f1]
def TellsNode (F : Nat) (caps : Array Value) (p : SNode → Bool) (w : World) : Prop :=
 ∀ (W : World) (x : SNode), Below w.heap.size w W → Calls Tryd.prog F (#[nodeV x] ++ caps) W fun e W' => e = .returned (.bool (p x)) ∧ Below W.heap.size W W'
def idxOf {α : Type} (p : α → Bool) (l : List α) : Int := match l.findIdx? p with | some i => (i : Int) | none => -1
theorem idxOf_hit {α : Type} (p : α → Bool) (l : List α) (k : Nat) (hk : k < l.length) (h : (l.take k).all (fun x => !p x) = true) (hp : p l[k] = true) : idxOf p l = (k : Int) := by
 unfold idxOf
 have : l.findIdx? p = some k := by
  rw [List.findIdx?_eq_some_iff_getElem]
  refine ⟨hk, hp, fun j hj => ?_⟩
  have := List.all_eq_true.1 h l[j] (List.mem_take_iff_getElem.2 ⟨j, by omega, rfl⟩)
  simpa using this
 rw [this]
theorem idxOf_miss {α : Type} (p : α → Bool) (l : List α) (h : l.all (fun x => !p x) = true) : idxOf p l = -1 := by
 unfold idxOf
 have : l.findIdx? p = none := by
  rw [List.findIdx?_eq_none_iff]
  intro x hx
  have := List.all_eq_true.1 h x hx
  simpa using this
 rw [this]
theorem idxOf_any {α : Type} (p : α → Bool) (l : List α) : decide (0 ≤ idxOf p l) = l.any p := by
 unfold idxOf
 cases h : l.findIdx? p with
 | some i =>
  have := List.findIdx?_eq_some_iff_getElem.1 h
  obtain ⟨hi, hp, _⟩ := this
  have h1 : l.any p = true := List.any_eq_true.2 ⟨l[i], List.getElem_mem hi, hp⟩
  rw [h1]; simp
 | none =>
  have := List.findIdx?_eq_none_iff.1 h
  have h1 : l.any p = false := by
   rw [List.any_eq_false]; intro x hx; simpa using this x hx
  rw [h1]; simp
theorem all_take_snoc {α : Type} (q : α → Bool) (l : List α) (k : Nat) (hk : k < l.length) (h : (l.take k).all q = true) (hq : q l[k] = true) : (l.take (k + 1)).all q = true := by
 rw [List.take_succ_eq_append_getElem hk, List.all_append, h]; simp [hq]
theorem rd_TNode_at (l : List SNode) (k : Nat) (hk : k < l.length) : rd_TNode l (k : Int) = l[k] := by simp [rd_TNode, hk]
set_option maxRecDepth 100000 in
set_option maxHeartbeats 1000000 in
theorem idxNode.calls (F : Nat) (cap0 : Value) (p : SNode → Bool) (A : Option Addr) (c : Nat) (l : List SNode) (w : World) (hr : Kd.C kNode w A l.length l) (hcf : ∀ (args : Array Value) (W : World), Sem.run Tryd.prog (callFunc F args) W = .ok (.enter F args) W) (hp : TellsNode F #[cap0] p w) :
  Calls Tryd.prog 107 #[.slice A l.length c, .func (.func F) #[] #[cap0]] w fun e w' => e = .returned (.int .i64 (idxOf p l)) ∧ Below w.heap.size w w' := by
 have hm : l.length ≤ 9223372036854775807 := Kd.C_max hr
 have HR := aM' hr
 have HP := aM' hp
 clear hr hp
 go_enter Tryd.func107, Tryd.ntmps107
 go_wp2
 go_loopw [8] (fun v wr => ∃ k : Nat, v = .int .i64 k ∧ k ≤ l.length ∧ Aside0 ((l.take k).all (fun x => !p x) = true) ∧ Aside0 (Below w.heap.size w wr)) (fun v _ => l.length - (intOf v).toNat)
 case atStart => exact ⟨0, rfl, Nat.zero_le _, ⟨by simp⟩, ⟨Below.refl _ _⟩⟩
 case round =>
  obtain ⟨k, rfl, hk, HA, HB⟩ := hrel
  by_cases hlt : k < l.length
  ·
   obtain ⟨ad, e, hx0, hx1, hx2⟩ := at_TNode (Kd.C_below HR.out HB.out) (k : Int) (by omega) (by omega)
   cases e
   rw [rd_TNode_at l k hlt] at hx0 hx1 hx2
   rw [Int.toNat_natCast] at hx0 hx1 hx2
   go_wp2_with fail
   refine (HP.out _ l[k] HB.out).mono ?_
   rintro e w1 ⟨rfl, hb⟩
   have hB1 := below_then HB.out HB.out.size hb
   have HB1 := aM' hB1
   clear hB1 hb
   cases hpk : p l[k] with
   | true =>
    have HF := aM' (idxOf_hit p l k hlt HA.out hpk)
    clear hpk
    go_wp2
    go_ret
    exact ⟨by rw [HF.out]; rfl, HB1.out⟩
   | false =>
    have HA1 := aM' (all_take_snoc (fun x => !p x) l k hlt HA.out (by simp [hpk]))
    clear hpk
    go_wp2
    go_roundw
    case rel => exact ⟨k + 1, by go_num, by omega, HA1, HB1⟩
    case measure => simp [intOf]; omega
  ·
   have HF := aM' (idxOf_miss p l (by have := HA.out; rwa [List.take_of_length_le (by omega)] at this))
   go_wp2
   go_ret
   exact ⟨by rw [HF.out]; rfl, HB.out⟩
set_option maxRecDepth 100000 in
set_option maxHeartbeats 1000000 in
theorem anyNode.calls (F : Nat) (cap0 : Value) (p : SNode → Bool) (A : Option Addr) (c : Nat) (l : List SNode) (w : World) (hr : Kd.C kNode w A l.length l) (hcf : ∀ (args : Array Value) (W : World), Sem.run Tryd.prog (callFunc F args) W = .ok (.enter F args) W) (hp : TellsNode F #[cap0] p w) :
  Calls Tryd.prog 80 #[.slice A l.length c, .func (.func F) #[] #[cap0]] w fun e w' => e = .returned (.bool (l.any p)) ∧ Below w.heap.size w w' := by
 have HF := aM' (idxOf_any p l)
 have HCF := aM' hcf
 clear hcf
 have HR := aM' hr
 have HP := aM' hp
 clear hr hp
 go_enter Tryd.func80, Tryd.ntmps80
 go_wp2_with fail
 refine (idxNode.calls F cap0 p A c l _ HR.out HCF.out HP.out).mono ?_
 rintro e w1 ⟨rfl, hb⟩
 have HB1 := aM' hb
 clear hb
 go_wp2
 go_ret
 exact ⟨by rw [← HF.out]; rfl, HB1.out⟩
end Go.Proofs.YtfcodmdckcihmaaDoor.P
namespace Go.Proofs.YtfcodmdckcihmaaDoor.P
open Go.RowKit Go.Proofs.YtfcodmdckcihmaaDoorW.PrintWords Go.Proofs.YtfcodmdckcihmaaDoorW.PrintLast Go.Proofs.YtfcodmdckcihmaaDoorW.PrintMore
set_option linter.unusedVariables false
set_option linter.unusedSimpArgs false
set_option linter.unnecessarySimpa false
theorem nodeOf.calls (a0 : Int) (n : SNode) (w : World) : Calls Tryd.prog 79 #[.int .i64 a0, nodeV n] w fun e w' => e = .returned (.bool (nodeOf a0 n)) ∧ Below w.heap.size w w' :=
 node_Of.calls a0 n.f0 n.f1.f0 n.f1.f1 _ w (node_Of_eq a0 n)
set_option maxRecDepth 100000 in
set_option maxHeartbeats 1000000 in
theorem shapeOdd.calls (a0 : Int) (b : Nat) (n : SNode) (w : World) (hc : w.cell? ⟨b, 0, none⟩ = some (.int .i64 a0)) (hlt : b < w.heap.size) :
  Calls Tryd.prog 78 #[nodeV n, .pointer (some ⟨b, 0, none⟩)] w fun e w' => e = .returned (.bool (!nodeOf a0 n)) ∧ Below w.heap.size w w' := by
 have hu := Tryd.underlying46
 have hne : b ≠ w.heap.size := by omega
 go_enter Tryd.func78, Tryd.ntmps78
 go_wp2_with fail
 refine (nodeOf.calls a0 n _).mono ?_
 rintro e w1 ⟨rfl, hb⟩
 have HB := aM' hb
 clear hb
 go_wp2
 go_ret
 exact ⟨rfl, below_then ((Below.refl _ _).alloc (Nat.le_refl _) _) (by simp) HB.out⟩
def proof_Shape.f (a0 a1 a2_0 : Int) (l2_1 : List SNode) : Option Int :=
 some (if a1 < 0 ∨ a1 > 63 then 120 else if a0 < 1 ∨ a0 > 32 ∨ l2_1.any (fun n => !nodeOf a0 n) = true then 70 else if (l2_1.length : Int) ≠ a1 ∨ a2_0 / 2 ^ a1.toNat ≠ 0 then 160 else 0)
set_option maxRecDepth 100000 in
set_option maxHeartbeats 2000000 in
theorem proof_Shape.calls (a0 : Int) (a1 : Int) (a2_0 : Int) (A2_1 : Option Addr) (c2_1 : Nat) (l2_1 : List SNode) (r : Int) (w : World) (hr2_1 : Kd.C kNode w A2_1 l2_1.length l2_1) (hc2_1 : l2_1.length ≤ c2_1) (h : proof_Shape.f a0 a1 a2_0 l2_1 = some r) :
  Calls Tryd.prog 39 #[.int .i64 a0, .int .i64 a1, .agg #[.int .u64 a2_0, .slice A2_1 l2_1.length c2_1]] w fun e w' => e = .returned (.int .i64 r) ∧ Below w.heap.size w w' := by
 have hu := Tryd.underlying68
 have HR := aM' hr2_1
 have HF := aM' (Option.some.inj h)
 clear hr2_1 h hc2_1
 have HB0 := aM' (Below.refl w.heap.size w)
 by_cases h1 : a1 < 0
 ·
  have b1 : decide (a1 < 0) = true := decide_eq_true h1
  have HF1 := aM' (show (120 : Int) = r by have := HF.out; rwa [if_pos (.inl h1)] at this)
  clear h1
  go_enter Tryd.func39, Tryd.ntmps39
  go_wp2
  go_ret
  exact ⟨by rw [← HF1.out]; rfl, by repeat (first | exact HB0.out | apply below_alloc)⟩
 by_cases h2 : a1 > 63
 ·
  have b1 : decide (a1 < 0) = false := decide_eq_false h1
  have b2 : decide (63 < a1) = true := decide_eq_true h2
  have HF1 := aM' (show (120 : Int) = r by have := HF.out; rwa [if_pos (.inr h2)] at this)
  clear h1 h2
  go_enter Tryd.func39, Tryd.ntmps39
  go_wp2
  go_ret
  exact ⟨by rw [← HF1.out]; rfl, by repeat (first | exact HB0.out | apply below_alloc)⟩
 have b1 : decide (a1 < 0) = false := decide_eq_false h1
 have b2 : decide (63 < a1) = false := decide_eq_false h2
 have HF2 := aM' (show (if a0 < 1 ∨ a0 > 32 ∨ l2_1.any (fun n => !nodeOf a0 n) = true then (70 : Int) else if (l2_1.length : Int) ≠ a1 ∨ a2_0 / 2 ^ a1.toNat ≠ 0 then 160 else 0) = r by have := HF.out; rwa [if_neg (by omega)] at this)
 clear HF
 by_cases h3 : a0 < 1
 ·
  have b3 : decide (a0 < 1) = true := decide_eq_true h3
  have HF1 := aM' (show (70 : Int) = r by have := HF2.out; rwa [if_pos (.inl h3)] at this)
  clear h1 h2 h3
  go_enter Tryd.func39, Tryd.ntmps39
  go_wp2
  go_ret
  exact ⟨by rw [← HF1.out]; rfl, by repeat (first | exact HB0.out | apply below_alloc)⟩
 by_cases h4 : a0 > 32
 ·
  have b3 : decide (a0 < 1) = false := decide_eq_false h3
  have b4 : decide (32 < a0) = true := decide_eq_true h4
  have HF1 := aM' (show (70 : Int) = r by have := HF2.out; rwa [if_pos (.inr (.inl h4))] at this)
  clear h1 h2 h3 h4
  go_enter Tryd.func39, Tryd.ntmps39
  go_wp2
  go_ret
  exact ⟨by rw [← HF1.out]; rfl, by repeat (first | exact HB0.out | apply below_alloc)⟩
 have b3 : decide (a0 < 1) = false := decide_eq_false h3
 have b4 : decide (32 < a0) = false := decide_eq_false h4
 have g1 : 0 ≤ a1 := by omega
 have g2 : a1 ≤ 63 := by omega
 clear h1 h2
 go_enter Tryd.func39, Tryd.ntmps39
 go_wp2_with fail
 refine (anyNode.calls 78 _ (fun n => !nodeOf a0 n) _ _ l2_1 _ (by repeat (first | exact HR.out | apply Kd.C_alloc)) (fun _ _ => by rfl) (fun W x hb => shapeOdd.calls a0 w.heap.size x W ((hb.cell (p := ⟨w.heap.size, 0, none⟩) (by simp; omega)).trans (by go_simp)) (by have := hb.size; simp at this; omega))).mono ?_
 rintro e w1 ⟨rfl, hb⟩
 have hB1 : Below w.heap.size w w1 := below_then (by repeat (first | exact HB0.out | apply below_alloc)) (by simp; omega) hb
 have hcp0 : w1.cell? ⟨w.heap.size + 1, 0, none⟩ = some (.int .u64 a2_0) := (hb.cell (p := ⟨w.heap.size + 1, 0, none⟩) (by simp)).trans (by go_simp)
 have hcp1 : w1.cell? ⟨w.heap.size + 1, 1, none⟩ = some (.slice A2_1 l2_1.length c2_1) := (hb.cell (p := ⟨w.heap.size + 1, 1, none⟩) (by simp)).trans (by go_simp)
 have HB1 := aM' hB1
 clear hB1 hb
 cases hany : l2_1.any (fun n => !nodeOf a0 n) with
 | true =>
  have HF1 := aM' (show (70 : Int) = r by have := HF2.out; rwa [if_pos (.inr (.inr hany))] at this)
  clear hany h3 h4
  go_wp2
  go_ret
  exact ⟨by rw [← HF1.out]; rfl, HB1.out⟩
 | false =>
  have HF3 := aM' (show (if (l2_1.length : Int) ≠ a1 ∨ a2_0 / 2 ^ a1.toNat ≠ 0 then (160 : Int) else 0) = r by have := HF2.out; rwa [if_neg (by rw [hany]; simp; omega)] at this)
  clear hany h3 h4
  by_cases h5 : (l2_1.length : Int) = a1
  ·
   by_cases h6 : a2_0 / 2 ^ a1.toNat = 0
   ·
    have b5 : ((l2_1.length : Int) != a1) = false := bne_eq_false_iff_eq.2 h5
    have b6 : (a2_0 / 2 ^ a1.toNat != 0) = false := bne_eq_false_iff_eq.2 h6
    have HF1 := aM' (show (0 : Int) = r by have := HF3.out; rwa [if_neg (by simp [h5, h6])] at this)
    clear h5 h6
    go_wp2
    go_ret
    exact ⟨by rw [← HF1.out]; rfl, HB1.out⟩
   ·
    have b5 : ((l2_1.length : Int) != a1) = false := bne_eq_false_iff_eq.2 h5
    have b6 : (a2_0 / 2 ^ a1.toNat != 0) = true := bne_iff_ne.2 h6
    have HF1 := aM' (show (160 : Int) = r by have := HF3.out; rwa [if_pos (.inr h6)] at this)
    clear h5 h6
    go_wp2
    go_ret
    exact ⟨by rw [← HF1.out]; rfl, HB1.out⟩
  ·
   have b5 : ((l2_1.length : Int) != a1) = true := bne_iff_ne.2 h5
   have HF1 := aM' (show (160 : Int) = r by have := HF3.out; rwa [if_pos (.inl h5)] at this)
   clear h5
   go_wp2
   go_ret
   exact ⟨by rw [← HF1.out]; rfl, HB1.out⟩
end Go.Proofs.YtfcodmdckcihmaaDoor.P
namespace Go.Proofs.YtfcodmdckcihmaaDoor.P
open Go.RowKit Go.Proofs.YtfcodmdckcihmaaDoorW.PrintWords Go.Proofs.YtfcodmdckcihmaaDoorW.PrintLast Go.Proofs.YtfcodmdckcihmaaDoorW.PrintMore
attribute [local go_sem] max2_int min2_int max_two min_two max_three min_three max_four min_four-- for this text's walks alone
set_option linter.unusedVariables false
set_option linter.unusedSimpArgs false
attribute [local go_sem high] eqAU128
def verify_asked_shape.f (a0_0 : ByteArray) (a0_1 : Int) (a0_2 : Int) (a0_3 : Int) (a0_4 : Bool) (a0_5 : ByteArray) (a0_6 : ByteArray) (a0_7 : Int) (a0_8 : Int) (a0_9 : Int) (l0_10 : List (SNode)) : Option (Int) := (proof_Shape.f (a0_0.size : Int) a0_3 a0_9 l0_10).bind fun t105 => (some t105)
set_option maxHeartbeats 8000000 in
set_option maxRecDepth 100000 in
theorem verify_asked_shape.calls (a0_0 : ByteArray) (a0_1 : Int) (a0_2 : Int) (a0_3 : Int) (a0_4 : Bool) (a0_5 : ByteArray) (a0_6 : ByteArray) (a0_7 : Int) (a0_8 : Int) (a0_9 : Int) (A0_10 : Option Addr) (c0_10 : Nat) (l0_10 : List (SNode)) (r : Int) (w : World) (hr0_10 : Kd.C kNode w A0_10 l0_10.length l0_10) (hc0_10 : l0_10.length ≤ c0_10) (h : verify_asked_shape.f a0_0 a0_1 a0_2 a0_3 a0_4 a0_5 a0_6 a0_7 a0_8 a0_9 l0_10 = some r) :
  Calls Tryd.prog 85 #[.agg #[.string a0_0, .int .u64 a0_1, .int .u64 a0_2, .int .i64 a0_3, .bool a0_4, .string a0_5, .string a0_6, .int .u64 a0_7, .int .u64 a0_8, .int .u64 a0_9, .slice A0_10 l0_10.length c0_10]] w fun e w' => e = .returned (.int .i64 r) ∧ Below w.heap.size w w' := by
 have hu146 := Tryd.underlying146
 have hu68 := Tryd.underlying68
 have HR0_10 := aM' hr0_10
 have HC0_10 := aM' hc0_10
 clear hr0_10 hc0_10
 have HB := aM' (Below.refl w.heap.size w)
 have H : ((proof_Shape.f (a0_0.size : Int) a0_3 a0_9 l0_10).bind fun t105 => (some t105)) = some r := h
 clear h
 replace H := Option.bind_eq_some_iff.mp H
 obtain ⟨t105, A20, H⟩ := H
 replace H : (some t105) = some r := H
 have A2 := aM' A20
 clear A20
 obtain rfl := Option.some.inj H
 go_enter Tryd.func85, Tryd.ntmps85
 go_wp2_with (first | ((with_reducible refine gate_dst (N := 1) rfl ?_); refine box_event ?hg (N := 1) ?hd (cs := #[.string a0_0, .int .u64 a0_1, .int .u64 a0_2, .int .i64 a0_3, .bool a0_4, .string a0_5, .string a0_6, .int .u64 a0_7, .int .u64 a0_8, .int .u64 a0_9, .slice A0_10 l0_10.length c0_10]) (t := 146) ?hr ?_; (case hd => rfl); (case hg => rfl); (case hr => first | (go_simp; done) | (go_simp; rfl)); intro gb104 hg w3 hbox hb; have n0_ := aM' (below_step (by repeat (first | (with_reducible first | exact HB.out | apply below_alloc | apply pw_below_drewN | apply below_drew1) | exact HB.out)) hb); have n1_ := aM' (hbox); have n2_ := aM' ((by rw [hg]; exact (below_size (by repeat (first | (with_reducible first | exact HB.out | apply below_alloc | apply pw_below_drewN | apply below_drew1) | exact HB.out))) : w.heap.size ≤ gb104)); have n3_ := aM' ((by rw [hg]; exact (below_size (by repeat (first | (with_reducible first | exact HB.out | apply below_alloc | apply pw_below_drewN | apply below_drew1) | exact HB.out))) : w.heap.size ≤ gb104)); clear HB; have HB := n0_; have BK104 := n1_; have GW104 := n2_; have GE104 := n3_; clear n0_ n1_ n2_ n3_; clear hb hbox hg; have hcz4_0 : w3.cell? ⟨gb104, 0, none⟩ = some (.string a0_0) := (blk_cell BK104.out 0).trans rfl; have hcz4_1 : w3.cell? ⟨gb104, 1, none⟩ = some (.int .u64 a0_1) := (blk_cell BK104.out 1).trans rfl; have hcz4_2 : w3.cell? ⟨gb104, 2, none⟩ = some (.int .u64 a0_2) := (blk_cell BK104.out 2).trans rfl; have hcz4_3 : w3.cell? ⟨gb104, 3, none⟩ = some (.int .i64 a0_3) := (blk_cell BK104.out 3).trans rfl; have hcz4_4 : w3.cell? ⟨gb104, 4, none⟩ = some (.bool a0_4) := (blk_cell BK104.out 4).trans rfl; have hcz4_5 : w3.cell? ⟨gb104, 5, none⟩ = some (.string a0_5) := (blk_cell BK104.out 5).trans rfl; have hcz4_6 : w3.cell? ⟨gb104, 6, none⟩ = some (.string a0_6) := (blk_cell BK104.out 6).trans rfl; have hcz4_7 : w3.cell? ⟨gb104, 7, none⟩ = some (.int .u64 a0_7) := (blk_cell BK104.out 7).trans rfl; have hcz4_8 : w3.cell? ⟨gb104, 8, none⟩ = some (.int .u64 a0_8) := (blk_cell BK104.out 8).trans rfl; have hcz4_9 : w3.cell? ⟨gb104, 9, none⟩ = some (.int .u64 a0_9) := (blk_cell BK104.out 9).trans rfl; have hcz4_10 : w3.cell? ⟨gb104, 10, none⟩ = some (.slice A0_10 l0_10.length c0_10) := (blk_cell BK104.out 10).trans rfl; have hfz4_0 := blk_frozen BK104.out 0; have hfz4_1 := blk_frozen BK104.out 1; have hfz4_2 := blk_frozen BK104.out 2; have hfz4_3 := blk_frozen BK104.out 3; have hfz4_4 := blk_frozen BK104.out 4; have hfz4_5 := blk_frozen BK104.out 5; have hfz4_6 := blk_frozen BK104.out 6; have hfz4_7 := blk_frozen BK104.out 7; have hfz4_8 := blk_frozen BK104.out 8; have hfz4_9 := blk_frozen BK104.out 9; have hfz4_10 := blk_frozen BK104.out 10) | ((with_reducible refine gate_callee (f := 39) rfl ?_); refine goesL_ (some 13) rfl rfl Tryd.func39 (by kernel_rfl) rfl #[.int .i64 (a0_0.size : Int), .int .i64 a0_3, .agg #[.int .u64 a0_9, .slice A0_10 l0_10.length c0_10]] rfl (by (try simp only [List.map_toArray, List.map_cons, List.map_nil]); first | done | rfl | (simp only [List.length_drop, List.length_take]; rfl)) ?_; (with_reducible refine (proof_Shape.calls (a0_0.size : Int) a0_3 a0_9 _ _ l0_10 t105 _ ?side1 ?side2 A2.out).mono ?_); (case side1 => repeat (first | exact (Kd.C_below HR0_10.out HB.out) | (with_reducible refine Kd.C_alloc ?_ _) | (with_reducible refine Kd.C_drewN ?_ _) | (with_reducible refine Kd.C_drew ?_))); (case side2 => exact HC0_10.out); rintro e w5 ⟨rfl, hb⟩; refine ⟨_, rfl, ?_⟩; have n0_ := aM' (blk_below (g := gb104) (o := .cells #[.string a0_0, .int .u64 a0_1, .int .u64 a0_2, .int .i64 a0_3, .bool a0_4, .string a0_5, .string a0_6, .int .u64 a0_7, .int .u64 a0_8, .int .u64 a0_9, .slice A0_10 l0_10.length c0_10] 146 (0, 0)) (by (with_reducible repeat (first | refine blk_drewN ?_ _ | refine blk_drew ?_ | refine blk_alloc ?_ _)); exact BK104.out) hb); have n1_ := aM' (below_step (by repeat (first | (with_reducible first | exact HB.out | apply below_alloc | apply pw_below_drewN | apply below_drew1 | refine below_set ?_ GE104.out) | exact HB.out)) hb); clear BK104; clear HB; have BK104 := n0_; have HB := n1_; clear n0_ n1_; (try clear hb); (try clear hb2); (try clear hk); (try clear hi)))
 go_ret
 exact ⟨by first | rfl | (simp [errW_none, errW_some] <;> rfl) | (simp [*, errW_none, errW_some] <;> rfl), by repeat (first | (with_reducible first | exact HB.out | apply below_alloc | apply pw_below_drewN | apply below_drew1 | refine below_set ?_ GE104.out) | exact HB.out)⟩
def paymasterref07_LeafNode.T3 : Bool × List (List Nat × List Nat) := (true, [([], []), ([], []), ([1], [1]), ([0, 2, 2], [0, 2]), ([], []), ([4], [4]), ([3, 5], [3, 5]), ([6, 3, 0, 1, 2, 3, 4, 5, 6], [6])])
def paymasterref07_LeafNode.B3 : List Nat := [0, 0, 2, 7, 0, 16, 63, 127]
theorem paymasterref07_LeafNode.tab3 : rtab .any (opsOf Tryd.f99 3) = paymasterref07_LeafNode.T3 := by kernel_rfl
theorem paymasterref07_LeafNode.bits3 : waitsOk paymasterref07_LeafNode.T3.2 paymasterref07_LeafNode.B3 = true := by kernel_rfl
end Go.Proofs.YtfcodmdckcihmaaDoor.P
