-- Several texts of this workplace as one.
import Derived.Test.YtfcodmdckcihmaaDoorPx0
import Derived.ProofKit
import Derived.OpenShut
import Derived.ShutString
import Derived.ChangeOld
import Derived.WideShapes
import Derived.DataReads
import Derived.Deep.Slices
import Derived.OpenVars
import Derived.SizedLaws
import Derived.Test.YtfcodmdckcihmaaDoorProg
import Derived.Below
import Derived.Deep.Draws
import Derived.Deep.AppendLies
import Derived.Maps.AppendAt
import Derived.OwnWalk
import Derived.Laws.BytesArg
import Derived.Laws.MakeOwn
import Derived.Laws.OwnMore
import Derived.Deep.OwnRows
import Derived.Tactics
import Derived.Lib.ConvBytes
import Derived.Laws.Slices
import Derived.WalkKit
import Derived.KernelRfl
import Derived.RowKit3
import Derived.Deep.LoopGhost
import Derived.Deep.QuietTactic
import Derived.BigQuiet
import Derived.WideLaws
import Derived.Deep.DeepCutAuto
import Derived.Deep.CutBlock
import Derived.Deep.RegionHeld3
import Derived.Laws.Rows
import Derived.Lib.AppendStr
import Derived.ArgAppend
import Derived.Laws.IdiomCopy
import Derived.OrdersHeld
import Derived.Laws.BitsLemmas
import Derived.RowKit
import Derived.Test.YtfcodmdckcihmaaDoorWWords
import Derived.Test.YtfcodmdckcihmaaDoorHParts
import Derived.Test.YtfcodmdckcihmaaDoorShelf
import Derived.Laws.RangeAny
import Derived.Laws.RangeString
import Derived.LoopTactic
import Derived.Shelf.Lay
import Derived.Shelf.LaySoft
import Derived.Shelf.Unicode.ValidAny
import Derived.Lib.LaidU8T
import Derived.Lay
import Derived.Lib.RuneCount
import Derived.Lib.ValidU
import Derived.Lib.OthersKept
import Derived.Laws.Externs
import Derived.Orders
import Derived.Lib.Builder
import Derived.Lib.UnsafeStr
import Derived.Lib.Strings
import Derived.Lib.Slices
import Derived.Lib.Walk
import Derived.Test.YtfcodmdckcihmaaDoorHNext
import Derived.Test.YtfcodmdckcihmaaDoorHTakes
import Derived.Test.YtfcodmdckcihmaaDoorPx1
import Derived.Test.YtfcodmdckcihmaaDoorHQuick
import Derived.StillTailTactics
import Derived.Stop.RegionWithIn
import Derived.Deep.RegionWith
import Derived.Lib.SliceRun
import Derived.RangeFuncWrites
import Derived.RangeFuncNested
import Derived.RangeFuncBound
import Derived.RangeFuncCalls
import Derived.RangeFuncLeaves
import Derived.RangeFuncBox
import Derived.Shelf.Abstract
import Derived.OwnWalkIn
import Derived.TacticsInMore
import Derived.LoopNIn
import Derived.LoopIn
import Derived.Test.YtfcodmdckcihmaaDoorHBlocks
import Derived.Sort.CutIn
import Derived.OrdersIn
import Derived.WalkMore
import Derived.ScopeJumps
import Derived.Lib.Zigzag
import Derived.Laws.Bits64
import Derived.Laws.Bits64b
import Derived.Lib.AppendZeros
import Derived.Test.YtfcodmdckcihmaaDoorRows
import Derived.Test.YtfcodmdckcihmaaDoorCards
import Derived.Test.YtfcodmdckcihmaaDoorTie
import Derived.LaidByTextLater
import Derived.SevenTiedAt
namespace Go.Proofs.YtfcodmdckcihmaaDoor.P
open Go.RowKit Go.Proofs.YtfcodmdckcihmaaDoorW.PrintWords Go.Proofs.YtfcodmdckcihmaaDoorW.PrintLast Go.Proofs.YtfcodmdckcihmaaDoorW.PrintMore
set_option linter.unusedVariables false
set_option linter.unusedSimpArgs false
theorem aM' {p : Prop} (h : p) : Aside0 p := ⟨h⟩
theorem bL' (w : World) (a : Addr) {v : Value} (h : w.cell? a = some v) : a.block < w.heap.size := World.block_lt_of_cell? w a h
theorem lL' {n m k : Nat} (h : n < m) (g : m ≤ k) : n < k := Nat.lt_of_lt_of_le h g
set_option linter.unnecessarySimpa false
def Sized {H : Type} (P : Program) (t : TypeId) (x : DataW H) : Prop := (x.weights P t).all (· ≤ reachBytes) = true
theorem Sized.all {H : Type} {P : Program} {e : TypeId} : ∀ {l : List (DataW H)}, (DataW.weightsAll P e l).all (· ≤ reachBytes) = true → ∀ x ∈ l, Sized P e x
 | y :: l, h, x, hx => by
  simp only [DataW.weightsAll, List.all_append, Bool.and_eq_true] at h
  rcases List.mem_cons.1 hx with rfl | hx
  ·
   exact h.1
  ·
   exact Sized.all h.2 x hx
theorem Sized.each {H : Type} {P : Program} {ts : List TypeId} {ds : List (DataW H)} (h : (DataW.weightsEach P ts ds).all (· ≤ reachBytes) = true) {j : Nat} {t : TypeId} {x : DataW H} (ht : ts[j]? = some t) (hx : ds[j]? = some x) : Sized P t x :=
 List.all_eq_true.2 fun n hn => List.all_eq_true.1 h n (DataW.weights_mem_each ht hx n hn)
def Rd {α : Type} (P : Program) (t : TypeId) (d : Kd α) (wf : α → Prop) : Prop :=
 ∀ (H : Type) (enc : TypeId × Value → H) (w : World) (spare : Nat → Bool) (held : Bool) (fuel : Nat) (cs : List Value) (x : DataW H × List MemPlace),
  DataW.trod enc P w 0 spare held fuel t cs = some x → Sized P t x.1 → ∃ y, d.K w y cs ∧ wf y
theorem Rd.int {P : Program} {t : TypeId} (k : IntKind) (hu : P.underlying t = some (.int k)) : Rd P t (Kd.int k) (fun n => (Lit.int k n).wf = true) := by
 intro H enc w spare held fuel cs x h _
 obtain ⟨n, rfl, _, hw⟩ := DataW.trod_int hu h
 exact ⟨n, rfl, hw⟩
theorem Rd.bool {P : Program} {t : TypeId} (hu : P.underlying t = some .bool) : Rd P t Kd.bool (fun _ => True) := by
 intro H enc w spare held fuel cs x h _
 obtain ⟨n, rfl, _⟩ := DataW.trod_bool hu h
 exact ⟨n, rfl, trivial⟩
theorem Rd.string {P : Program} {t : TypeId} (hu : P.underlying t = some .string) : Rd P t Kd.string (fun s => s.size ≤ 140737488355328) := by
 intro H enc w spare held fuel cs x h hs
 obtain ⟨n, rfl, rfl, hw⟩ := DataW.trod_string hu h
 refine ⟨n, rfl, ?_⟩
 have h1 : n.data.toList.length ≤ reachBytes := by simpa [Sized, DataW.weights] using hs
 have h2 := reachBytes_lt
 have h3 : n.data.toList.length = n.size := by simp
 omega
theorem Rd.slice {α : Type} {P : Program} {t e : TypeId} {d : Kd α} {wf : α → Prop} (hu : P.underlying t = some (.slice e)) (hc : P.cellsOf e = d.sz) (hby : 1 ≤ P.bytesOf e) (he : Rd P e d wf) : Rd P t (Kd.slice e d) (fun l => l.length ≤ 140737488355328 ∧ ∀ x ∈ l, wf x) := by
 intro H enc w spare held fuel cs x h hsz
 rcases DataW.trod_slice hu h with ⟨rfl, _⟩ | ⟨a, len, cap, elems, rest, n, _, rfl, rfl, _, hl, hm, hlen, hel, _⟩
 ·
  exact ⟨[], ⟨none, 0, rfl, by simp, Kd.C_nil d w⟩, by simp, by simp⟩
 ·
  simp only [Sized, DataW.weights, hu, List.all_cons, List.all_append, Bool.and_eq_true, decide_eq_true_eq, List.length_map] at hsz
  obtain ⟨hs0, hs1, _⟩ := hsz
  have hlen47 : len ≤ 140737488355328 := by
   have h2 := reachBytes_lt
   have h3 : elems.length + rest.length ≤ (elems.length + rest.length) * P.bytesOf e := Nat.le_mul_of_pos_right _ hby
   omega
  have hall : ∀ i, i < len → ∃ y : α, ∃ c, w.cells? 0 (a.add (i * P.cellsOf e)) (P.cellsOf e) = some c ∧ d.K w y c ∧ wf y := by
   intro i hi
   have h1 := hel i hi
   rw [List.getElem?_eq_getElem (by omega)] at h1
   obtain ⟨c, h2, h3⟩ := Option.bind_eq_some_iff.1 h1
   obtain ⟨y, hy, hw⟩ := he H enc w spare held n c _ h3 (Sized.all hs1 _ (List.mem_map.2 ⟨_, List.getElem_mem _, rfl⟩))
   exact ⟨y, c, h2, hy, hw⟩
  have hlen0 : len ≤ maxLen := Nat.le_trans hl hm
  rcases Nat.eq_zero_or_pos len with rfl | hpos
  ·
   exact ⟨[], ⟨some a, cap, rfl, by simp, ⟨rfl, by simp, fun h0 => absurd h0 (by simp)⟩⟩, by simp, by simp⟩
  ·
   obtain ⟨y0, _⟩ := hall 0 hpos
   have hch : ∃ f : Nat → α, ∀ i, i < len → ∃ c, w.cells? 0 (a.add (i * P.cellsOf e)) (P.cellsOf e) = some c ∧ d.K w (f i) c ∧ wf (f i) :=
    ⟨fun i => if h : i < len then (hall i h).choose else y0, fun i hi => by simp only [dif_pos hi]; exact (hall i hi).choose_spec⟩
   obtain ⟨f, hf⟩ := hch
   refine ⟨(List.range len).map f, ⟨some a, cap, by simp, by simpa using hl, ?_⟩, by simpa using hlen47, ?_⟩
   ·
    refine ⟨rfl, ?_, fun _ => ⟨a, rfl, ?_⟩⟩
    ·
     have : ((List.range len).map f).length = len := by simp
     rw [this]; unfold maxLen at hlen0; exact hlen0
    ·
     intro j p hj
     have hjl : j < len := by
      have := (List.getElem?_eq_some_iff.1 hj).1
      simpa using this
     have hp : p = f j := by
      rw [List.getElem?_eq_getElem (by simpa using hjl)] at hj
      simpa using hj.symm
     subst hp
     obtain ⟨c, h1, h2, _⟩ := hf j hjl
     obtain ⟨_, hcl, hcc⟩ := World.cells?_some h1
     refine ⟨c, by rw [hcl, hc], h2, fun i u hu' => ?_⟩
     have hi : i < P.cellsOf e := by rw [← hcl]; exact (List.getElem?_eq_some_iff.1 hu').1
     have := hcc i hi
     rw [hu', Go.Deep.add_add] at this
     rw [← hc]; exact this
   ·
    intro x hx
    obtain ⟨i, hi, rfl⟩ := List.mem_map.1 hx
    exact (hf i (by simpa using hi)).choose_spec.2.2
def RdF {α : Type} (P : Program) (fs : List Field) (off : Nat) (d : Kd α) (wf : α → Prop) : Prop :=
 ∀ (H : Type) (enc : TypeId × Value → H) (w : World) (spare : Nat → Bool) (held : Bool) (n : Nat) (cs : List Value) (xs : List (DataW H × List MemPlace)),
  cs.length = off + d.sz → xs.length = fs.length → (∀ (i : Nat) (f : Field), fs[i]? = some f → DataW.trod enc P w 0 spare held n f.type ((cs.drop f.offset).take (P.cellsOf f.type)) = xs[i]?) → (∀ (i : Nat) (f : Field) x, fs[i]? = some f → xs[i]? = some x → Sized P f.type x.1) → ∃ y, d.K w y (cs.drop off) ∧ wf y
theorem RdF.one {α : Type} {P : Program} {f : Field} {off : Nat} {d : Kd α} {wf : α → Prop} (ho : f.offset = off) (hc : P.cellsOf f.type = d.sz) (h : Rd P f.type d wf) : RdF P [f] off d wf := by
 intro H enc w spare held n cs xs hl hx hall hsz
 have h0 := hall 0 f rfl
 obtain ⟨x, hx0⟩ : ∃ x, xs[0]? = some x := ⟨_, List.getElem?_eq_getElem (by rw [hx]; simp)⟩
 rw [hx0, ho, hc] at h0
 have : (cs.drop off).take d.sz = cs.drop off := List.take_of_length_le (by rw [List.length_drop]; omega)
 rw [this] at h0
 exact h H enc w spare held n _ _ h0 (hsz 0 f x rfl hx0)
theorem RdF.cons {α β : Type} {P : Program} {f : Field} {fs : List Field} {off : Nat} {d : Kd α} {d2 : Kd β} {wf : α → Prop} {wf2 : β → Prop} (ho : f.offset = off) (hc : P.cellsOf f.type = d.sz) (h : Rd P f.type d wf)
  (h2 : RdF P fs (off + d.sz) d2 wf2) : RdF P (f :: fs) off (Kd.pair d d2) (fun x => wf x.1 ∧ wf2 x.2) := by
 intro H enc w spare held n cs xs hl hx hall hsz
 have hl' : cs.length = off + (d.sz + d2.sz) := hl
 match xs, hx, hall, hsz with
 | x :: xr, hx, hall, hsz =>
  have h0 := hall 0 f rfl
  have hx0 : (x :: xr)[0]? = some x := rfl
  rw [hx0, ho, hc] at h0
  obtain ⟨y, hy, wy⟩ := h H enc w spare held n _ _ h0 (hsz 0 f x rfl hx0)
  obtain ⟨z, hz, wz⟩ := h2 H enc w spare held n cs xr (by omega) (by simpa using hx) (fun i g hg => by have := hall (i + 1) g (by simpa using hg); simpa using this) (fun i g y hg hy => hsz (i + 1) g y (by simpa using hg) (by simpa using hy))
  refine ⟨(y, z), ⟨_, _, ?_, hy, hz⟩, wy, wz⟩
  rw [← List.drop_drop]
  exact (List.take_append_drop d.sz (cs.drop off)).symm
theorem Rd.struct {α β : Type} {P : Program} {t : TypeId} {fs : Array Field} {d : Kd α} {wf : α → Prop} {wf2 : β → Prop} (f : β → α) (g : α → β) (hfg : ∀ a, f (g a) = a) (hu : P.underlying t = some (.struct fs)) (hc : P.cellsOf t = d.sz)
  (h : RdF P fs.toList 0 d wf) (hw : ∀ a, wf a → wf2 (g a)) : Rd P t (Kd.iso d f) wf2 := by
 intro H enc w spare held fuel cs x hx hsz
 obtain ⟨xs, n, _, rfl, hl, hxl, hall⟩ := DataW.trod_struct hu hx
 simp only [Sized, DataW.weights, hu] at hsz
 obtain ⟨y, hy, wy⟩ := h H enc w spare held n cs xs (by rw [hl, hc]; omega) (by simpa using hxl) (fun i f hf => hall i f (by simpa using hf)) (fun i f x hf hx => Sized.each hsz (j := i) (by simpa using ⟨f, by simpa using hf, rfl⟩) (by simp [hx]))
 refine ⟨g y, ?_, hw y wy⟩
 show d.K w (f (g y)) cs
 rw [hfg]
 simpa using hy
theorem Rd.agg {α : Type} {H : Type} {enc : TypeId × Value → H} {P : Program} {W : World} {r : Reach} {b0 : Nat} {t : TypeId} {fs : Array Field} {d : Kd α} {wf : α → Prop} {v : Value} {x : DataW H} {p : List MemPlace} {sp : Nat → Bool} {held : Bool} (hr : Rd P t d wf)
  (hu : P.underlying t = some (.struct fs)) (hv : Value.okWide P W r b0 t v) (h : DataW.Trod enc P W 0 sp held t v x p) (hsz : Sized P t x) : ∃ y cs, v = .agg cs ∧ d.K W y cs.toList ∧ wf y := by
 obtain ⟨cs, rfl, _⟩ := WideShapes.okWide_struct hu hv
 obtain ⟨fuel, hf⟩ := h
 obtain ⟨y, hy, wy⟩ := hr H enc W sp held fuel _ _ hf hsz
 exact ⟨y, cs, rfl, by simpa [Value.cells] using hy, wy⟩
theorem Rd.cell {α : Type} {H : Type} {enc : TypeId × Value → H} {P : Program} {W : World} {t : TypeId} {d : Kd α} {wf : α → Prop} {v : Value} {x : DataW H} {p : List MemPlace} {sp : Nat → Bool} {held : Bool} (hr : Rd P t d wf)
  (hv : v.cells.toList = [v]) (h : DataW.Trod enc P W 0 sp held t v x p) (hsz : Sized P t x) : ∃ y, d.K W y [v] ∧ wf y := by
 obtain ⟨fuel, hf⟩ := h
 rw [hv] at hf
 exact hr H enc W sp held fuel _ _ hf hsz
end Go.Proofs.YtfcodmdckcihmaaDoor.P
namespace Go.Proofs.YtfcodmdckcihmaaDoor.P
open Go.RowKit Go.Proofs.YtfcodmdckcihmaaDoorW.PrintWords Go.Proofs.YtfcodmdckcihmaaDoorW.PrintLast Go.Proofs.YtfcodmdckcihmaaDoorW.PrintMore
attribute [local go_sem] max2_int min2_int max_two min_two max_three min_three max_four min_four-- for this text's walks alone
set_option linter.unusedVariables false
set_option linter.unusedSimpArgs false
theorem info23 : (Tryd.prog.info? 23).map (fun i => (i.zero, i.size, i.bytes)) = some (some (.int .u64 0), 1, 8) := by kernel_rfl
structure SU128 where
 f0 : Int
 f1 : Int
def zU128 : SU128 := ⟨(0 : Int), (0 : Int)⟩
def kU128 : Kd SU128 := Kd.iso (Kd.pair (Kd.int .u64) (Kd.int .u64)) (fun x : SU128 => (x.f0, x.f1))
theorem kU128_open {w : World} {x : SU128} {cs : List Value} (h : kU128.K w x cs) : cs = [.int .u64 x.f0, .int .u64 x.f1] := by
 obtain ⟨_, _, rfl, rfl, rfl⟩ := h
 exact rfl
theorem kU128_mk (w : World) (x : SU128)  : kU128.K w x [.int .u64 x.f0, .int .u64 x.f1] := ⟨[.int .u64 x.f0], [.int .u64 x.f1], rfl, rfl, rfl⟩
structure SNode where
 f0 : ByteArray
 f1 : SU128
def zNode : SNode := ⟨(⟨#[]⟩ : ByteArray), zU128⟩
def kNode : Kd SNode := Kd.iso (Kd.pair Kd.string kU128) (fun x : SNode => (x.f0, x.f1))
theorem kNode_open {w : World} {x : SNode} {cs : List Value} (h : kNode.K w x cs) : cs = [.string x.f0, .int .u64 x.f1.f0, .int .u64 x.f1.f1] := by
 obtain ⟨_, _, rfl, rfl, s1⟩ := h
 obtain rfl := kU128_open s1
 exact rfl
theorem kNode_mk (w : World) (x : SNode)  : kNode.K w x [.string x.f0, .int .u64 x.f1.f0, .int .u64 x.f1.f1] := ⟨[.string x.f0], [.int .u64 x.f1.f0, .int .u64 x.f1.f1], rfl, rfl, (kU128_mk w x.f1 )⟩
def rd_TNode (xs : List SNode) (i : Int) : SNode := xs.getD i.toNat zNode
theorem at_TNode {w : World} {A : Option Addr} {n : Nat} {xs : List SNode} (h : Kd.C kNode w A n xs) (i : Int) (h0 : 0 ≤ i) (h1 : i < n) : ∃ ad , A = some ad ∧ w.cell? (ad.add (i.toNat * 3)) = some (.string (rd_TNode xs i).f0) ∧ w.cell? ⟨(ad.add (i.toNat * 3)).block, (ad.add (i.toNat * 3)).off + 1, none⟩ = some (.int .u64 (rd_TNode xs i).f1.f0) ∧ w.cell? ⟨(ad.add (i.toNat * 3)).block, (ad.add (i.toNat * 3)).off + 2, none⟩ = some (.int .u64 (rd_TNode xs i).f1.f1) := by
 obtain ⟨ad, c, e, _, hK, hc0⟩ := Kd.C_get h zNode i h0 h1
 have hc : ∀ j u, c[j]? = some u → w.cell? (ad.add (i.toNat * 3 + j)) = some u := hc0
 obtain rfl := kNode_open hK
 exact ⟨ad, e, hc 0 _ rfl, by rw [← add_field _ _ 1 (by omega)]; exact hc 1 _ rfl, by rw [← add_field _ _ 2 (by omega)]; exact hc 2 _ rfl⟩
end Go.Proofs.YtfcodmdckcihmaaDoor.P
namespace Go.Proofs.YtfcodmdckcihmaaDoor.P
open Go.RowKit Go.Proofs.YtfcodmdckcihmaaDoorW.PrintWords Go.Proofs.YtfcodmdckcihmaaDoorW.PrintLast Go.Proofs.YtfcodmdckcihmaaDoorW.PrintMore
attribute [local go_sem] max2_int min2_int max_two min_two max_three min_three max_four min_four-- for this text's walks alone
set_option linter.unusedVariables false
set_option linter.unusedSimpArgs false
structure SProof where
 f0 : Int
 f1 : (List SNode)
structure SLeaf where
 f0 : Bool
 f1 : ByteArray
 f2 : ByteArray
 f3 : SU128
def zLeaf : SLeaf := ⟨false, (⟨#[]⟩ : ByteArray), (⟨#[]⟩ : ByteArray), zU128⟩
def kLeaf : Kd SLeaf := Kd.iso (Kd.pair Kd.bool (Kd.pair Kd.string (Kd.pair Kd.string kU128))) (fun x : SLeaf => (x.f0, x.f1, x.f2, x.f3))
theorem kLeaf_open {w : World} {x : SLeaf} {cs : List Value} (h : kLeaf.K w x cs) : cs = [.bool x.f0, .string x.f1, .string x.f2, .int .u64 x.f3.f0, .int .u64 x.f3.f1] := by
 obtain ⟨_, _, rfl, rfl, ⟨_, _, rfl, rfl, ⟨_, _, rfl, rfl, s3⟩⟩⟩ := h
 obtain rfl := kU128_open s3
 exact rfl
theorem kLeaf_mk (w : World) (x : SLeaf)  : kLeaf.K w x [.bool x.f0, .string x.f1, .string x.f2, .int .u64 x.f3.f0, .int .u64 x.f3.f1] := ⟨[.bool x.f0], [.string x.f1, .string x.f2, .int .u64 x.f3.f0, .int .u64 x.f3.f1], rfl, rfl, ⟨[.string x.f1], [.string x.f2, .int .u64 x.f3.f0, .int .u64 x.f3.f1], rfl, rfl, ⟨[.string x.f2], [.int .u64 x.f3.f0, .int .u64 x.f3.f1], rfl, rfl, (kU128_mk w x.f3 )⟩⟩⟩
def rd_TLeaf (xs : List SLeaf) (i : Int) : SLeaf := xs.getD i.toNat zLeaf
theorem at_TLeaf {w : World} {A : Option Addr} {n : Nat} {xs : List SLeaf} (h : Kd.C kLeaf w A n xs) (i : Int) (h0 : 0 ≤ i) (h1 : i < n) : ∃ ad , A = some ad ∧ w.cell? (ad.add (i.toNat * 5)) = some (.bool (rd_TLeaf xs i).f0) ∧ w.cell? ⟨(ad.add (i.toNat * 5)).block, (ad.add (i.toNat * 5)).off + 1, none⟩ = some (.string (rd_TLeaf xs i).f1) ∧ w.cell? ⟨(ad.add (i.toNat * 5)).block, (ad.add (i.toNat * 5)).off + 2, none⟩ = some (.string (rd_TLeaf xs i).f2) ∧ w.cell? ⟨(ad.add (i.toNat * 5)).block, (ad.add (i.toNat * 5)).off + 3, none⟩ = some (.int .u64 (rd_TLeaf xs i).f3.f0) ∧ w.cell? ⟨(ad.add (i.toNat * 5)).block, (ad.add (i.toNat * 5)).off + 4, none⟩ = some (.int .u64 (rd_TLeaf xs i).f3.f1) := by
 obtain ⟨ad, c, e, _, hK, hc0⟩ := Kd.C_get h zLeaf i h0 h1
 have hc : ∀ j u, c[j]? = some u → w.cell? (ad.add (i.toNat * 5 + j)) = some u := hc0
 obtain rfl := kLeaf_open hK
 exact ⟨ad, e, hc 0 _ rfl, by rw [← add_field _ _ 1 (by omega)]; exact hc 1 _ rfl, by rw [← add_field _ _ 2 (by omega)]; exact hc 2 _ rfl, by rw [← add_field _ _ 3 (by omega)]; exact hc 3 _ rfl, by rw [← add_field _ _ 4 (by omega)]; exact hc 4 _ rfl⟩
end Go.Proofs.YtfcodmdckcihmaaDoor.P
namespace Go.Proofs.YtfcodmdckcihmaaDoor.P
open Go.RowKit Go.Proofs.YtfcodmdckcihmaaDoorW.PrintWords Go.Proofs.YtfcodmdckcihmaaDoorW.PrintLast Go.Proofs.YtfcodmdckcihmaaDoorW.PrintMore
set_option linter.unusedVariables false
set_option linter.unusedSimpArgs false
def wfU128 (x : SU128) : Prop := (Lit.int .u64 x.f0).wf = true ∧ (Lit.int .u64 x.f1).wf = true
theorem rdU128 : Rd Tryd.prog 34 kU128 wfU128 :=
 Rd.struct (fun x : SU128 => (x.f0, x.f1)) (fun a => ⟨a.1, a.2⟩) (fun _ => rfl) Tryd.underlying34 (by kernel_rfl)
  (RdF.cons rfl (by kernel_rfl) (Rd.int .u64 Tryd.underlying23) (RdF.one rfl (by kernel_rfl) (Rd.int .u64 Tryd.underlying23))) (fun a h => h)
def wfLeaf (x : SLeaf) : Prop := True ∧ x.f1.size ≤ 140737488355328 ∧ x.f2.size ≤ 140737488355328 ∧ wfU128 x.f3
theorem rdLeaf : Rd Tryd.prog 36 kLeaf wfLeaf :=
 Rd.struct (fun x : SLeaf => (x.f0, x.f1, x.f2, x.f3)) (fun a => ⟨a.1, a.2.1, a.2.2.1, a.2.2.2⟩) (fun _ => rfl) Tryd.underlying36 (by kernel_rfl)
  (RdF.cons rfl (by kernel_rfl) (Rd.bool Tryd.underlying4) (RdF.cons rfl (by kernel_rfl) (Rd.string Tryd.underlying9) (RdF.cons rfl (by kernel_rfl) (Rd.string Tryd.underlying9) (RdF.one rfl (by kernel_rfl) rdU128)))) (fun a h => h)
end Go.Proofs.YtfcodmdckcihmaaDoor.P
namespace Go.Proofs.YtfcodmdckcihmaaDoor.P
open Go.RowKit Go.Proofs.YtfcodmdckcihmaaDoorW.PrintWords Go.Proofs.YtfcodmdckcihmaaDoorW.PrintLast Go.Proofs.YtfcodmdckcihmaaDoorW.PrintMore
attribute [local go_sem] max2_int min2_int max_two min_two max_three min_three max_four min_four-- for this text's walks alone
set_option linter.unusedVariables false
set_option linter.unusedSimpArgs false
theorem eqAU128 (d : Nat) (w : World) (x0 y0 : Int) (x1 y1 : Int) :
  (Op.equalIn (d + 2) 34 (.agg #[.int .u64 x0, .int .u64 x1]) (.agg #[.int .u64 y0, .int .u64 y1])).run Tryd.prog w = .ok (x0 == y0 && (x1 == y1)) w := by
 refine eqA_of Tryd.underlying34 (by kernel_rfl) ?_
 refine eqf_cons (by rfl) (by go_simp; rfl) (by go_simp; rfl) (by go_simp) ?_
 exact eqf_last (by rfl) (by go_simp; rfl) (by go_simp; rfl) (by go_simp)
theorem eqANode (d : Nat) (w : World) (x0 y0 : ByteArray) (x1 y1 : Int) (x2 y2 : Int) :
  (Op.equalIn (d + 3) 46 (.agg #[.string x0, .int .u64 x1, .int .u64 x2]) (.agg #[.string y0, .int .u64 y1, .int .u64 y2])).run Tryd.prog w = .ok (x0.toList == y0.toList && ((x1 == y1 && (x2 == y2)))) w := by
 refine eqA_of Tryd.underlying46 (by kernel_rfl) ?_
 refine eqf_cons (by rfl) (by go_simp; rfl) (by go_simp; rfl) (by go_simp) ?_
 exact eqf_last (by rfl) (by go_simp) (by go_simp) (eqAU128 (d + 0) w _ _ _ _)
end Go.Proofs.YtfcodmdckcihmaaDoor.P
namespace Go.Proofs.YtfcodmdckcihmaaDoor.P
open Go.RowKit Go.Proofs.YtfcodmdckcihmaaDoorW.PrintWords Go.Proofs.YtfcodmdckcihmaaDoorW.PrintLast Go.Proofs.YtfcodmdckcihmaaDoorW.PrintMore
attribute [local go_sem] max2_int min2_int max_two min_two max_three min_three max_four min_four-- for this text's walks alone
set_option linter.unusedVariables false
set_option linter.unusedSimpArgs false
theorem eqALeaf (d : Nat) (w : World) (x0 y0 : Bool) (x1 y1 : ByteArray) (x2 y2 : ByteArray) (x3 y3 : Int) (x4 y4 : Int) :
  (Op.equalIn (d + 3) 36 (.agg #[.bool x0, .string x1, .string x2, .int .u64 x3, .int .u64 x4]) (.agg #[.bool y0, .string y1, .string y2, .int .u64 y3, .int .u64 y4])).run Tryd.prog w = .ok (x0 == y0 && (x1.toList == y1.toList && (x2.toList == y2.toList && ((x3 == y3 && (x4 == y4)))))) w := by
 refine eqA_of Tryd.underlying36 (by kernel_rfl) ?_
 refine eqf_cons (by rfl) (by go_simp; rfl) (by go_simp; rfl) (by go_simp) ?_
 refine eqf_cons (by rfl) (by go_simp; rfl) (by go_simp; rfl) (by go_simp) ?_
 refine eqf_cons (by rfl) (by go_simp; rfl) (by go_simp; rfl) (by go_simp) ?_
 exact eqf_last (by rfl) (by go_simp) (by go_simp) (eqAU128 (d + 0) w _ _ _ _)
end Go.Proofs.YtfcodmdckcihmaaDoor.P
namespace Go.Proofs.YtfcodmdckcihmaaDoor.P
open Go.RowKit Go.Proofs.YtfcodmdckcihmaaDoorW.PrintWords Go.Proofs.YtfcodmdckcihmaaDoorW.PrintLast Go.Proofs.YtfcodmdckcihmaaDoorW.PrintMore
attribute [local go_sem] max2_int min2_int max_two min_two max_three min_three max_four min_four-- for this text's walks alone
set_option linter.unusedVariables false
set_option linter.unusedSimpArgs false
attribute [local go_sem high] eqALeaf
def paymasterlaw15_Great.l0 : Nat → List (SLeaf) → Int → Option (Bool)
 | 0, _, _ => none
 | k + 1, x0, x3 => if x3 < (x0.length : Int) then (if 0 ≤ x3 then (if (((rd_TLeaf x0 x3).f1).size : Int) > 200 then (some true) else (if (((rd_TLeaf x0 x3).f2).size : Int) > 200 then (some true) else (paymasterlaw15_Great.l0 k x0 (wrap64 (x3 + 1))))) else (none)) else (some false)
def paymasterlaw15_Great.f (k : Nat) (l0 : List (SLeaf)) : Option (Bool) := if (l0.length : Int) > 70 then (some true) else (paymasterlaw15_Great.l0 k l0 0)
set_option maxHeartbeats 8000000 in
set_option maxRecDepth 100000 in
theorem paymasterlaw15_Great.calls (k : Nat) (A0 : Option Addr) (c0 : Nat) (l0 : List (SLeaf)) (r : Bool) (w : World) (hr0 : Kd.C kLeaf w A0 l0.length l0) (hc0 : l0.length ≤ c0) (h : paymasterlaw15_Great.f k l0 = some r) :
  Calls Tryd.prog 13 #[.slice A0 l0.length c0] w fun e w' => e = .returned (.bool r) ∧ Drawn0 w w' := by
 have HR0 := aM' hr0
 have HC0 := aM' hc0
 clear hr0 hc0
 have H : (if (l0.length : Int) > 70 then (some true) else (paymasterlaw15_Great.l0 k l0 0)) = some r := h
 clear h
 by_cases c2 : (l0.length : Int) > 70
 ·
  rw [if_pos c2] at H
  have c2b0 : decide (70 < (l0.length : Int)) = true := decide_eq_true c2
  have c2b1 : decide (70 < l0.length) = true := decide_eq_true (by omega)
  clear c2
  obtain rfl := Option.some.inj H
  go_enter Tryd.func13, Tryd.ntmps13
  go_wp2
  go_ret
  exact ⟨by first | rfl | (simp; done) | (simp [*]; done), by repeat (first | exact Drawn0.refl _ | apply Drawn0.step)⟩
 ·
  rw [if_neg c2] at H
  have c2b0 : decide (70 < (l0.length : Int)) = false := decide_eq_false c2
  have c2b1 : decide (70 < l0.length) = false := decide_eq_false (by omega)
  clear c2
  have H' := aM' H
  clear H
  go_enter Tryd.func13, Tryd.ntmps13
  go_wp2
  go_loopg [3] k (fun kq v3 w' => ∃ (x3_1 : Int), v3 = .int .i64 x3_1 ∧ Aside0 (paymasterlaw15_Great.l0 kq l0 x3_1 = some r) ∧ Aside0 (kq ≤ k) ∧ Drawn0 w w')
  case atStart => exact ⟨(0), (by first | rfl | (simp; done) | (simp [*]; done)), H', ⟨Nat.le_refl _⟩, by repeat (first | exact Drawn0.refl _ | apply Drawn0.step)⟩
  case round =>
   clear H'
   try clear c1
   try clear c2
   try clear c2b0
   try clear c2b1
   try clear p2
   obtain ⟨x3_1, rfl, HA, HK1, ⟨m1, rfl⟩⟩ := hrel
   cases gk with
   | zero => exact absurd HA.out (by simp [paymasterlaw15_Great.l0])
   | succ k1 =>
    have H := HA.out
    clear HA
    simp only [paymasterlaw15_Great.l0] at H
    by_cases c3 : x3_1 < (l0.length : Int)
    ·
     rw [if_pos c3] at H
     have c3b0 : decide (x3_1 < (l0.length : Int)) = true := decide_eq_true c3
     clear c3
     by_cases c4 : 0 ≤ x3_1
     ·
      rw [if_pos c4] at H
      have c4b0 : decide (0 ≤ x3_1) = true := decide_eq_true c4
      clear c4
      by_cases c5 : (((rd_TLeaf l0 x3_1).f1).size : Int) > 200
      ·
       rw [if_pos c5] at H
       have c5b0 : decide (200 < (((rd_TLeaf l0 x3_1).f1).size : Int)) = true := decide_eq_true c5
       have c5b1 : decide (200 < ((rd_TLeaf l0 x3_1).f1).size) = true := decide_eq_true (by omega)
       clear c5
       obtain rfl := Option.some.inj H
       have p101 : 0 ≤ (x3_1 : Int) := of_decide_eq_true (by first | (with_reducible assumption) | assumption)
       have q101 : x3_1 < (l0.length : Int) := of_decide_eq_true (by first | (with_reducible assumption) | assumption)
       obtain ⟨ad101, e101, hx101_0, hx101_1, hx101_2, hx101_3, hx101_4⟩ := at_TLeaf HR0.out x3_1 p101 q101
       cases e101
       replace p101 := eq_true p101
       replace q101 := eq_true q101
       go_wp2
       go_ret
       exact ⟨by first | rfl | (simp; done) | (simp [*]; done), by repeat (first | exact Drawn0.refl _ | apply Drawn0.step)⟩
      ·
       rw [if_neg c5] at H
       have c5b0 : decide (200 < (((rd_TLeaf l0 x3_1).f1).size : Int)) = false := decide_eq_false c5
       have c5b1 : decide (200 < ((rd_TLeaf l0 x3_1).f1).size) = false := decide_eq_false (by omega)
       clear c5
       by_cases c6 : (((rd_TLeaf l0 x3_1).f2).size : Int) > 200
       ·
        rw [if_pos c6] at H
        have c6b0 : decide (200 < (((rd_TLeaf l0 x3_1).f2).size : Int)) = true := decide_eq_true c6
        have c6b1 : decide (200 < ((rd_TLeaf l0 x3_1).f2).size) = true := decide_eq_true (by omega)
        clear c6
        obtain rfl := Option.some.inj H
        have p101 : 0 ≤ (x3_1 : Int) := of_decide_eq_true (by first | (with_reducible assumption) | assumption)
        have q101 : x3_1 < (l0.length : Int) := of_decide_eq_true (by first | (with_reducible assumption) | assumption)
        obtain ⟨ad101, e101, hx101_0, hx101_1, hx101_2, hx101_3, hx101_4⟩ := at_TLeaf HR0.out x3_1 p101 q101
        cases e101
        replace p101 := eq_true p101
        replace q101 := eq_true q101
        have p102 : 0 ≤ (x3_1 : Int) := of_decide_eq_true (by first | (with_reducible assumption) | assumption)
        have q102 : x3_1 < (l0.length : Int) := of_decide_eq_true (by first | (with_reducible assumption) | assumption)
        obtain ⟨ad102, e102, hx102_0, hx102_1, hx102_2, hx102_3, hx102_4⟩ := at_TLeaf HR0.out x3_1 p102 q102
        obtain rfl : ad101 = ad102 := (by injection e102)
        replace p102 := eq_true p102
        replace q102 := eq_true q102
        go_wp2
        go_ret
        exact ⟨by first | rfl | (simp; done) | (simp [*]; done), by repeat (first | exact Drawn0.refl _ | apply Drawn0.step)⟩
       ·
        rw [if_neg c6] at H
        have c6b0 : decide (200 < (((rd_TLeaf l0 x3_1).f2).size : Int)) = false := decide_eq_false c6
        have c6b1 : decide (200 < ((rd_TLeaf l0 x3_1).f2).size) = false := decide_eq_false (by omega)
        clear c6
        have H' := aM' H
        clear H
        have p101 : 0 ≤ (x3_1 : Int) := of_decide_eq_true (by first | (with_reducible assumption) | assumption)
        have q101 : x3_1 < (l0.length : Int) := of_decide_eq_true (by first | (with_reducible assumption) | assumption)
        obtain ⟨ad101, e101, hx101_0, hx101_1, hx101_2, hx101_3, hx101_4⟩ := at_TLeaf HR0.out x3_1 p101 q101
        cases e101
        replace p101 := eq_true p101
        replace q101 := eq_true q101
        have p102 : 0 ≤ (x3_1 : Int) := of_decide_eq_true (by first | (with_reducible assumption) | assumption)
        have q102 : x3_1 < (l0.length : Int) := of_decide_eq_true (by first | (with_reducible assumption) | assumption)
        obtain ⟨ad102, e102, hx102_0, hx102_1, hx102_2, hx102_3, hx102_4⟩ := at_TLeaf HR0.out x3_1 p102 q102
        obtain rfl : ad101 = ad102 := (by injection e102)
        replace p102 := eq_true p102
        replace q102 := eq_true q102
        go_wp2
        go_roundg k1
        case measure => have := HK1.out; omega
        case rel => exact ⟨(wrap64 (x3_1 + 1)), (by first | rfl | (simp; done) | (simp [*]; done)), H', ⟨by have := HK1.out; omega⟩, by repeat (first | exact Drawn0.refl _ | apply Drawn0.step)⟩
     ·
      rw [if_neg c4] at H
      exact absurd H (by simp)
    ·
     rw [if_neg c3] at H
     have c3b0 : decide (x3_1 < (l0.length : Int)) = false := decide_eq_false c3
     clear c3
     obtain rfl := Option.some.inj H
     go_wp2
     go_ret
     exact ⟨by first | rfl | (simp; done) | (simp [*]; done), by repeat (first | exact Drawn0.refl _ | apply Drawn0.step)⟩
end Go.Proofs.YtfcodmdckcihmaaDoor.P
namespace Go.Proofs.YtfcodmdckcihmaaDoor.P
open Go.RowKit Go.Proofs.YtfcodmdckcihmaaDoorW.PrintWords Go.Proofs.YtfcodmdckcihmaaDoorW.PrintLast Go.Proofs.YtfcodmdckcihmaaDoorW.PrintMore
attribute [local go_sem] max2_int min2_int max_two min_two max_three min_three max_four min_four-- for this text's walks alone
set_option linter.unusedVariables false
set_option linter.unusedSimpArgs false
attribute [local go_sem high] eqANode
def paymasterref14_Of.f (a0 : Int) (a1_0 : ByteArray) (a1_1 : Int) (a1_2 : Int) : Option (Bool) := if a0 ≥ 1 then (if a0 ≤ 32 then (some ((a1_0.size : Int) == a0)) else (some false)) else (some false)
set_option maxHeartbeats 8000000 in
set_option maxRecDepth 100000 in
theorem paymasterref14_Of.calls (a0 : Int) (a1_0 : ByteArray) (a1_1 : Int) (a1_2 : Int) (r : Bool) (w : World) (h : paymasterref14_Of.f a0 a1_0 a1_1 a1_2 = some r) :
  Calls Tryd.prog 122 #[.int .i64 a0, .agg #[.string a1_0, .int .u64 a1_1, .int .u64 a1_2]] w fun e w' => e = .returned (.bool r) ∧ Below w.heap.size w w' := by
 have hu46 := Tryd.underlying46
 have HB := aM' (Below.refl w.heap.size w)
 have H : (if a0 ≥ 1 then (if a0 ≤ 32 then (some ((a1_0.size : Int) == a0)) else (some false)) else (some false)) = some r := h
 clear h
 by_cases c3 : a0 ≥ 1
 ·
  rw [if_pos c3] at H
  have c3b0 : decide (1 ≤ a0) = true := decide_eq_true c3
  clear c3
  by_cases c4 : a0 ≤ 32
  ·
   rw [if_pos c4] at H
   have c4b0 : decide (a0 ≤ 32) = true := decide_eq_true c4
   clear c4
   obtain rfl := Option.some.inj H
   go_enter Tryd.func122, Tryd.ntmps122
   go_wp2_with (first | ((with_reducible refine gate_dst (N := 3) rfl ?_); (try (refine gate_guard (by rfl) ?_; dsimp only)); refine box_event ?hg (N := 3) ?hd (cs := #[.string a1_0, .int .u64 a1_1, .int .u64 a1_2]) (t := 46) ?hr ?_; (case hd => rfl); (case hg => rfl); (case hr => first | (go_simp; done) | (go_simp; rfl)); intro gb101 hg w5 hbox hb; have n0_ := aM' (below_step (by repeat (first | (with_reducible first | exact HB.out | apply below_alloc | apply pw_below_drewN | apply below_drew1) | exact HB.out)) hb); have n1_ := aM' (hbox); have n2_ := aM' ((by rw [hg]; exact (below_size (by repeat (first | (with_reducible first | exact HB.out | apply below_alloc | apply pw_below_drewN | apply below_drew1) | exact HB.out))) : w.heap.size ≤ gb101)); have n3_ := aM' ((by rw [hg]; exact (below_size (by repeat (first | (with_reducible first | exact HB.out | apply below_alloc | apply pw_below_drewN | apply below_drew1) | exact HB.out))) : w.heap.size ≤ gb101)); clear HB; have HB := n0_; have BK101 := n1_; have GW101 := n2_; have GE101 := n3_; clear n0_ n1_ n2_ n3_; clear hb hbox hg; have hcz6_0 : w5.cell? ⟨gb101, 0, none⟩ = some (.string a1_0) := (blk_cell BK101.out 0).trans rfl; have hcz6_1 : w5.cell? ⟨gb101, 1, none⟩ = some (.int .u64 a1_1) := (blk_cell BK101.out 1).trans rfl; have hcz6_2 : w5.cell? ⟨gb101, 2, none⟩ = some (.int .u64 a1_2) := (blk_cell BK101.out 2).trans rfl; have hfz6_0 := blk_frozen BK101.out 0; have hfz6_1 := blk_frozen BK101.out 1; have hfz6_2 := blk_frozen BK101.out 2))
   go_ret
   exact ⟨by first | rfl | (simp [errW_none, errW_some] <;> rfl) | (simp [*, errW_none, errW_some] <;> rfl), by repeat (first | (with_reducible first | exact HB.out | apply below_alloc | apply pw_below_drewN | apply below_drew1 | refine below_set ?_ GE101.out) | exact HB.out)⟩
  ·
   rw [if_neg c4] at H
   have c4b0 : decide (a0 ≤ 32) = false := decide_eq_false c4
   clear c4
   obtain rfl := Option.some.inj H
   go_enter Tryd.func122, Tryd.ntmps122
   go_wp2_with (first | ((with_reducible refine gate_dst (N := 3) rfl ?_); (try (refine gate_guard (by rfl) ?_; dsimp only)); refine box_event ?hg (N := 3) ?hd (cs := #[.string a1_0, .int .u64 a1_1, .int .u64 a1_2]) (t := 46) ?hr ?_; (case hd => rfl); (case hg => rfl); (case hr => first | (go_simp; done) | (go_simp; rfl)); intro gb101 hg w7 hbox hb; have n0_ := aM' (below_step (by repeat (first | (with_reducible first | exact HB.out | apply below_alloc | apply pw_below_drewN | apply below_drew1) | exact HB.out)) hb); have n1_ := aM' (hbox); have n2_ := aM' ((by rw [hg]; exact (below_size (by repeat (first | (with_reducible first | exact HB.out | apply below_alloc | apply pw_below_drewN | apply below_drew1) | exact HB.out))) : w.heap.size ≤ gb101)); have n3_ := aM' ((by rw [hg]; exact (below_size (by repeat (first | (with_reducible first | exact HB.out | apply below_alloc | apply pw_below_drewN | apply below_drew1) | exact HB.out))) : w.heap.size ≤ gb101)); clear HB; have HB := n0_; have BK101 := n1_; have GW101 := n2_; have GE101 := n3_; clear n0_ n1_ n2_ n3_; clear hb hbox hg))
   go_ret
   exact ⟨by first | rfl | (simp [errW_none, errW_some] <;> rfl) | (simp [*, errW_none, errW_some] <;> rfl), by repeat (first | (with_reducible first | exact HB.out | apply below_alloc | apply pw_below_drewN | apply below_drew1 | refine below_set ?_ GE101.out) | exact HB.out)⟩
 ·
  rw [if_neg c3] at H
  have c3b0 : decide (1 ≤ a0) = false := decide_eq_false c3
  clear c3
  obtain rfl := Option.some.inj H
  go_enter Tryd.func122, Tryd.ntmps122
  go_wp2_with (first | ((with_reducible refine gate_dst (N := 3) rfl ?_); (try (refine gate_guard (by rfl) ?_; dsimp only)); refine box_event ?hg (N := 3) ?hd (cs := #[.string a1_0, .int .u64 a1_1, .int .u64 a1_2]) (t := 46) ?hr ?_; (case hd => rfl); (case hg => rfl); (case hr => first | (go_simp; done) | (go_simp; rfl)); intro gb101 hg w8 hbox hb; have n0_ := aM' (below_step (by repeat (first | (with_reducible first | exact HB.out | apply below_alloc | apply pw_below_drewN | apply below_drew1) | exact HB.out)) hb); have n1_ := aM' (hbox); have n2_ := aM' ((by rw [hg]; exact (below_size (by repeat (first | (with_reducible first | exact HB.out | apply below_alloc | apply pw_below_drewN | apply below_drew1) | exact HB.out))) : w.heap.size ≤ gb101)); have n3_ := aM' ((by rw [hg]; exact (below_size (by repeat (first | (with_reducible first | exact HB.out | apply below_alloc | apply pw_below_drewN | apply below_drew1) | exact HB.out))) : w.heap.size ≤ gb101)); clear HB; have HB := n0_; have BK101 := n1_; have GW101 := n2_; have GE101 := n3_; clear n0_ n1_ n2_ n3_; clear hb hbox hg))
  go_ret
  exact ⟨by first | rfl | (simp [errW_none, errW_some] <;> rfl) | (simp [*, errW_none, errW_some] <;> rfl), by repeat (first | (with_reducible first | exact HB.out | apply below_alloc | apply pw_below_drewN | apply below_drew1 | refine below_set ?_ GE101.out) | exact HB.out)⟩
def node_Of.f (a0 : Int) (a1_0 : ByteArray) (a1_1 : Int) (a1_2 : Int) : Option (Bool) := if a0 ≥ 1 then (if a0 ≤ 32 then (some ((a1_0.size : Int) == a0)) else (some false)) else (some false)
set_option maxHeartbeats 8000000 in
set_option maxRecDepth 100000 in
theorem node_Of.calls (a0 : Int) (a1_0 : ByteArray) (a1_1 : Int) (a1_2 : Int) (r : Bool) (w : World) (h : node_Of.f a0 a1_0 a1_1 a1_2 = some r) :
  Calls Tryd.prog 79 #[.int .i64 a0, .agg #[.string a1_0, .int .u64 a1_1, .int .u64 a1_2]] w fun e w' => e = .returned (.bool r) ∧ Below w.heap.size w w' := by
 have hu46 := Tryd.underlying46
 have HB := aM' (Below.refl w.heap.size w)
 have H : (if a0 ≥ 1 then (if a0 ≤ 32 then (some ((a1_0.size : Int) == a0)) else (some false)) else (some false)) = some r := h
 clear h
 by_cases c3 : a0 ≥ 1
 ·
  rw [if_pos c3] at H
  have c3b0 : decide (1 ≤ a0) = true := decide_eq_true c3
  clear c3
  by_cases c4 : a0 ≤ 32
  ·
   rw [if_pos c4] at H
   have c4b0 : decide (a0 ≤ 32) = true := decide_eq_true c4
   clear c4
   obtain rfl := Option.some.inj H
   go_enter Tryd.func79, Tryd.ntmps79
   go_wp2_with (first | ((with_reducible refine gate_dst (N := 3) rfl ?_); (try (refine gate_guard (by rfl) ?_; dsimp only)); refine box_event ?hg (N := 3) ?hd (cs := #[.string a1_0, .int .u64 a1_1, .int .u64 a1_2]) (t := 46) ?hr ?_; (case hd => rfl); (case hg => rfl); (case hr => first | (go_simp; done) | (go_simp; rfl)); intro gb104 hg w5 hbox hb; have n0_ := aM' (below_step (by repeat (first | (with_reducible first | exact HB.out | apply below_alloc | apply pw_below_drewN | apply below_drew1) | exact HB.out)) hb); have n1_ := aM' (hbox); have n2_ := aM' ((by rw [hg]; exact (below_size (by repeat (first | (with_reducible first | exact HB.out | apply below_alloc | apply pw_below_drewN | apply below_drew1) | exact HB.out))) : w.heap.size ≤ gb104)); have n3_ := aM' ((by rw [hg]; exact (below_size (by repeat (first | (with_reducible first | exact HB.out | apply below_alloc | apply pw_below_drewN | apply below_drew1) | exact HB.out))) : w.heap.size ≤ gb104)); clear HB; have HB := n0_; have BK104 := n1_; have GW104 := n2_; have GE104 := n3_; clear n0_ n1_ n2_ n3_; clear hb hbox hg; have hcz6_0 : w5.cell? ⟨gb104, 0, none⟩ = some (.string a1_0) := (blk_cell BK104.out 0).trans rfl; have hcz6_1 : w5.cell? ⟨gb104, 1, none⟩ = some (.int .u64 a1_1) := (blk_cell BK104.out 1).trans rfl; have hcz6_2 : w5.cell? ⟨gb104, 2, none⟩ = some (.int .u64 a1_2) := (blk_cell BK104.out 2).trans rfl; have hfz6_0 := blk_frozen BK104.out 0; have hfz6_1 := blk_frozen BK104.out 1; have hfz6_2 := blk_frozen BK104.out 2))
   go_ret
   exact ⟨by first | rfl | (simp [errW_none, errW_some] <;> rfl) | (simp [*, errW_none, errW_some] <;> rfl), by repeat (first | (with_reducible first | exact HB.out | apply below_alloc | apply pw_below_drewN | apply below_drew1 | refine below_set ?_ GE104.out) | exact HB.out)⟩
  ·
   rw [if_neg c4] at H
   have c4b0 : decide (a0 ≤ 32) = false := decide_eq_false c4
   clear c4
   obtain rfl := Option.some.inj H
   go_enter Tryd.func79, Tryd.ntmps79
   go_wp2_with (first | ((with_reducible refine gate_dst (N := 3) rfl ?_); (try (refine gate_guard (by rfl) ?_; dsimp only)); refine box_event ?hg (N := 3) ?hd (cs := #[.string a1_0, .int .u64 a1_1, .int .u64 a1_2]) (t := 46) ?hr ?_; (case hd => rfl); (case hg => rfl); (case hr => first | (go_simp; done) | (go_simp; rfl)); intro gb104 hg w7 hbox hb; have n0_ := aM' (below_step (by repeat (first | (with_reducible first | exact HB.out | apply below_alloc | apply pw_below_drewN | apply below_drew1) | exact HB.out)) hb); have n1_ := aM' (hbox); have n2_ := aM' ((by rw [hg]; exact (below_size (by repeat (first | (with_reducible first | exact HB.out | apply below_alloc | apply pw_below_drewN | apply below_drew1) | exact HB.out))) : w.heap.size ≤ gb104)); have n3_ := aM' ((by rw [hg]; exact (below_size (by repeat (first | (with_reducible first | exact HB.out | apply below_alloc | apply pw_below_drewN | apply below_drew1) | exact HB.out))) : w.heap.size ≤ gb104)); clear HB; have HB := n0_; have BK104 := n1_; have GW104 := n2_; have GE104 := n3_; clear n0_ n1_ n2_ n3_; clear hb hbox hg))
   go_ret
   exact ⟨by first | rfl | (simp [errW_none, errW_some] <;> rfl) | (simp [*, errW_none, errW_some] <;> rfl), by repeat (first | (with_reducible first | exact HB.out | apply below_alloc | apply pw_below_drewN | apply below_drew1 | refine below_set ?_ GE104.out) | exact HB.out)⟩
 ·
  rw [if_neg c3] at H
  have c3b0 : decide (1 ≤ a0) = false := decide_eq_false c3
  clear c3
  obtain rfl := Option.some.inj H
  go_enter Tryd.func79, Tryd.ntmps79
  go_wp2_with (first | ((with_reducible refine gate_dst (N := 3) rfl ?_); (try (refine gate_guard (by rfl) ?_; dsimp only)); refine box_event ?hg (N := 3) ?hd (cs := #[.string a1_0, .int .u64 a1_1, .int .u64 a1_2]) (t := 46) ?hr ?_; (case hd => rfl); (case hg => rfl); (case hr => first | (go_simp; done) | (go_simp; rfl)); intro gb104 hg w8 hbox hb; have n0_ := aM' (below_step (by repeat (first | (with_reducible first | exact HB.out | apply below_alloc | apply pw_below_drewN | apply below_drew1) | exact HB.out)) hb); have n1_ := aM' (hbox); have n2_ := aM' ((by rw [hg]; exact (below_size (by repeat (first | (with_reducible first | exact HB.out | apply below_alloc | apply pw_below_drewN | apply below_drew1) | exact HB.out))) : w.heap.size ≤ gb104)); have n3_ := aM' ((by rw [hg]; exact (below_size (by repeat (first | (with_reducible first | exact HB.out | apply below_alloc | apply pw_below_drewN | apply below_drew1) | exact HB.out))) : w.heap.size ≤ gb104)); clear HB; have HB := n0_; have BK104 := n1_; have GW104 := n2_; have GE104 := n3_; clear n0_ n1_ n2_ n3_; clear hb hbox hg))
  go_ret
  exact ⟨by first | rfl | (simp [errW_none, errW_some] <;> rfl) | (simp [*, errW_none, errW_some] <;> rfl), by repeat (first | (with_reducible first | exact HB.out | apply below_alloc | apply pw_below_drewN | apply below_drew1 | refine below_set ?_ GE104.out) | exact HB.out)⟩
def paymasterref14_Same.l0 : Nat → List (SNode) → List (SNode) → Int → Option (Bool)
 | 0, _, _, _ => none
 | k + 1, x0, x1, x5 => if x5 < (x0.length : Int) then (if 0 ≤ x5 then (if x5 < (x1.length : Int) then (if (!((((rd_TNode x0 x5).f0).toList) == (((rd_TNode x1 x5).f0).toList)) || ((!(((rd_TNode x0 x5).f1.f0) == ((rd_TNode x1 x5).f1.f0)) || (!(((rd_TNode x0 x5).f1.f1) == ((rd_TNode x1 x5).f1.f1)))))) = true then (some false) else (paymasterref14_Same.l0 k x0 x1 (wrap64 (x5 + 1)))) else (none)) else (none)) else (some true)
def paymasterref14_Same.f (k : Nat) (l0 : List (SNode)) (l1 : List (SNode)) : Option (Bool) := if (l0.length : Int) = (l1.length : Int) then (paymasterref14_Same.l0 k l0 l1 0) else (some false)
set_option maxHeartbeats 8000000 in
set_option maxRecDepth 100000 in
theorem paymasterref14_Same.calls (k : Nat) (A0 : Option Addr) (c0 : Nat) (l0 : List (SNode)) (A1 : Option Addr) (c1 : Nat) (l1 : List (SNode)) (r : Bool) (w : World) (hr0 : Kd.C kNode w A0 l0.length l0) (hc0 : l0.length ≤ c0) (hr1 : Kd.C kNode w A1 l1.length l1) (hc1 : l1.length ≤ c1) (h : paymasterref14_Same.f k l0 l1 = some r) :
  Calls Tryd.prog 38 #[.slice A0 l0.length c0, .slice A1 l1.length c1] w fun e w' => e = .returned (.bool r) ∧ Drawn0 w w' := by
 have hu46 := Tryd.underlying46
 have HR0 := aM' hr0
 have HC0 := aM' hc0
 clear hr0 hc0
 have HR1 := aM' hr1
 have HC1 := aM' hc1
 clear hr1 hc1
 have H : (if (l0.length : Int) = (l1.length : Int) then (paymasterref14_Same.l0 k l0 l1 0) else (some false)) = some r := h
 clear h
 by_cases c3 : (l0.length : Int) = (l1.length : Int)
 ·
  rw [if_pos c3] at H
  have c3b0 : ((l0.length : Int) == (l1.length : Int)) = true := beq_iff_eq.mpr c3
  have c3b1 : ((l0.length : Int) != (l1.length : Int)) = false := bne_eq_false_iff_eq.mpr c3
  have c3b2 : (l0.length == l1.length) = true := by first | simpa using c3 | (simp at c3 ⊢; omega)
  clear c3
  have H' := aM' H
  clear H
  go_enter Tryd.func38, Tryd.ntmps38
  go_wp2
  repeat (go_quiet (fail); try go_wp2)
  go_loopg [5] k (fun kq v5 w' => ∃ (x5_1 : Int), v5 = .int .i64 x5_1 ∧ Aside0 (paymasterref14_Same.l0 kq l0 l1 x5_1 = some r) ∧ Aside0 (kq ≤ k) ∧ Drawn0 w w')
  case atStart => exact ⟨(0), (by first | rfl | (simp; done) | (simp [*]; done)), H', ⟨Nat.le_refl _⟩, by repeat (first | exact Drawn0.refl _ | apply Drawn0.step)⟩
  case round =>
   clear H'
   try clear c1
   try clear p2
   try clear c3
   try clear c3b0
   try clear c3b1
   try clear c3b2
   obtain ⟨x5_1, rfl, HA, HK1, ⟨m1, rfl⟩⟩ := hrel
   cases gk with
   | zero => exact absurd HA.out (by simp [paymasterref14_Same.l0])
   | succ k1 =>
    have H := HA.out
    clear HA
    simp only [paymasterref14_Same.l0] at H
    by_cases c4 : x5_1 < (l0.length : Int)
    ·
     rw [if_pos c4] at H
     have c4b0 : decide (x5_1 < (l0.length : Int)) = true := decide_eq_true c4
     clear c4
     by_cases c5 : 0 ≤ x5_1
     ·
      rw [if_pos c5] at H
      have c5b0 : decide (0 ≤ x5_1) = true := decide_eq_true c5
      clear c5
      by_cases c6 : x5_1 < (l1.length : Int)
      ·
       rw [if_pos c6] at H
       have c6b0 : decide (x5_1 < (l1.length : Int)) = true := decide_eq_true c6
       clear c6
       by_cases c7 : (!((((rd_TNode l0 x5_1).f0).toList) == (((rd_TNode l1 x5_1).f0).toList)) || ((!(((rd_TNode l0 x5_1).f1.f0) == ((rd_TNode l1 x5_1).f1.f0)) || (!(((rd_TNode l0 x5_1).f1.f1) == ((rd_TNode l1 x5_1).f1.f1)))))) = true
       ·
        rw [if_pos c7] at H
        have c7b0 : (!((((rd_TNode l0 x5_1).f0).toList) == (((rd_TNode l1 x5_1).f0).toList)) || ((!(((rd_TNode l0 x5_1).f1.f0) == ((rd_TNode l1 x5_1).f1.f0)) || (!(((rd_TNode l0 x5_1).f1.f1) == ((rd_TNode l1 x5_1).f1.f1)))))) = true := c7
        clear c7
        obtain rfl := Option.some.inj H
        have p105 : 0 ≤ (x5_1 : Int) := of_decide_eq_true (by first | (with_reducible assumption) | assumption)
        have q105 : x5_1 < (l0.length : Int) := of_decide_eq_true (by first | (with_reducible assumption) | assumption)
        obtain ⟨ad105, e105, hx105_0, hx105_1, hx105_2⟩ := at_TNode HR0.out x5_1 p105 q105
        cases e105
        replace p105 := eq_true p105
        replace q105 := eq_true q105
        have p106 : 0 ≤ (x5_1 : Int) := of_decide_eq_true (by first | (with_reducible assumption) | assumption)
        have q106 : x5_1 < (l1.length : Int) := of_decide_eq_true (by first | (with_reducible assumption) | assumption)
        obtain ⟨ad106, e106, hx106_0, hx106_1, hx106_2⟩ := at_TNode HR1.out x5_1 p106 q106
        cases e106
        replace p106 := eq_true p106
        replace q106 := eq_true q106
        go_wp2
        repeat (go_quiet (fail); try go_wp2)
        go_ret
        exact ⟨by first | rfl | (simp; done) | (simp [*]; done), by repeat (first | exact Drawn0.refl _ | apply Drawn0.step)⟩
       ·
        rw [if_neg c7] at H
        have c7b0 : (!((((rd_TNode l0 x5_1).f0).toList) == (((rd_TNode l1 x5_1).f0).toList)) || ((!(((rd_TNode l0 x5_1).f1.f0) == ((rd_TNode l1 x5_1).f1.f0)) || (!(((rd_TNode l0 x5_1).f1.f1) == ((rd_TNode l1 x5_1).f1.f1)))))) = false := by simpa using c7
        clear c7
        have H' := aM' H
        clear H
        have p105 : 0 ≤ (x5_1 : Int) := of_decide_eq_true (by first | (with_reducible assumption) | assumption)
        have q105 : x5_1 < (l0.length : Int) := of_decide_eq_true (by first | (with_reducible assumption) | assumption)
        obtain ⟨ad105, e105, hx105_0, hx105_1, hx105_2⟩ := at_TNode HR0.out x5_1 p105 q105
        cases e105
        replace p105 := eq_true p105
        replace q105 := eq_true q105
        have p106 : 0 ≤ (x5_1 : Int) := of_decide_eq_true (by first | (with_reducible assumption) | assumption)
        have q106 : x5_1 < (l1.length : Int) := of_decide_eq_true (by first | (with_reducible assumption) | assumption)
        obtain ⟨ad106, e106, hx106_0, hx106_1, hx106_2⟩ := at_TNode HR1.out x5_1 p106 q106
        cases e106
        replace p106 := eq_true p106
        replace q106 := eq_true q106
        go_wp2
        repeat (go_quiet (fail); try go_wp2)
        go_roundg k1
        case measure => have := HK1.out; omega
        case rel => exact ⟨(wrap64 (x5_1 + 1)), (by first | rfl | (simp; done) | (simp [*]; done)), H', ⟨by have := HK1.out; omega⟩, by repeat (first | exact Drawn0.refl _ | apply Drawn0.step)⟩
      ·
       rw [if_neg c6] at H
       exact absurd H (by simp)
     ·
      rw [if_neg c5] at H
      exact absurd H (by simp)
    ·
     rw [if_neg c4] at H
     have c4b0 : decide (x5_1 < (l0.length : Int)) = false := decide_eq_false c4
     clear c4
     obtain rfl := Option.some.inj H
     go_wp2
     repeat (go_quiet (fail); try go_wp2)
     go_ret
     exact ⟨by first | rfl | (simp; done) | (simp [*]; done), by repeat (first | exact Drawn0.refl _ | apply Drawn0.step)⟩
 ·
  rw [if_neg c3] at H
  have c3b0 : ((l0.length : Int) == (l1.length : Int)) = false := beq_eq_false_iff_ne.mpr c3
  have c3b1 : ((l0.length : Int) != (l1.length : Int)) = true := bne_iff_ne.mpr c3
  have c3b2 : (l0.length == l1.length) = false := by first | simpa using c3 | (simp at c3 ⊢; omega)
  obtain rfl := Option.some.inj H
  go_enter Tryd.func38, Tryd.ntmps38
  go_wp2
  repeat (go_quiet (fail); try go_wp2)
  go_ret
  exact ⟨by first | rfl | (simp; done) | (simp [*]; done), by repeat (first | exact Drawn0.refl _ | apply Drawn0.step)⟩
def tag_MayWidth.f (a0 : Int) : Option (Bool) := if a0 ≥ 1 then (some (decide (a0 ≤ 32))) else (some false)
set_option maxHeartbeats 8000000 in
set_option maxRecDepth 100000 in
theorem tag_MayWidth.calls (a0 : Int) (r : Bool) (w : World) (h : tag_MayWidth.f a0 = some r) :
  Calls Tryd.prog 71 #[.int .i64 a0] w fun e w' => e = .returned (.bool r) ∧ Drawn0 w w' := by
 have H : (if a0 ≥ 1 then (some (decide (a0 ≤ 32))) else (some false)) = some r := h
 clear h
 by_cases c2 : a0 ≥ 1
 ·
  rw [if_pos c2] at H
  have c2b0 : decide (1 ≤ a0) = true := decide_eq_true c2
  clear c2
  obtain rfl := Option.some.inj H
  go_enter Tryd.func71, Tryd.ntmps71
  go_wp2
  go_ret
  exact ⟨by first | rfl | (simp; done) | (simp [*]; done), by repeat (first | exact Drawn0.refl _ | apply Drawn0.step)⟩
 ·
  rw [if_neg c2] at H
  have c2b0 : decide (1 ≤ a0) = false := decide_eq_false c2
  clear c2
  obtain rfl := Option.some.inj H
  go_enter Tryd.func71, Tryd.ntmps71
  go_wp2
  go_ret
  exact ⟨by first | rfl | (simp; done) | (simp [*]; done), by repeat (first | exact Drawn0.refl _ | apply Drawn0.step)⟩
def paymasterref07_MayWidth.f (a0 : Int) : Option (Bool) := if a0 ≥ 1 then (some (decide (a0 ≤ 32))) else (some false)
set_option maxHeartbeats 8000000 in
set_option maxRecDepth 100000 in
theorem paymasterref07_MayWidth.calls (a0 : Int) (r : Bool) (w : World) (h : paymasterref07_MayWidth.f a0 = some r) :
  Calls Tryd.prog 134 #[.int .i64 a0] w fun e w' => e = .returned (.bool r) ∧ Drawn0 w w' := by
 have H : (if a0 ≥ 1 then (some (decide (a0 ≤ 32))) else (some false)) = some r := h
 clear h
 by_cases c2 : a0 ≥ 1
 ·
  rw [if_pos c2] at H
  have c2b0 : decide (1 ≤ a0) = true := decide_eq_true c2
  clear c2
  obtain rfl := Option.some.inj H
  go_enter Tryd.func134, Tryd.ntmps134
  go_wp2
  go_ret
  exact ⟨by first | rfl | (simp; done) | (simp [*]; done), by repeat (first | exact Drawn0.refl _ | apply Drawn0.step)⟩
 ·
  rw [if_neg c2] at H
  have c2b0 : decide (1 ≤ a0) = false := decide_eq_false c2
  clear c2
  obtain rfl := Option.some.inj H
  go_enter Tryd.func134, Tryd.ntmps134
  go_wp2
  go_ret
  exact ⟨by first | rfl | (simp; done) | (simp [*]; done), by repeat (first | exact Drawn0.refl _ | apply Drawn0.step)⟩
mutual
def paymasterref01_digits.l0 : Nat → List Int → Int → Int → Int → Option (List Int)
 | 0, _, _, _, _ => none
 | k + 1, x3, x4, x113000, x113001 => if x4 < 4 then (if x3.length < 17592186044416 then (paymasterref01_digits.l0 k (x3 ++ [Int.tmod x113001 65536]) (wrap64 (x4 + 1)) x113000 (IntKind.u64.wrap (Int.tdiv x113001 65536))) else (none)) else (paymasterref01_digits.l1 k x3 0 x113000 x113001)
def paymasterref01_digits.l1 : Nat → List Int → Int → Int → Int → Option (List Int)
 | 0, _, _, _, _ => none
 | k + 1, x3, x5, x113000, x113001 => if x5 < 4 then (if x3.length < 17592186044416 then (paymasterref01_digits.l1 k (x3 ++ [Int.tmod x113000 65536]) (wrap64 (x5 + 1)) (IntKind.u64.wrap (Int.tdiv x113000 65536)) x113001) else (none)) else (some x3)
end
def paymasterref01_digits.f (k : Nat) (a0_0 : Int) (a0_1 : Int) : Option (List Int) := paymasterref01_digits.l0 k ([] : List Int) 0 a0_0 a0_1
set_option maxHeartbeats 8000000 in
set_option maxRecDepth 100000 in
theorem paymasterref01_digits.calls (k : Nat) (a0_0 : Int) (a0_1 : Int) (r : List Int) (w : World) (h : paymasterref01_digits.f k a0_0 a0_1 = some r) :
  Calls Tryd.prog 154 #[.agg #[.int .u64 a0_0, .int .u64 a0_1]] w fun e w' => ∃ v0_ : Value, e = .returned (v0_) ∧ Kd.R (Kd.int .u64) 23 w' w.heap.size (fun _ => True) v0_ r ∧ Below w.heap.size w w' := by
 have hu34 := Tryd.underlying34
 have HB := aM' (Below.refl w.heap.size w)
 have H : (paymasterref01_digits.l0 k ([] : List Int) 0 a0_0 a0_1) = some r := h
 clear h
 have H' := aM' H
 clear H
 go_enter Tryd.func154, Tryd.ntmps154
 go_wp2_with (first | ((with_reducible refine gate_dst (N := 1) rfl ?_); refine box_event ?hg (N := 1) ?hd (cs := #[.int .u64 a0_0, .int .u64 a0_1]) (t := 34) ?hr ?_; (case hd => rfl); (case hg => rfl); (case hr => first | (go_simp; done) | (go_simp; rfl)); intro gb112 hg w2 hbox hb; have n0_ := aM' (below_step (by repeat (first | (with_reducible first | exact HB.out | apply below_alloc | apply pw_below_drewN | apply below_drew1) | exact HB.out)) hb); have n1_ := aM' (hbox); have n2_ := aM' ((by rw [hg]; exact (below_size (by repeat (first | (with_reducible first | exact HB.out | apply below_alloc | apply pw_below_drewN | apply below_drew1) | exact HB.out))) : w.heap.size ≤ gb112)); have n3_ := aM' ((by rw [hg]; exact (below_size (by repeat (first | (with_reducible first | exact HB.out | apply below_alloc | apply pw_below_drewN | apply below_drew1) | exact HB.out))) : w.heap.size ≤ gb112)); clear HB; have HB := n0_; have BK112 := n1_; have GW112 := n2_; have GE112 := n3_; clear n0_ n1_ n2_ n3_; clear hb hbox hg))
 go_loopg [3, 4] k (fun kq v3 v4 w' => ∃ (x3_1 : List Int) (x4_1 : Int) (x113001_1 : Int), v4 = .int .i64 x4_1 ∧ Aside0 (paymasterref01_digits.l0 kq x3_1 x4_1 a0_0 x113001_1 = some r) ∧ Aside0 (kq ≤ k) ∧ Aside0 (Kd.R (Kd.int .u64) 23 w' w.heap.size (fun _ => True) v3 x3_1) ∧ Aside0 (w'.heap[gb112]? = some (.cells #[.int .u64 a0_0, .int .u64 x113001_1] 34 (0, 0))) ∧ Aside0 (Below w.heap.size w w'))
 case atStart => exact ⟨(([] : List Int)), (0), (a0_1), (by first | rfl | (simp; done) | (simp [*]; done)), H', ⟨Nat.le_refl _⟩, ⟨by first | exact Kd.R_nil _ _ _ _ _ | exact Kd.N_nil _ _ _ _ _ | exact Kd.V_nil _ _ _ _ _ | exact Kd.Q_nil _ _ _ _ _ | exact Kd.S_nil _ _ _ _ _⟩, ⟨by (with_reducible repeat (first | refine blk_drewN ?_ _ | refine blk_drew ?_ | refine blk_alloc ?_ _)); exact BK112.out⟩, ⟨by repeat (first | (with_reducible first | exact HB.out | apply below_alloc | apply pw_below_drewN | apply below_drew1 | refine below_set ?_ GE112.out) | exact HB.out)⟩⟩
 case round =>
  clear H'
  try clear c1
  try clear p2
  obtain ⟨x3_1, x4_1, x113001_1, rfl, HA, HK1, HO_3, BK112, HB⟩ := hrel
  cases gk with
  | zero => exact absurd HA.out (by simp [paymasterref01_digits.l0])
  | succ k1 =>
   have H := HA.out
   clear HA
   simp only [paymasterref01_digits.l0] at H
   by_cases c3 : x4_1 < 4
   ·
    rw [if_pos c3] at H
    have c3b0 : decide (x4_1 < 4) = true := decide_eq_true c3
    clear c3
    by_cases c4 : x3_1.length < 17592186044416
    ·
     rw [if_pos c4] at H
     have LMc4 := aM' c4
     clear c4
     obtain ⟨y113, hy113⟩ : ∃ y_ : List Int, y_ = (x3_1 ++ [Int.tmod x113001_1 65536]) := ⟨_, rfl⟩
     replace H : (paymasterref01_digits.l0 k1 y113 (wrap64 (x4_1 + 1)) a0_0 (IntKind.u64.wrap (Int.tdiv x113001_1 65536))) = some r := by first | (rw [hy113]; with_reducible exact H) | (have H2_ := (Option.bind_some _ _).symm.trans H; rw [hy113]; with_reducible exact H2_) | (have H2_ := (Option.bind_some _ _).symm.trans H; with_reducible exact H2_) | with_reducible exact H | (rw [hy113]; exact H) | exact H
     have Ny113 := aM' hy113
     clear hy113
     have H' := aM' H
     clear H
     have hcz5_0 : wr.cell? ⟨gb112, 0, none⟩ = some (.int .u64 a0_0) := (blk_cell BK112.out 0).trans rfl
     have hcz5_1 : wr.cell? ⟨gb112, 1, none⟩ = some (.int .u64 x113001_1) := (blk_cell BK112.out 1).trans rfl
     have hfz5_0 := blk_frozen BK112.out 0
     have hfz5_1 := blk_frozen BK112.out 1
     go_wp2_with (first | ((with_reducible refine gate_builtin (b := .append) (xs := #[.tmp 10, .tmp 14]) rfl ?_); at_builtin; refine Kd.R_append (Kd.int .u64) (w0 := w) w.heap.size rfl (.tmp 10) (.tmp 14) 220 23 (.int .u64 0) 8 rfl Tryd.underlying220 info23 rfl (by decide) (by omega) u3 x3_1 (Int.tmod x113001_1 65536) [.int .u64 (Int.tmod x113001_1 65536)] (fun _ => True) (fun _ => False) rfl rfl ?aP (fun _ hk => hk.elim) ?aF ?aO ?aB ?aS ?aL ?_; (case aP => exact rfl); (case aB => exact (by repeat (first | (with_reducible first | exact HB.out | apply below_alloc | apply pw_below_drewN | apply below_drew1 | refine below_set ?_ GE112.out) | exact HB.out))); (case aF => exact (fun _ _ => trivial)); (case aO => exact (by (with_reducible repeat (first | apply Kd.R_alloc | apply Kd.R_drewN | apply Kd.R_drew)); exact HO_3.out)); (case aS => exact (below_size (by repeat (first | (with_reducible first | exact HB.out | apply below_alloc | apply pw_below_drewN | apply below_drew1 | refine below_set ?_ GE112.out) | exact HB.out)))); (case aL => have := LMc4.out; omega); intro v114 w6 ho hb hg hat; rw [← Ny113.out] at ho; have n0_ := aM' (blk_grown (g := gb112) (o := .cells #[.int .u64 a0_0, .int .u64 x113001_1] 34 (0, 0)) (by (with_reducible repeat (first | refine blk_drewN ?_ _ | refine blk_drew ?_ | refine blk_alloc ?_ _)); exact BK112.out) hg (Kd.R_ne HO_3.out BK112.out (by decide))); have n1_ := aM' (hb); have n2_ := aM' (ho); clear BK112; clear HB; clear HO_3; have BK112 := n0_; have HB := n1_; have HO115 := n2_; clear n0_ n1_ n2_; clear ho hb hg hat; have hcz7_0 : w6.cell? ⟨gb112, 0, none⟩ = some (.int .u64 a0_0) := (blk_cell BK112.out 0).trans rfl; have hcz7_1 : w6.cell? ⟨gb112, 1, none⟩ = some (.int .u64 x113001_1) := (blk_cell BK112.out 1).trans rfl; have hfz7_0 := blk_frozen BK112.out 0; have hfz7_1 := blk_frozen BK112.out 1))
     go_roundg k1
     case measure => have := HK1.out; omega
     case rel => exact ⟨(y113), (wrap64 (x4_1 + 1)), (IntKind.u64.wrap (Int.tdiv x113001_1 65536)), (by first | rfl | (simp; done) | (simp [*]; done)), H', ⟨by have := HK1.out; omega⟩, ⟨by (with_reducible repeat (first | apply Kd.R_alloc | apply Kd.R_drewN | apply Kd.R_drew)); exact Kd.R_mono (Kd.R_far (p := ⟨gb112, 1, none⟩) (Kd.R_types HO115.out BK112.out (by decide)) (fun _ hk => hk.2) (.int .u64 (IntKind.u64.wrap (Int.tdiv x113001_1 65536)))) (fun _ hk => trivial)⟩, ⟨by (with_reducible repeat (first | refine blk_drewN ?_ _ | refine blk_drew ?_ | refine blk_alloc ?_ _)); refine blk_put (cs := #[.int .u64 a0_0, .int .u64 x113001_1]) ?_ 1 _ rfl; (with_reducible repeat (first | refine blk_drewN ?_ _ | refine blk_drew ?_ | refine blk_alloc ?_ _)); exact BK112.out⟩, ⟨by repeat (first | (with_reducible first | exact HB.out | apply below_alloc | apply pw_below_drewN | apply below_drew1 | refine below_set ?_ GE112.out) | exact HB.out)⟩⟩
    ·
     rw [if_neg c4] at H
     exact absurd H (by simp)
   ·
    rw [if_neg c3] at H
    have c3b0 : decide (x4_1 < 4) = false := decide_eq_false c3
    clear c3
    have H' := aM' H
    clear H
    go_wp2
    go_loopg [3, 5] k1 (fun kq v3 v5 w' => ∃ (x3_2 : List Int) (x5_2 : Int) (x113000_2 : Int), v5 = .int .i64 x5_2 ∧ Aside0 (paymasterref01_digits.l1 kq x3_2 x5_2 x113000_2 x113001_1 = some r) ∧ Aside0 (kq ≤ k1) ∧ Aside0 (Kd.R (Kd.int .u64) 23 w' w.heap.size (fun _ => True) v3 x3_2) ∧ Aside0 (w'.heap[gb112]? = some (.cells #[.int .u64 x113000_2, .int .u64 x113001_1] 34 (0, 0))) ∧ Aside0 (Below w.heap.size w w'))
    case atStart => exact ⟨(x3_1), (0), (a0_0), (by first | rfl | (simp; done) | (simp [*]; done)), H', ⟨Nat.le_refl _⟩, ⟨by (with_reducible repeat (first | apply Kd.R_alloc | apply Kd.R_drewN | apply Kd.R_drew)); exact HO_3.out⟩, ⟨by (with_reducible repeat (first | refine blk_drewN ?_ _ | refine blk_drew ?_ | refine blk_alloc ?_ _)); exact BK112.out⟩, ⟨by repeat (first | (with_reducible first | exact HB.out | apply below_alloc | apply pw_below_drewN | apply below_drew1 | refine below_set ?_ GE112.out) | exact HB.out)⟩⟩
    case round =>
     clear H'
     try clear c1
     try clear p2
     try clear c3
     try clear c3b0
     try clear c4
     try clear p6
     try clear hcz5_0
     try clear hcz5_1
     try clear hcz7_0
     try clear hcz7_1
     try clear hfz5_0
     try clear hfz5_1
     try clear hfz7_0
     try clear hfz7_1
     try clear p2
     obtain ⟨x3_2, x5_2, x113000_2, rfl, HA, HK2, HO_3, BK112, HB⟩ := hrel
     cases gk with
     | zero => exact absurd HA.out (by simp [paymasterref01_digits.l1])
     | succ k2 =>
      have H := HA.out
      clear HA
      simp only [paymasterref01_digits.l1] at H
      by_cases c8 : x5_2 < 4
      ·
       rw [if_pos c8] at H
       have c8b0 : decide (x5_2 < 4) = true := decide_eq_true c8
       clear c8
       by_cases c9 : x3_2.length < 17592186044416
       ·
        rw [if_pos c9] at H
        have LMc9 := aM' c9
        clear c9
        obtain ⟨y116, hy116⟩ : ∃ y_ : List Int, y_ = (x3_2 ++ [Int.tmod x113000_2 65536]) := ⟨_, rfl⟩
        replace H : (paymasterref01_digits.l1 k2 y116 (wrap64 (x5_2 + 1)) (IntKind.u64.wrap (Int.tdiv x113000_2 65536)) x113001_1) = some r := by first | (rw [hy116]; with_reducible exact H) | (have H2_ := (Option.bind_some _ _).symm.trans H; rw [hy116]; with_reducible exact H2_) | (have H2_ := (Option.bind_some _ _).symm.trans H; with_reducible exact H2_) | with_reducible exact H | (rw [hy116]; exact H) | exact H
        have Ny116 := aM' hy116
        clear hy116
        have H' := aM' H
        clear H
        have hcz10_0 : wr.cell? ⟨gb112, 0, none⟩ = some (.int .u64 x113000_2) := (blk_cell BK112.out 0).trans rfl
        have hcz10_1 : wr.cell? ⟨gb112, 1, none⟩ = some (.int .u64 x113001_1) := (blk_cell BK112.out 1).trans rfl
        have hfz10_0 := blk_frozen BK112.out 0
        have hfz10_1 := blk_frozen BK112.out 1
        go_wp2_with (first | ((with_reducible refine gate_builtin (b := .append) (xs := #[.tmp 24, .tmp 28]) rfl ?_); at_builtin; refine Kd.R_append (Kd.int .u64) (w0 := w) w.heap.size rfl (.tmp 24) (.tmp 28) 220 23 (.int .u64 0) 8 rfl Tryd.underlying220 info23 rfl (by decide) (by omega) u3 x3_2 (Int.tmod x113000_2 65536) [.int .u64 (Int.tmod x113000_2 65536)] (fun _ => True) (fun _ => False) rfl rfl ?aP (fun _ hk => hk.elim) ?aF ?aO ?aB ?aS ?aL ?_; (case aP => exact rfl); (case aB => exact (by repeat (first | (with_reducible first | exact HB.out | apply below_alloc | apply pw_below_drewN | apply below_drew1 | refine below_set ?_ GE112.out) | exact HB.out))); (case aF => exact (fun _ _ => trivial)); (case aO => exact (by (with_reducible repeat (first | apply Kd.R_alloc | apply Kd.R_drewN | apply Kd.R_drew)); exact HO_3.out)); (case aS => exact (below_size (by repeat (first | (with_reducible first | exact HB.out | apply below_alloc | apply pw_below_drewN | apply below_drew1 | refine below_set ?_ GE112.out) | exact HB.out)))); (case aL => have := LMc9.out; omega); intro v117 w11 ho hb hg hat; rw [← Ny116.out] at ho; have n0_ := aM' (blk_grown (g := gb112) (o := .cells #[.int .u64 x113000_2, .int .u64 x113001_1] 34 (0, 0)) (by (with_reducible repeat (first | refine blk_drewN ?_ _ | refine blk_drew ?_ | refine blk_alloc ?_ _)); exact BK112.out) hg (Kd.R_ne HO_3.out BK112.out (by decide))); have n1_ := aM' (hb); have n2_ := aM' (ho); clear BK112; clear HB; clear HO_3; have BK112 := n0_; have HB := n1_; have HO118 := n2_; clear n0_ n1_ n2_; clear ho hb hg hat; have hcz12_0 : w11.cell? ⟨gb112, 0, none⟩ = some (.int .u64 x113000_2) := (blk_cell BK112.out 0).trans rfl; have hcz12_1 : w11.cell? ⟨gb112, 1, none⟩ = some (.int .u64 x113001_1) := (blk_cell BK112.out 1).trans rfl; have hfz12_0 := blk_frozen BK112.out 0; have hfz12_1 := blk_frozen BK112.out 1))
        go_roundg k2
        case measure => have := HK1.out; have := HK2.out; omega
        case rel => exact ⟨(y116), (wrap64 (x5_2 + 1)), (IntKind.u64.wrap (Int.tdiv x113000_2 65536)), (by first | rfl | (simp; done) | (simp [*]; done)), H', ⟨by have := HK1.out; have := HK2.out; omega⟩, ⟨by (with_reducible repeat (first | apply Kd.R_alloc | apply Kd.R_drewN | apply Kd.R_drew)); exact Kd.R_mono (Kd.R_far (p := ⟨gb112, 0, none⟩) (Kd.R_types HO118.out BK112.out (by decide)) (fun _ hk => hk.2) (.int .u64 (IntKind.u64.wrap (Int.tdiv x113000_2 65536)))) (fun _ hk => trivial)⟩, ⟨by (with_reducible repeat (first | refine blk_drewN ?_ _ | refine blk_drew ?_ | refine blk_alloc ?_ _)); refine blk_put (cs := #[.int .u64 x113000_2, .int .u64 x113001_1]) ?_ 0 _ rfl; (with_reducible repeat (first | refine blk_drewN ?_ _ | refine blk_drew ?_ | refine blk_alloc ?_ _)); exact BK112.out⟩, ⟨by repeat (first | (with_reducible first | exact HB.out | apply below_alloc | apply pw_below_drewN | apply below_drew1 | refine below_set ?_ GE112.out) | exact HB.out)⟩⟩
       ·
        rw [if_neg c9] at H
        exact absurd H (by simp)
      ·
       rw [if_neg c8] at H
       have c8b0 : decide (x5_2 < 4) = false := decide_eq_false c8
       clear c8
       obtain rfl := Option.some.inj H
       go_wp2
       go_ret
       exact ⟨_, by first | rfl | (simp [errW_none, errW_some] <;> rfl) | (simp [*, errW_none, errW_some] <;> rfl), by (with_reducible repeat (first | apply Kd.R_alloc | apply Kd.R_drewN | apply Kd.R_drew)); exact HO_3.out, by repeat (first | (with_reducible first | exact HB.out | apply below_alloc | apply pw_below_drewN | apply below_drew1 | refine below_set ?_ GE112.out) | exact HB.out)⟩
end Go.Proofs.YtfcodmdckcihmaaDoor.P
namespace Go.Proofs.YtfcodmdckcihmaaDoor.P
open Go.RowKit Go.Proofs.YtfcodmdckcihmaaDoorW.PrintWords Go.Proofs.YtfcodmdckcihmaaDoorW.PrintLast Go.Proofs.YtfcodmdckcihmaaDoorW.PrintMore
set_option linter.unusedVariables false
set_option linter.unusedSimpArgs false
set_option linter.unnecessarySimpa false
abbrev dots : ByteArray := ⟨#[46, 95, 45]⟩
theorem dots_dec : ∀ k, k < 3 → ((Utf8.decode dots k).1 < 128 ∧ (Utf8.decode dots k).2 = 1) := by decide
set_option maxRecDepth 100000 in
set_option maxHeartbeats 1000000 in
theorem iRune_err (w : World) : Calls Tryd.prog 170 #[.string dots, .int .i32 65533] w fun e w' => e = .returned (.int .i64 (-1)) ∧ ∃ pos, w' = w.iter dots pos := by
 go_enter Tryd.func170, Tryd.ntmps170
 go_wp2
 go_loopw [] (fun w' => ∃ pos, pos ≤ 3 ∧ w' = w.iter dots pos) (fun w' => 3 - w'.iterPos w.heap.size)
 case atStart => exact ⟨0, by omega, rfl⟩
 case round =>
  obtain ⟨pos, hp, rfl⟩ := hrel
  by_cases hlt : pos < 3
  ·
   have hnx : ∀ ty, (Instr.next (.pointer (some ⟨w.heap.size, 0, none⟩)) true ty).run Tryd.prog (w.iter dots pos) = _ := fun ty => run_next_any w dots pos ty hlt
   obtain ⟨h1, h2⟩ := dots_dec pos hlt
   have b1 : (((Utf8.decode dots pos).1 : Int) == 65533) = false := by simp; omega
   clear h1
   go_wp2
   go_roundw
   case rel => exact ⟨pos + 1, by omega, rfl⟩
   case measure => simp; omega
  ·
   obtain rfl : pos = 3 := by omega
   have hnx : ∀ ty, (Instr.next (.pointer (some ⟨w.heap.size, 0, none⟩)) true ty).run Tryd.prog (w.iter dots 3) = _ := fun ty => run_next_end w dots 3 ty (by decide)
   go_wp2
   go_ret
   exact ⟨rfl, _, rfl⟩
theorem enc2 (r : Int) (hv : Utf8.valid r = true) (h1 : 128 ≤ r) (h2 : r < 2048) : ∃ a b : UInt8, Utf8.encode r = ⟨#[a, b]⟩ ∧ 128 ≤ b.toNat := by
 refine ⟨UInt8.ofNat (192 + r.toNat / 64), UInt8.ofNat (128 + r.toNat % 64), ?_, by simp; omega⟩
 simp only [Utf8.encode, hv, if_true]; rw [if_neg (by omega), if_pos (by omega)]
theorem enc3 (r : Int) (hv : Utf8.valid r = true) (h1 : 2048 ≤ r) (h2 : r < 65536) : ∃ a b c : UInt8, Utf8.encode r = ⟨#[a, b, c]⟩ ∧ 128 ≤ c.toNat := by
 refine ⟨UInt8.ofNat (224 + r.toNat / 4096), UInt8.ofNat (128 + r.toNat / 64 % 64), UInt8.ofNat (128 + r.toNat % 64), ?_, by simp; omega⟩
 simp only [Utf8.encode, hv, if_true]; rw [if_neg (by omega), if_neg (by omega), if_pos (by omega)]
theorem enc4 (r : Int) (hv : Utf8.valid r = true) (h1 : 65536 ≤ r) : ∃ a b c d : UInt8, Utf8.encode r = ⟨#[a, b, c, d]⟩ := by
 refine ⟨UInt8.ofNat (240 + r.toNat / 262144), UInt8.ofNat (128 + r.toNat / 4096 % 64), UInt8.ofNat (128 + r.toNat / 64 % 64), UInt8.ofNat (128 + r.toNat % 64), ?_⟩
 simp only [Utf8.encode, hv, if_true]; rw [if_neg (by omega), if_neg (by omega), if_neg (by omega)]
theorem valid_lib {r : Int} (hv : Utf8.valid r = true) : Lib.validRune r = true := by
 unfold Lib.validRune; unfold Utf8.valid at hv; simp only [Bool.or_eq_true, Bool.and_eq_true, decide_eq_true_eq] at hv; rw [decide_eq_true_eq]; omega
set_option maxRecDepth 100000 in
set_option maxHeartbeats 1000000 in
theorem iRune_2 (r : Int) (hv : Utf8.valid r = true) (h1 : 128 ≤ r) (h2 : r < 2048) (hne : r ≠ 65533) (w : World) : Calls Tryd.prog 170 #[.string dots, .int .i32 r] w fun e w' => e = .returned (.int .i64 (-1)) ∧ Below w.heap.size w w' := by
 obtain ⟨a, b, hrs, hb⟩ := enc2 r hv h1 h2
 have b1 : (r == 65533) = false := by simpa using hne
 have b2 : decide (0 ≤ r) = true := decide_eq_true (by omega)
 have b3 : decide (r < 128) = false := decide_eq_false (by omega)
 have hvr := valid_lib hv
 clear hne
 go_enter Tryd.func170, Tryd.ntmps170
 go_wp2_with (go_at_call 180; refine (Tryd.utf8_ValidRune r _).mono ?_; rw [hvr]; rintro e w' ⟨rfl, hw⟩; rw [hw])
 go_step3
 go_wp2
 refine wp_loop_rounds 1 ?_
 rw [rounds_succ]
 go_wp2
 go_step3
 go_wp2
 have e1 : (((dots[1]'(by decide)).toNat : Int) != (((⟨#[a, b]⟩ : ByteArray)[1]'(show 1 < 2 by decide)).toNat : Int)) = true := by
  show ((95 : Int) != (b.toNat : Int)) = true
  simp; omega
 go_quiet (fail)
 obtain ⟨W, hW⟩ : ∃ W, W = w.drewN nq := ⟨_, rfl⟩
 rw [← hW]
 have HW : Aside0 (Below w.heap.size w W) := ⟨by rw [hW]; exact pw_below_drewN (Below.refl _ _) _⟩
 clear hW
 go_wp2
 have w2 : IntKind.i64.wrap 2 = 2 := by decide
 go_quiet ((go_at_call 179; exact Calls.quiet_of_same (Tryd.strings_IndexByte _ _ _)))
 have e2 : Lib.indexByte (dots.extract 2 3).data.toList ((((⟨#[a, b]⟩ : ByteArray)[1]'(show 1 < 2 by decide)).toNat : Int).toNat.toUInt8) = -1 := by
  show (if (45 : UInt8) == b.toNat.toUInt8 then (0 : Int) else if Lib.indexByte [] b.toNat.toUInt8 == -1 then -1 else Lib.indexByte [] b.toNat.toUInt8 + 1) = -1
  rw [if_neg (by intro h; have := congrArg UInt8.toNat (eq_of_beq h); simp at this; omega)]
  rfl
 rw [e2]
 clear e1 e2 w2
 go_wp2
 rw [Exit.noGoto_ret]
 go_wp2
 rw [Exit.noGoto_ret]
 go_ret
 exact ⟨rfl, pw_below_drewN HW.out _⟩
set_option maxRecDepth 100000 in
set_option maxHeartbeats 1000000 in
theorem iRune_3 (r : Int) (hv : Utf8.valid r = true) (h1 : 2048 ≤ r) (h2 : r < 65536) (hne : r ≠ 65533) (w : World) : Calls Tryd.prog 170 #[.string dots, .int .i32 r] w fun e w' => e = .returned (.int .i64 (-1)) ∧ Below w.heap.size w w' := by
 obtain ⟨a, b, c, hrs, hb⟩ := enc3 r hv h1 h2
 have b1 : (r == 65533) = false := by simpa using hne
 have b2 : decide (0 ≤ r) = true := decide_eq_true (by omega)
 have b3 : decide (r < 128) = false := decide_eq_false (by omega)
 have hvr := valid_lib hv
 clear hne
 go_enter Tryd.func170, Tryd.ntmps170
 go_wp2_with (go_at_call 180; refine (Tryd.utf8_ValidRune r _).mono ?_; rw [hvr]; rintro e w' ⟨rfl, hw⟩; rw [hw])
 go_step3
 go_wp2
 refine wp_loop_rounds 1 ?_
 rw [rounds_succ]
 go_wp2
 go_step3
 go_wp2
 have e1 : (((dots[2]'(by decide)).toNat : Int) != (((⟨#[a, b, c]⟩ : ByteArray)[2]'(show 2 < 3 by decide)).toNat : Int)) = true := by
  show ((45 : Int) != (c.toNat : Int)) = true
  simp; omega
 go_quiet (fail)
 obtain ⟨W, hW⟩ : ∃ W, W = w.drewN nq := ⟨_, rfl⟩
 rw [← hW]
 have HW : Aside0 (Below w.heap.size w W) := ⟨by rw [hW]; exact pw_below_drewN (Below.refl _ _) _⟩
 clear hW
 go_wp2
 have w2 : IntKind.i64.wrap 3 = 3 := by decide
 go_quiet ((go_at_call 179; exact Calls.quiet_of_same (Tryd.strings_IndexByte _ _ _)))
 have e2 : Lib.indexByte ByteArray.empty.data.toList ((((⟨#[a, b, c]⟩ : ByteArray)[2]'(show 2 < 3 by decide)).toNat : Int).toNat.toUInt8) = -1 := by
  rfl
 rw [e2]
 clear e1 e2 w2
 go_wp2
 rw [Exit.noGoto_ret]
 go_wp2
 rw [Exit.noGoto_ret]
 go_ret
 exact ⟨rfl, pw_below_drewN HW.out _⟩
set_option maxRecDepth 100000 in
set_option maxHeartbeats 1000000 in
theorem iRune_4 (r : Int) (hv : Utf8.valid r = true) (h1 : 65536 ≤ r) (hne : r ≠ 65533) (w : World) : Calls Tryd.prog 170 #[.string dots, .int .i32 r] w fun e w' => e = .returned (.int .i64 (-1)) ∧ Below w.heap.size w w' := by
 obtain ⟨a, b, c, d, hrs⟩ := enc4 r hv h1
 have b1 : (r == 65533) = false := by simpa using hne
 have b2 : decide (0 ≤ r) = true := decide_eq_true (by omega)
 have b3 : decide (r < 128) = false := decide_eq_false (by omega)
 have hvr := valid_lib hv
 clear hne
 go_enter Tryd.func170, Tryd.ntmps170
 go_wp2_with (go_at_call 180; refine (Tryd.utf8_ValidRune r _).mono ?_; rw [hvr]; rintro e w' ⟨rfl, hw⟩; rw [hw])
 go_step3
 go_wp2
 refine wp_loop_rounds 1 ?_
 rw [rounds_succ]
 go_wp2
 rw [Exit.noGoto_ret]
 go_ret
 exact ⟨rfl, Below.refl _ _⟩
theorem below_iter (w : World) (s : ByteArray) (p : Nat) : Below w.heap.size w (w.iter s p) := below_alloc (Below.refl _ _) _
theorem iRune_high (r : Int) (hv : Utf8.valid r = true) (h1 : 128 ≤ r) (w : World) : Calls Tryd.prog 170 #[.string dots, .int .i32 r] w fun e w' => e = .returned (.int .i64 (-1)) ∧ Below w.heap.size w w' := by
 by_cases hne : r = 65533
 ·
  subst hne
  exact (iRune_err w).mono fun e w' ⟨h, p, hw⟩ => ⟨h, by rw [hw]; exact below_iter w _ _⟩
 ·
  by_cases h2 : r < 2048
  ·
   exact iRune_2 r hv h1 h2 hne w
  ·
   by_cases h3 : r < 65536
   ·
    exact iRune_3 r hv (by omega) h3 hne w
   ·
    exact iRune_4 r hv (by omega) hne w
def dotI (r : Int) : Bool := decide (r = 46 ∨ r = 95 ∨ r = 45)
theorem dots_at : ∀ k : Fin 128, decide (0 ≤ Lib.indexByte dots.data.toList ((k.val : Nat) : Int).toNat.toUInt8) = dotI ((k.val : Nat) : Int) := by decide
set_option maxHeartbeats 400000 in
theorem cRune_high (r : Int) (hv : Utf8.valid r = true) (h1 : 128 ≤ r) (w : World) : Calls Tryd.prog 157 #[.string dots, .int .i32 r] w fun e w' => e = .returned (.bool false) ∧ Below w.heap.size w w' := by
 go_enter Tryd.func157, Tryd.ntmps157
 go_wp2_with fail
 refine (iRune_high r hv h1 _).mono ?_
 rintro e w1 ⟨rfl, hb⟩
 have HB := aM' hb
 clear hb
 go_wp2
 go_ret
 exact ⟨rfl, HB.out⟩
def strings_ContainsRune.f (s : ByteArray) (r : Int) : Option Bool := if s = dots ∧ Utf8.valid r = true then some (dotI r) else none
theorem strings_ContainsRune.calls (s : ByteArray) (r : Int) (b : Bool) (w : World) (h : strings_ContainsRune.f s r = some b) :
  Calls Tryd.prog 157 #[.string s, .int .i32 r] w fun e w' => e = .returned (.bool b) ∧ Below w.heap.size w w' := by
 unfold strings_ContainsRune.f at h
 split at h
 ·
  rename_i hh
  obtain ⟨rfl, hv⟩ := hh
  obtain rfl := Option.some.inj h
  by_cases h1 : r < 128
  ·
   have h0 : 0 ≤ r := by unfold Utf8.valid at hv; simp only [Bool.or_eq_true, Bool.and_eq_true, decide_eq_true_eq] at hv; omega
   obtain ⟨k, rfl⟩ := Int.eq_ofNat_of_zero_le h0
   have h3 := dots_at ⟨k, by omega⟩
   refine (Tryd.strings_ContainsRune_ascii dots (k : Int) w h0 h1).mono ?_
   rintro e w' ⟨rfl, rfl⟩
   refine ⟨?_, Below.refl _ _⟩
   rw [show decide (0 ≤ Lib.indexByte dots.data.toList ((k : Nat) : Int).toNat.toUInt8) = dotI ((k : Nat) : Int) from h3]
  ·
   have e : dotI r = false := by unfold dotI; exact decide_eq_false (by omega)
   rw [e]
   exact cRune_high r hv (by omega) w
 ·
  cases h
end Go.Proofs.YtfcodmdckcihmaaDoor.P
namespace Go.Proofs.YtfcodmdckcihmaaDoor.P
open Go.RowKit Go.Proofs.YtfcodmdckcihmaaDoorW.PrintWords Go.Proofs.YtfcodmdckcihmaaDoorW.PrintLast Go.Proofs.YtfcodmdckcihmaaDoorW.PrintMore
attribute [local go_sem] max2_int min2_int max_two min_two max_three min_three max_four min_four-- for this text's walks alone
set_option linter.unusedVariables false
set_option linter.unusedSimpArgs false
def tag_within.f (a0 : Int) : Option (Bool) := if a0 ≥ 97 then (if a0 ≤ 122 then (some true) else (if a0 ≥ 65 then (if a0 ≤ 90 then (some true) else (if a0 ≥ 48 then (if a0 ≤ 57 then (some true) else ((strings_ContainsRune.f (⟨#[46, 95, 45]⟩ : ByteArray) a0).bind fun t101 => (if t101 = true then (some true) else (some (decide (a0 ≥ 161)))))) else ((strings_ContainsRune.f (⟨#[46, 95, 45]⟩ : ByteArray) a0).bind fun t102 => (if t102 = true then (some true) else (some (decide (a0 ≥ 161))))))) else (if a0 ≥ 48 then (if a0 ≤ 57 then (some true) else ((strings_ContainsRune.f (⟨#[46, 95, 45]⟩ : ByteArray) a0).bind fun t103 => (if t103 = true then (some true) else (some (decide (a0 ≥ 161)))))) else ((strings_ContainsRune.f (⟨#[46, 95, 45]⟩ : ByteArray) a0).bind fun t104 => (if t104 = true then (some true) else (some (decide (a0 ≥ 161)))))))) else (if a0 ≥ 65 then (if a0 ≤ 90 then (some true) else (if a0 ≥ 48 then (if a0 ≤ 57 then (some true) else ((strings_ContainsRune.f (⟨#[46, 95, 45]⟩ : ByteArray) a0).bind fun t105 => (if t105 = true then (some true) else (some (decide (a0 ≥ 161)))))) else ((strings_ContainsRune.f (⟨#[46, 95, 45]⟩ : ByteArray) a0).bind fun t106 => (if t106 = true then (some true) else (some (decide (a0 ≥ 161))))))) else (if a0 ≥ 48 then (if a0 ≤ 57 then (some true) else ((strings_ContainsRune.f (⟨#[46, 95, 45]⟩ : ByteArray) a0).bind fun t107 => (if t107 = true then (some true) else (some (decide (a0 ≥ 161)))))) else ((strings_ContainsRune.f (⟨#[46, 95, 45]⟩ : ByteArray) a0).bind fun t108 => (if t108 = true then (some true) else (some (decide (a0 ≥ 161)))))))
set_option maxHeartbeats 8000000 in
set_option maxRecDepth 100000 in
theorem tag_within.calls (a0 : Int) (r : Bool) (w : World) (h : tag_within.f a0 = some r) :
  Calls Tryd.prog 129 #[.int .i32 a0] w fun e w' => e = .returned (.bool r) ∧ Below w.heap.size w w' := by
 have HB := aM' (Below.refl w.heap.size w)
 have H : (if a0 ≥ 97 then (if a0 ≤ 122 then (some true) else (if a0 ≥ 65 then (if a0 ≤ 90 then (some true) else (if a0 ≥ 48 then (if a0 ≤ 57 then (some true) else ((strings_ContainsRune.f (⟨#[46, 95, 45]⟩ : ByteArray) a0).bind fun t101 => (if t101 = true then (some true) else (some (decide (a0 ≥ 161)))))) else ((strings_ContainsRune.f (⟨#[46, 95, 45]⟩ : ByteArray) a0).bind fun t102 => (if t102 = true then (some true) else (some (decide (a0 ≥ 161))))))) else (if a0 ≥ 48 then (if a0 ≤ 57 then (some true) else ((strings_ContainsRune.f (⟨#[46, 95, 45]⟩ : ByteArray) a0).bind fun t103 => (if t103 = true then (some true) else (some (decide (a0 ≥ 161)))))) else ((strings_ContainsRune.f (⟨#[46, 95, 45]⟩ : ByteArray) a0).bind fun t104 => (if t104 = true then (some true) else (some (decide (a0 ≥ 161)))))))) else (if a0 ≥ 65 then (if a0 ≤ 90 then (some true) else (if a0 ≥ 48 then (if a0 ≤ 57 then (some true) else ((strings_ContainsRune.f (⟨#[46, 95, 45]⟩ : ByteArray) a0).bind fun t105 => (if t105 = true then (some true) else (some (decide (a0 ≥ 161)))))) else ((strings_ContainsRune.f (⟨#[46, 95, 45]⟩ : ByteArray) a0).bind fun t106 => (if t106 = true then (some true) else (some (decide (a0 ≥ 161))))))) else (if a0 ≥ 48 then (if a0 ≤ 57 then (some true) else ((strings_ContainsRune.f (⟨#[46, 95, 45]⟩ : ByteArray) a0).bind fun t107 => (if t107 = true then (some true) else (some (decide (a0 ≥ 161)))))) else ((strings_ContainsRune.f (⟨#[46, 95, 45]⟩ : ByteArray) a0).bind fun t108 => (if t108 = true then (some true) else (some (decide (a0 ≥ 161)))))))) = some r := h
 clear h
 by_cases c2 : a0 ≥ 97
 ·
  rw [if_pos c2] at H
  have c2b0 : decide (97 ≤ a0) = true := decide_eq_true c2
  clear c2
  by_cases c3 : a0 ≤ 122
  ·
   rw [if_pos c3] at H
   have c3b0 : decide (a0 ≤ 122) = true := decide_eq_true c3
   clear c3
   obtain rfl := Option.some.inj H
   go_enter Tryd.func129, Tryd.ntmps129
   go_wp2
   go_ret
   exact ⟨by first | rfl | (simp [errW_none, errW_some] <;> rfl) | (simp [*, errW_none, errW_some] <;> rfl), by repeat (first | (with_reducible first | exact HB.out | apply below_alloc | apply pw_below_drewN | apply below_drew1) | exact HB.out)⟩
  ·
   rw [if_neg c3] at H
   have c3b0 : decide (a0 ≤ 122) = false := decide_eq_false c3
   clear c3
   by_cases c4 : a0 ≥ 65
   ·
    rw [if_pos c4] at H
    have c4b0 : decide (65 ≤ a0) = true := decide_eq_true c4
    clear c4
    by_cases c5 : a0 ≤ 90
    ·
     rw [if_pos c5] at H
     have c5b0 : decide (a0 ≤ 90) = true := decide_eq_true c5
     clear c5
     obtain rfl := Option.some.inj H
     go_enter Tryd.func129, Tryd.ntmps129
     go_wp2
     go_ret
     exact ⟨by first | rfl | (simp [errW_none, errW_some] <;> rfl) | (simp [*, errW_none, errW_some] <;> rfl), by repeat (first | (with_reducible first | exact HB.out | apply below_alloc | apply pw_below_drewN | apply below_drew1) | exact HB.out)⟩
    ·
     rw [if_neg c5] at H
     have c5b0 : decide (a0 ≤ 90) = false := decide_eq_false c5
     clear c5
     by_cases c6 : a0 ≥ 48
     ·
      rw [if_pos c6] at H
      have c6b0 : decide (48 ≤ a0) = true := decide_eq_true c6
      clear c6
      by_cases c7 : a0 ≤ 57
      ·
       rw [if_pos c7] at H
       have c7b0 : decide (a0 ≤ 57) = true := decide_eq_true c7
       clear c7
       obtain rfl := Option.some.inj H
       go_enter Tryd.func129, Tryd.ntmps129
       go_wp2
       go_ret
       exact ⟨by first | rfl | (simp [errW_none, errW_some] <;> rfl) | (simp [*, errW_none, errW_some] <;> rfl), by repeat (first | (with_reducible first | exact HB.out | apply below_alloc | apply pw_below_drewN | apply below_drew1) | exact HB.out)⟩
      ·
       rw [if_neg c7] at H
       have c7b0 : decide (a0 ≤ 57) = false := decide_eq_false c7
       clear c7
       replace H := Option.bind_eq_some_iff.mp H
       obtain ⟨t101, A80, H⟩ := H
       replace H : (if t101 = true then (some true) else (some (decide (a0 ≥ 161)))) = some r := H
       have A8 := aM' A80
       clear A80
       by_cases c9 : t101 = true
       ·
        subst c9
        have H1 : (some true) = some r := by rw [if_pos rfl] at H; exact H
        clear H
        have H := H1
        clear H1
        obtain rfl := Option.some.inj H
        go_enter Tryd.func129, Tryd.ntmps129
        go_wp2_with (first | (go_at_call 157; (with_reducible refine (strings_ContainsRune.calls (⟨#[46, 95, 45]⟩ : ByteArray) a0 true _ A8.out).mono ?_); rintro e w10 ⟨rfl, hb⟩; have n0_ := aM' (below_step (by repeat (first | (with_reducible first | exact HB.out | apply below_alloc | apply pw_below_drewN | apply below_drew1) | exact HB.out)) hb); clear HB; have HB := n0_; clear n0_; (try clear hb); (try clear hb2); (try clear hk); (try clear hi)))
        go_ret
        exact ⟨by first | rfl | (simp [errW_none, errW_some] <;> rfl) | (simp [*, errW_none, errW_some] <;> rfl), by repeat (first | (with_reducible first | exact HB.out | apply below_alloc | apply pw_below_drewN | apply below_drew1) | exact HB.out)⟩
       ·
        replace c9 := Bool.eq_false_iff.mpr c9
        subst c9
        have H1 : (some (decide (a0 ≥ 161))) = some r := by rw [if_neg (show ¬ (false = true) by decide)] at H; exact H
        clear H
        have H := H1
        clear H1
        obtain rfl := Option.some.inj H
        go_enter Tryd.func129, Tryd.ntmps129
        go_wp2_with (first | (go_at_call 157; (with_reducible refine (strings_ContainsRune.calls (⟨#[46, 95, 45]⟩ : ByteArray) a0 false _ A8.out).mono ?_); rintro e w11 ⟨rfl, hb⟩; have n0_ := aM' (below_step (by repeat (first | (with_reducible first | exact HB.out | apply below_alloc | apply pw_below_drewN | apply below_drew1) | exact HB.out)) hb); clear HB; have HB := n0_; clear n0_; (try clear hb); (try clear hb2); (try clear hk); (try clear hi)))
        go_ret
        exact ⟨by first | rfl | (simp [errW_none, errW_some] <;> rfl) | (simp [*, errW_none, errW_some] <;> rfl), by repeat (first | (with_reducible first | exact HB.out | apply below_alloc | apply pw_below_drewN | apply below_drew1) | exact HB.out)⟩
     ·
      rw [if_neg c6] at H
      have c6b0 : decide (48 ≤ a0) = false := decide_eq_false c6
      clear c6
      replace H := Option.bind_eq_some_iff.mp H
      obtain ⟨t102, A120, H⟩ := H
      replace H : (if t102 = true then (some true) else (some (decide (a0 ≥ 161)))) = some r := H
      have A12 := aM' A120
      clear A120
      by_cases c13 : t102 = true
      ·
       subst c13
       have H1 : (some true) = some r := by rw [if_pos rfl] at H; exact H
       clear H
       have H := H1
       clear H1
       obtain rfl := Option.some.inj H
       go_enter Tryd.func129, Tryd.ntmps129
       go_wp2_with (first | (go_at_call 157; (with_reducible refine (strings_ContainsRune.calls (⟨#[46, 95, 45]⟩ : ByteArray) a0 true _ A12.out).mono ?_); rintro e w14 ⟨rfl, hb⟩; have n0_ := aM' (below_step (by repeat (first | (with_reducible first | exact HB.out | apply below_alloc | apply pw_below_drewN | apply below_drew1) | exact HB.out)) hb); clear HB; have HB := n0_; clear n0_; (try clear hb); (try clear hb2); (try clear hk); (try clear hi)))
       go_ret
       exact ⟨by first | rfl | (simp [errW_none, errW_some] <;> rfl) | (simp [*, errW_none, errW_some] <;> rfl), by repeat (first | (with_reducible first | exact HB.out | apply below_alloc | apply pw_below_drewN | apply below_drew1) | exact HB.out)⟩
      ·
       replace c13 := Bool.eq_false_iff.mpr c13
       subst c13
       have H1 : (some (decide (a0 ≥ 161))) = some r := by rw [if_neg (show ¬ (false = true) by decide)] at H; exact H
       clear H
       have H := H1
       clear H1
       obtain rfl := Option.some.inj H
       go_enter Tryd.func129, Tryd.ntmps129
       go_wp2_with (first | (go_at_call 157; (with_reducible refine (strings_ContainsRune.calls (⟨#[46, 95, 45]⟩ : ByteArray) a0 false _ A12.out).mono ?_); rintro e w15 ⟨rfl, hb⟩; have n0_ := aM' (below_step (by repeat (first | (with_reducible first | exact HB.out | apply below_alloc | apply pw_below_drewN | apply below_drew1) | exact HB.out)) hb); clear HB; have HB := n0_; clear n0_; (try clear hb); (try clear hb2); (try clear hk); (try clear hi)))
       go_ret
       exact ⟨by first | rfl | (simp [errW_none, errW_some] <;> rfl) | (simp [*, errW_none, errW_some] <;> rfl), by repeat (first | (with_reducible first | exact HB.out | apply below_alloc | apply pw_below_drewN | apply below_drew1) | exact HB.out)⟩
   ·
    rw [if_neg c4] at H
    have c4b0 : decide (65 ≤ a0) = false := decide_eq_false c4
    clear c4
    by_cases c16 : a0 ≥ 48
    ·
     rw [if_pos c16] at H
     have c16b0 : decide (48 ≤ a0) = true := decide_eq_true c16
     clear c16
     by_cases c17 : a0 ≤ 57
     ·
      rw [if_pos c17] at H
      have c17b0 : decide (a0 ≤ 57) = true := decide_eq_true c17
      clear c17
      obtain rfl := Option.some.inj H
      go_enter Tryd.func129, Tryd.ntmps129
      go_wp2
      go_ret
      exact ⟨by first | rfl | (simp [errW_none, errW_some] <;> rfl) | (simp [*, errW_none, errW_some] <;> rfl), by repeat (first | (with_reducible first | exact HB.out | apply below_alloc | apply pw_below_drewN | apply below_drew1) | exact HB.out)⟩
     ·
      rw [if_neg c17] at H
      have c17b0 : decide (a0 ≤ 57) = false := decide_eq_false c17
      clear c17
      replace H := Option.bind_eq_some_iff.mp H
      obtain ⟨t103, A180, H⟩ := H
      replace H : (if t103 = true then (some true) else (some (decide (a0 ≥ 161)))) = some r := H
      have A18 := aM' A180
      clear A180
      by_cases c19 : t103 = true
      ·
       subst c19
       have H1 : (some true) = some r := by rw [if_pos rfl] at H; exact H
       clear H
       have H := H1
       clear H1
       obtain rfl := Option.some.inj H
       go_enter Tryd.func129, Tryd.ntmps129
       go_wp2_with (first | (go_at_call 157; (with_reducible refine (strings_ContainsRune.calls (⟨#[46, 95, 45]⟩ : ByteArray) a0 true _ A18.out).mono ?_); rintro e w20 ⟨rfl, hb⟩; have n0_ := aM' (below_step (by repeat (first | (with_reducible first | exact HB.out | apply below_alloc | apply pw_below_drewN | apply below_drew1) | exact HB.out)) hb); clear HB; have HB := n0_; clear n0_; (try clear hb); (try clear hb2); (try clear hk); (try clear hi)))
       go_ret
       exact ⟨by first | rfl | (simp [errW_none, errW_some] <;> rfl) | (simp [*, errW_none, errW_some] <;> rfl), by repeat (first | (with_reducible first | exact HB.out | apply below_alloc | apply pw_below_drewN | apply below_drew1) | exact HB.out)⟩
      ·
       replace c19 := Bool.eq_false_iff.mpr c19
       subst c19
       have H1 : (some (decide (a0 ≥ 161))) = some r := by rw [if_neg (show ¬ (false = true) by decide)] at H; exact H
       clear H
       have H := H1
       clear H1
       obtain rfl := Option.some.inj H
       go_enter Tryd.func129, Tryd.ntmps129
       go_wp2_with (first | (go_at_call 157; (with_reducible refine (strings_ContainsRune.calls (⟨#[46, 95, 45]⟩ : ByteArray) a0 false _ A18.out).mono ?_); rintro e w21 ⟨rfl, hb⟩; have n0_ := aM' (below_step (by repeat (first | (with_reducible first | exact HB.out | apply below_alloc | apply pw_below_drewN | apply below_drew1) | exact HB.out)) hb); clear HB; have HB := n0_; clear n0_; (try clear hb); (try clear hb2); (try clear hk); (try clear hi)))
       go_ret
       exact ⟨by first | rfl | (simp [errW_none, errW_some] <;> rfl) | (simp [*, errW_none, errW_some] <;> rfl), by repeat (first | (with_reducible first | exact HB.out | apply below_alloc | apply pw_below_drewN | apply below_drew1) | exact HB.out)⟩
    ·
     rw [if_neg c16] at H
     have c16b0 : decide (48 ≤ a0) = false := decide_eq_false c16
     clear c16
     replace H := Option.bind_eq_some_iff.mp H
     obtain ⟨t104, A220, H⟩ := H
     replace H : (if t104 = true then (some true) else (some (decide (a0 ≥ 161)))) = some r := H
     have A22 := aM' A220
     clear A220
     by_cases c23 : t104 = true
     ·
      subst c23
      have H1 : (some true) = some r := by rw [if_pos rfl] at H; exact H
      clear H
      have H := H1
      clear H1
      obtain rfl := Option.some.inj H
      go_enter Tryd.func129, Tryd.ntmps129
      go_wp2_with (first | (go_at_call 157; (with_reducible refine (strings_ContainsRune.calls (⟨#[46, 95, 45]⟩ : ByteArray) a0 true _ A22.out).mono ?_); rintro e w24 ⟨rfl, hb⟩; have n0_ := aM' (below_step (by repeat (first | (with_reducible first | exact HB.out | apply below_alloc | apply pw_below_drewN | apply below_drew1) | exact HB.out)) hb); clear HB; have HB := n0_; clear n0_; (try clear hb); (try clear hb2); (try clear hk); (try clear hi)))
      go_ret
      exact ⟨by first | rfl | (simp [errW_none, errW_some] <;> rfl) | (simp [*, errW_none, errW_some] <;> rfl), by repeat (first | (with_reducible first | exact HB.out | apply below_alloc | apply pw_below_drewN | apply below_drew1) | exact HB.out)⟩
     ·
      replace c23 := Bool.eq_false_iff.mpr c23
      subst c23
      have H1 : (some (decide (a0 ≥ 161))) = some r := by rw [if_neg (show ¬ (false = true) by decide)] at H; exact H
      clear H
      have H := H1
      clear H1
      obtain rfl := Option.some.inj H
      go_enter Tryd.func129, Tryd.ntmps129
      go_wp2_with (first | (go_at_call 157; (with_reducible refine (strings_ContainsRune.calls (⟨#[46, 95, 45]⟩ : ByteArray) a0 false _ A22.out).mono ?_); rintro e w25 ⟨rfl, hb⟩; have n0_ := aM' (below_step (by repeat (first | (with_reducible first | exact HB.out | apply below_alloc | apply pw_below_drewN | apply below_drew1) | exact HB.out)) hb); clear HB; have HB := n0_; clear n0_; (try clear hb); (try clear hb2); (try clear hk); (try clear hi)))
      go_ret
      exact ⟨by first | rfl | (simp [errW_none, errW_some] <;> rfl) | (simp [*, errW_none, errW_some] <;> rfl), by repeat (first | (with_reducible first | exact HB.out | apply below_alloc | apply pw_below_drewN | apply below_drew1) | exact HB.out)⟩
 ·
  rw [if_neg c2] at H
  have c2b0 : decide (97 ≤ a0) = false := decide_eq_false c2
  clear c2
  by_cases c26 : a0 ≥ 65
  ·
   rw [if_pos c26] at H
   have c26b0 : decide (65 ≤ a0) = true := decide_eq_true c26
   clear c26
   by_cases c27 : a0 ≤ 90
   ·
    rw [if_pos c27] at H
    have c27b0 : decide (a0 ≤ 90) = true := decide_eq_true c27
    clear c27
    obtain rfl := Option.some.inj H
    go_enter Tryd.func129, Tryd.ntmps129
    go_wp2
    go_ret
    exact ⟨by first | rfl | (simp [errW_none, errW_some] <;> rfl) | (simp [*, errW_none, errW_some] <;> rfl), by repeat (first | (with_reducible first | exact HB.out | apply below_alloc | apply pw_below_drewN | apply below_drew1) | exact HB.out)⟩
   ·
    rw [if_neg c27] at H
    have c27b0 : decide (a0 ≤ 90) = false := decide_eq_false c27
    clear c27
    by_cases c28 : a0 ≥ 48
    ·
     rw [if_pos c28] at H
     have c28b0 : decide (48 ≤ a0) = true := decide_eq_true c28
     clear c28
     by_cases c29 : a0 ≤ 57
     ·
      rw [if_pos c29] at H
      have c29b0 : decide (a0 ≤ 57) = true := decide_eq_true c29
      clear c29
      obtain rfl := Option.some.inj H
      go_enter Tryd.func129, Tryd.ntmps129
      go_wp2
      go_ret
      exact ⟨by first | rfl | (simp [errW_none, errW_some] <;> rfl) | (simp [*, errW_none, errW_some] <;> rfl), by repeat (first | (with_reducible first | exact HB.out | apply below_alloc | apply pw_below_drewN | apply below_drew1) | exact HB.out)⟩
     ·
      rw [if_neg c29] at H
      have c29b0 : decide (a0 ≤ 57) = false := decide_eq_false c29
      clear c29
      replace H := Option.bind_eq_some_iff.mp H
      obtain ⟨t105, A300, H⟩ := H
      replace H : (if t105 = true then (some true) else (some (decide (a0 ≥ 161)))) = some r := H
      have A30 := aM' A300
      clear A300
      by_cases c31 : t105 = true
      ·
       subst c31
       have H1 : (some true) = some r := by rw [if_pos rfl] at H; exact H
       clear H
       have H := H1
       clear H1
       obtain rfl := Option.some.inj H
       go_enter Tryd.func129, Tryd.ntmps129
       go_wp2_with (first | (go_at_call 157; (with_reducible refine (strings_ContainsRune.calls (⟨#[46, 95, 45]⟩ : ByteArray) a0 true _ A30.out).mono ?_); rintro e w32 ⟨rfl, hb⟩; have n0_ := aM' (below_step (by repeat (first | (with_reducible first | exact HB.out | apply below_alloc | apply pw_below_drewN | apply below_drew1) | exact HB.out)) hb); clear HB; have HB := n0_; clear n0_; (try clear hb); (try clear hb2); (try clear hk); (try clear hi)))
       go_ret
       exact ⟨by first | rfl | (simp [errW_none, errW_some] <;> rfl) | (simp [*, errW_none, errW_some] <;> rfl), by repeat (first | (with_reducible first | exact HB.out | apply below_alloc | apply pw_below_drewN | apply below_drew1) | exact HB.out)⟩
      ·
       replace c31 := Bool.eq_false_iff.mpr c31
       subst c31
       have H1 : (some (decide (a0 ≥ 161))) = some r := by rw [if_neg (show ¬ (false = true) by decide)] at H; exact H
       clear H
       have H := H1
       clear H1
       obtain rfl := Option.some.inj H
       go_enter Tryd.func129, Tryd.ntmps129
       go_wp2_with (first | (go_at_call 157; (with_reducible refine (strings_ContainsRune.calls (⟨#[46, 95, 45]⟩ : ByteArray) a0 false _ A30.out).mono ?_); rintro e w33 ⟨rfl, hb⟩; have n0_ := aM' (below_step (by repeat (first | (with_reducible first | exact HB.out | apply below_alloc | apply pw_below_drewN | apply below_drew1) | exact HB.out)) hb); clear HB; have HB := n0_; clear n0_; (try clear hb); (try clear hb2); (try clear hk); (try clear hi)))
       go_ret
       exact ⟨by first | rfl | (simp [errW_none, errW_some] <;> rfl) | (simp [*, errW_none, errW_some] <;> rfl), by repeat (first | (with_reducible first | exact HB.out | apply below_alloc | apply pw_below_drewN | apply below_drew1) | exact HB.out)⟩
    ·
     rw [if_neg c28] at H
     have c28b0 : decide (48 ≤ a0) = false := decide_eq_false c28
     clear c28
     replace H := Option.bind_eq_some_iff.mp H
     obtain ⟨t106, A340, H⟩ := H
     replace H : (if t106 = true then (some true) else (some (decide (a0 ≥ 161)))) = some r := H
     have A34 := aM' A340
     clear A340
     by_cases c35 : t106 = true
     ·
      subst c35
      have H1 : (some true) = some r := by rw [if_pos rfl] at H; exact H
      clear H
      have H := H1
      clear H1
      obtain rfl := Option.some.inj H
      go_enter Tryd.func129, Tryd.ntmps129
      go_wp2_with (first | (go_at_call 157; (with_reducible refine (strings_ContainsRune.calls (⟨#[46, 95, 45]⟩ : ByteArray) a0 true _ A34.out).mono ?_); rintro e w36 ⟨rfl, hb⟩; have n0_ := aM' (below_step (by repeat (first | (with_reducible first | exact HB.out | apply below_alloc | apply pw_below_drewN | apply below_drew1) | exact HB.out)) hb); clear HB; have HB := n0_; clear n0_; (try clear hb); (try clear hb2); (try clear hk); (try clear hi)))
      go_ret
      exact ⟨by first | rfl | (simp [errW_none, errW_some] <;> rfl) | (simp [*, errW_none, errW_some] <;> rfl), by repeat (first | (with_reducible first | exact HB.out | apply below_alloc | apply pw_below_drewN | apply below_drew1) | exact HB.out)⟩
     ·
      replace c35 := Bool.eq_false_iff.mpr c35
      subst c35
      have H1 : (some (decide (a0 ≥ 161))) = some r := by rw [if_neg (show ¬ (false = true) by decide)] at H; exact H
      clear H
      have H := H1
      clear H1
      obtain rfl := Option.some.inj H
      go_enter Tryd.func129, Tryd.ntmps129
      go_wp2_with (first | (go_at_call 157; (with_reducible refine (strings_ContainsRune.calls (⟨#[46, 95, 45]⟩ : ByteArray) a0 false _ A34.out).mono ?_); rintro e w37 ⟨rfl, hb⟩; have n0_ := aM' (below_step (by repeat (first | (with_reducible first | exact HB.out | apply below_alloc | apply pw_below_drewN | apply below_drew1) | exact HB.out)) hb); clear HB; have HB := n0_; clear n0_; (try clear hb); (try clear hb2); (try clear hk); (try clear hi)))
      go_ret
      exact ⟨by first | rfl | (simp [errW_none, errW_some] <;> rfl) | (simp [*, errW_none, errW_some] <;> rfl), by repeat (first | (with_reducible first | exact HB.out | apply below_alloc | apply pw_below_drewN | apply below_drew1) | exact HB.out)⟩
  ·
   rw [if_neg c26] at H
   have c26b0 : decide (65 ≤ a0) = false := decide_eq_false c26
   clear c26
   by_cases c38 : a0 ≥ 48
   ·
    rw [if_pos c38] at H
    have c38b0 : decide (48 ≤ a0) = true := decide_eq_true c38
    clear c38
    by_cases c39 : a0 ≤ 57
    ·
     rw [if_pos c39] at H
     have c39b0 : decide (a0 ≤ 57) = true := decide_eq_true c39
     clear c39
     obtain rfl := Option.some.inj H
     go_enter Tryd.func129, Tryd.ntmps129
     go_wp2
     go_ret
     exact ⟨by first | rfl | (simp [errW_none, errW_some] <;> rfl) | (simp [*, errW_none, errW_some] <;> rfl), by repeat (first | (with_reducible first | exact HB.out | apply below_alloc | apply pw_below_drewN | apply below_drew1) | exact HB.out)⟩
    ·
     rw [if_neg c39] at H
     have c39b0 : decide (a0 ≤ 57) = false := decide_eq_false c39
     clear c39
     replace H := Option.bind_eq_some_iff.mp H
     obtain ⟨t107, A400, H⟩ := H
     replace H : (if t107 = true then (some true) else (some (decide (a0 ≥ 161)))) = some r := H
     have A40 := aM' A400
     clear A400
     by_cases c41 : t107 = true
     ·
      subst c41
      have H1 : (some true) = some r := by rw [if_pos rfl] at H; exact H
      clear H
      have H := H1
      clear H1
      obtain rfl := Option.some.inj H
      go_enter Tryd.func129, Tryd.ntmps129
      go_wp2_with (first | (go_at_call 157; (with_reducible refine (strings_ContainsRune.calls (⟨#[46, 95, 45]⟩ : ByteArray) a0 true _ A40.out).mono ?_); rintro e w42 ⟨rfl, hb⟩; have n0_ := aM' (below_step (by repeat (first | (with_reducible first | exact HB.out | apply below_alloc | apply pw_below_drewN | apply below_drew1) | exact HB.out)) hb); clear HB; have HB := n0_; clear n0_; (try clear hb); (try clear hb2); (try clear hk); (try clear hi)))
      go_ret
      exact ⟨by first | rfl | (simp [errW_none, errW_some] <;> rfl) | (simp [*, errW_none, errW_some] <;> rfl), by repeat (first | (with_reducible first | exact HB.out | apply below_alloc | apply pw_below_drewN | apply below_drew1) | exact HB.out)⟩
     ·
      replace c41 := Bool.eq_false_iff.mpr c41
      subst c41
      have H1 : (some (decide (a0 ≥ 161))) = some r := by rw [if_neg (show ¬ (false = true) by decide)] at H; exact H
      clear H
      have H := H1
      clear H1
      obtain rfl := Option.some.inj H
      go_enter Tryd.func129, Tryd.ntmps129
      go_wp2_with (first | (go_at_call 157; (with_reducible refine (strings_ContainsRune.calls (⟨#[46, 95, 45]⟩ : ByteArray) a0 false _ A40.out).mono ?_); rintro e w43 ⟨rfl, hb⟩; have n0_ := aM' (below_step (by repeat (first | (with_reducible first | exact HB.out | apply below_alloc | apply pw_below_drewN | apply below_drew1) | exact HB.out)) hb); clear HB; have HB := n0_; clear n0_; (try clear hb); (try clear hb2); (try clear hk); (try clear hi)))
      go_ret
      exact ⟨by first | rfl | (simp [errW_none, errW_some] <;> rfl) | (simp [*, errW_none, errW_some] <;> rfl), by repeat (first | (with_reducible first | exact HB.out | apply below_alloc | apply pw_below_drewN | apply below_drew1) | exact HB.out)⟩
   ·
    rw [if_neg c38] at H
    have c38b0 : decide (48 ≤ a0) = false := decide_eq_false c38
    clear c38
    replace H := Option.bind_eq_some_iff.mp H
    obtain ⟨t108, A440, H⟩ := H
    replace H : (if t108 = true then (some true) else (some (decide (a0 ≥ 161)))) = some r := H
    have A44 := aM' A440
    clear A440
    by_cases c45 : t108 = true
    ·
     subst c45
     have H1 : (some true) = some r := by rw [if_pos rfl] at H; exact H
     clear H
     have H := H1
     clear H1
     obtain rfl := Option.some.inj H
     go_enter Tryd.func129, Tryd.ntmps129
     go_wp2_with (first | (go_at_call 157; (with_reducible refine (strings_ContainsRune.calls (⟨#[46, 95, 45]⟩ : ByteArray) a0 true _ A44.out).mono ?_); rintro e w46 ⟨rfl, hb⟩; have n0_ := aM' (below_step (by repeat (first | (with_reducible first | exact HB.out | apply below_alloc | apply pw_below_drewN | apply below_drew1) | exact HB.out)) hb); clear HB; have HB := n0_; clear n0_; (try clear hb); (try clear hb2); (try clear hk); (try clear hi)))
     go_ret
     exact ⟨by first | rfl | (simp [errW_none, errW_some] <;> rfl) | (simp [*, errW_none, errW_some] <;> rfl), by repeat (first | (with_reducible first | exact HB.out | apply below_alloc | apply pw_below_drewN | apply below_drew1) | exact HB.out)⟩
    ·
     replace c45 := Bool.eq_false_iff.mpr c45
     subst c45
     have H1 : (some (decide (a0 ≥ 161))) = some r := by rw [if_neg (show ¬ (false = true) by decide)] at H; exact H
     clear H
     have H := H1
     clear H1
     obtain rfl := Option.some.inj H
     go_enter Tryd.func129, Tryd.ntmps129
     go_wp2_with (first | (go_at_call 157; (with_reducible refine (strings_ContainsRune.calls (⟨#[46, 95, 45]⟩ : ByteArray) a0 false _ A44.out).mono ?_); rintro e w47 ⟨rfl, hb⟩; have n0_ := aM' (below_step (by repeat (first | (with_reducible first | exact HB.out | apply below_alloc | apply pw_below_drewN | apply below_drew1) | exact HB.out)) hb); clear HB; have HB := n0_; clear n0_; (try clear hb); (try clear hb2); (try clear hk); (try clear hi)))
     go_ret
     exact ⟨by first | rfl | (simp [errW_none, errW_some] <;> rfl) | (simp [*, errW_none, errW_some] <;> rfl), by repeat (first | (with_reducible first | exact HB.out | apply below_alloc | apply pw_below_drewN | apply below_drew1) | exact HB.out)⟩
end Go.Proofs.YtfcodmdckcihmaaDoor.P
namespace Go.Proofs
open Go.Shelf
shelf_try shelf_lay Lays.n196 Nm 196 at Tryd as Tryd.laysValid
shelf_try open Go.RowKit in
theorem Tryd.utf8_ValidString (s : ByteArray) (w : World) (hs : s.size ≤ 9223372036854775807) (hT : Lib.Utf8Tabs (Tryd.laysValid_ren.g 3) (Tryd.laysValid_ren.g 4) w) :
  Calls Tryd.prog 128 #[.string s] w fun e w' => e = .returned (.bool (Lib.validD s.data.toList)) ∧ Below w.heap.size w w' := Any.utf8_ValidString Tryd.laysValid s w hs hT
shelf_try #print axioms Tryd.utf8_ValidString
shelf_tried
end Go.Proofs
namespace Go.Proofs.YtfcodmdckcihmaaDoor.P
open Go.RowKit Go.Proofs.YtfcodmdckcihmaaDoorW.PrintWords Go.Proofs.YtfcodmdckcihmaaDoorW.PrintLast Go.Proofs.YtfcodmdckcihmaaDoorW.PrintMore
set_option linter.unusedVariables false
set_option linter.unusedSimpArgs false
set_option linter.unnecessarySimpa false
def Tabs (w : World) : Prop := Lib.Utf8Tabs (Tryd.laysValid_ren.g 3) (Tryd.laysValid_ren.g 4) w
def LaidT (w : World) : Prop := Laid w ∧ Tabs w
theorem LaidT.below {w w1 : World} (h : LaidT w) (hb : Below w.heap.size w w1) : LaidT w1 := ⟨h.1.below hb, Utf8Tabs_below h.2 hb⟩
abbrev laid3 : List (String × DataW Unit) := [("paymaster/block.constants", Rows.laid_paymaster_block_constants), ("unicode/utf8.acceptRanges", Rows.laid_unicode_utf8_acceptRanges), ("unicode/utf8.first", Rows.laid_unicode_utf8_first)]
theorem kConst_of_reads {w : World} (h : Lib.VarReads Tryd.prog w "paymaster/block.constants" Rows.laid_paymaster_block_constants) : Laid w := by
 obtain ⟨g, t, cs, fuel, p, hg, ht, hv, htr⟩ := h
 obtain rfl : g = 3 := Option.some.inj (hg.symm.trans kGlobal)
 obtain rfl : t = 254 := Option.some.inj (ht.symm.trans kGlobalType)
 have e : Rows.laid_paymaster_block_constants = Lib.tabData (H := Unit) .u32 kConst := by rfl
 rw [e] at htr
 have hc := Lib.cells_of_tab Tryd.underlying254 Tryd.underlying166 (by kernel_rfl) (by kernel_rfl) htr
 intro i hi
 rw [World.var?_cell kGlobal hv i]
 have hl : i < kConst.length := hi
 rw [← Array.getElem?_toList, hc, List.getElem?_map, List.getElem?_eq_getElem hl]
 simp [List.getD, List.getElem?_eq_getElem hl]
theorem accept_data : Rows.laid_unicode_utf8_acceptRanges = Lib.acceptData := by kernel_rfl
theorem first_data : Rows.laid_unicode_utf8_first = Lib.firstData := by kernel_rfl
theorem laidT_of_met {w : World} (h : laidMetH Tryd.prog laid3 w) : LaidT w := by
 have h : laidMet Tryd.prog laid3 w := h
 refine ⟨kConst_of_reads (Lib.laidMet.reads h (.head _)), ?_⟩
 have h1 := Lib.laidMet.reads h (.tail _ (.head _))
 have h2 := Lib.laidMet.reads h (.tail _ (.tail _ (.head _)))
 rw [accept_data] at h1
 rw [first_data] at h2
 exact utf8Tabs_of_readsT (U8Types.of196 Tryd.laysValid) ⟨by kernel_rfl, by kernel_rfl, by kernel_rfl, by kernel_rfl, by kernel_rfl, by kernel_rfl, by kernel_rfl⟩ h2 h1
noncomputable def laidWorldT (os : Os) : World := World.laidAll Tryd.prog os laid3
theorem laidWorldT_met (os : Os) (args : Array Value) : laidMetH Tryd.prog laid3 ((laidWorldT os).forCall (fun _ _ => 0) ⟨#[], args, []⟩).memory := laidMet_laidAll args (by kernel_rfl) (by kernel_rfl)
end Go.Proofs.YtfcodmdckcihmaaDoor.P
namespace Go.Proofs.YtfcodmdckcihmaaDoor.P
open Go.RowKit Go.Proofs.YtfcodmdckcihmaaDoorW.PrintWords Go.Proofs.YtfcodmdckcihmaaDoorW.PrintLast Go.Proofs.YtfcodmdckcihmaaDoorW.PrintMore
set_option linter.unusedVariables false
set_option linter.unusedSimpArgs false
set_option linter.unnecessarySimpa false
theorem wrap64_id {x : Int} (h0 : -9223372036854775808 ≤ x) (h1 : x ≤ 9223372036854775807) : wrap64 x = x := by unfold wrap64; omega
theorem wrapu64_id {x : Int} (h0 : 0 ≤ x) (h1 : x < 18446744073709551616) : IntKind.u64.wrap x = x := by
 rw [IntKind.wrap_u64]; exact Int.emod_eq_of_lt h0 h1
theorem wf_u64 {n : Int} (h : (Lit.int .u64 n).wf = true) : 0 ≤ n ∧ n < 18446744073709551616 := by
 simp [Lit.wf, IntKind.min, IntKind.max, IntKind.bits, IntKind.signed] at h; omega
theorem Ev.some_ {α : Type} {g : Nat → Option α} {r : α} (h : ∀ k, g k = some r) : Ev g r := ⟨0, fun k _ => h k⟩
theorem ev_eq {α : Type} {g : Nat → Option α} {r r' : α} (h : Ev g r) (e : r = r') : Ev g r' := e ▸ h
theorem any_drop_succ {α : Type} (p : α → Bool) (l : List α) (i : Nat) (h : i < l.length) : (l.drop i).any p = (p l[i] || (l.drop (i + 1)).any p) := by
 rw [List.drop_eq_getElem_cons h, List.any_cons]
end Go.Proofs.YtfcodmdckcihmaaDoor.P
namespace Go.Proofs.YtfcodmdckcihmaaDoor.P
open Go.RowKit Go.Proofs.YtfcodmdckcihmaaDoorW.PrintWords Go.Proofs.YtfcodmdckcihmaaDoorW.PrintLast Go.Proofs.YtfcodmdckcihmaaDoorW.PrintMore
set_option linter.unusedVariables false
set_option linter.unusedSimpArgs false
set_option linter.unnecessarySimpa false
def runeOf (d : Nat × Nat) : Int × Int := if d.1 = 65533 ∧ d.2 = 1 then (0, 0) else ((d.1 : Int), (d.2 : Int))
def runeI (s : ByteArray) (i : Nat) : Int × Int := runeOf (Utf8.decode s i)
theorem get_nat (s : ByteArray) (i : Nat) (h : i < s.size) : s.get! i = s[i]'h := by simp [ByteArray.get!, getElem!_pos, h]; rfl
def contI (s : ByteArray) (i : Nat) : Prop := i < s.size ∧ (s.get! i).toNat / 64 = 2
instance (s : ByteArray) (i : Nat) : Decidable (contI s i) := by unfold contI; infer_instance
theorem valid_nat (c : Nat) : (Utf8.valid (c : Int) = true) ↔ c < 55296 ∨ (57344 ≤ c ∧ c ≤ 1114111) := by
 unfold Utf8.valid; simp; omega
def withinI (c : Int) : Bool := decide (97 ≤ c ∧ c ≤ 122) || (decide (65 ≤ c ∧ c ≤ 90) || (decide (48 ≤ c ∧ c ≤ 57) || (decide (c = 46 ∨ c = 95 ∨ c = 45) || decide (161 ≤ c))))
theorem withinI_iff (c : Int) : withinI c = true ↔ (97 ≤ c ∧ c ≤ 122) ∨ (65 ≤ c ∧ c ≤ 90) ∨ (48 ≤ c ∧ c ≤ 57) ∨ (c = 46 ∨ c = 95 ∨ c = 45) ∨ 161 ≤ c := by
 simp only [withinI, Bool.or_eq_true, decide_eq_true_eq]
theorem withinI_t {c : Int} (h : (97 ≤ c ∧ c ≤ 122) ∨ (65 ≤ c ∧ c ≤ 90) ∨ (48 ≤ c ∧ c ≤ 57) ∨ (c = 46 ∨ c = 95 ∨ c = 45) ∨ 161 ≤ c) : some true = some (withinI c) := by rw [(withinI_iff c).2 h]
theorem withinI_d {c : Int} (h : ¬ ((97 ≤ c ∧ c ≤ 122) ∨ (65 ≤ c ∧ c ≤ 90) ∨ (48 ≤ c ∧ c ≤ 57) ∨ (c = 46 ∨ c = 95 ∨ c = 45))) : some (decide (c ≥ 161)) = some (withinI c) := by
 congr 1
 rw [Bool.eq_iff_iff, decide_eq_true_eq, withinI_iff]; omega
def idFrom (s : ByteArray) : Nat → Nat → Nat → Bool
 | 0, n, _ => decide (1 ≤ n) && decide (n ≤ 24)
 | b + 1, n, i => if i < s.size then (if (runeI s i).2 = 0 then false else if withinI (runeI s i).1 = true then idFrom s b (n + 1) (i + (Utf8.decode s i).2) else false) else decide (1 ≤ n) && decide (n ≤ 24)
def mayIdI (s : ByteArray) : Bool := idFrom s s.size 0 0
theorem decode_4 (s : ByteArray) (i : Nat) : (Utf8.decode s i).2 ≤ 4 := by
 simp only [Utf8.decode]
 repeat' split
 all_goals simp
theorem decode_congr (a b : ByteArray) (i j : Nat) (hg : ∀ k, k < 4 → a.get! (i + k) = b.get! (j + k)) (hs : ∀ k, k < 4 → (i + k < a.size ↔ j + k < b.size)) : Utf8.decode a i = Utf8.decode b j := by
 simp only [Utf8.decode, hg 0 (by decide), hg 1 (by decide), hg 2 (by decide), hg 3 (by decide), decide_eq_decide.2 (hs 1 (by decide)), decide_eq_decide.2 (hs 2 (by decide)), decide_eq_decide.2 (hs 3 (by decide))]
theorem get_list (s : ByteArray) (i : Nat) : s.get! i = s.data.toList.getD i 0 := by
 by_cases h : i < s.size
 ·
  rw [get_nat s i h, List.getD_eq_getElem?_getD, List.getElem?_eq_getElem (by simpa using h)]; rfl
 ·
  rw [List.getD_eq_getElem?_getD, List.getElem?_eq_none (by simpa using h)]
  have h2 : s.data[i]? = none := Array.getElem?_eq_none (Nat.not_lt.1 h)
  simp [ByteArray.get!, getElem!_def, h2]; rfl
theorem decodeL_drop (s : ByteArray) (i : Nat) (hi : i ≤ s.size) : Lib.decodeL (s.data.toList.drop i) = Utf8.decode s i := by
 unfold Lib.decodeL
 refine decode_congr _ _ _ _ (fun k _ => ?_) (fun k _ => ?_)
 ·
  rw [get_list, get_list, List.getD_eq_getElem?_getD, List.getD_eq_getElem?_getD]
  show (s.data.toList.drop i)[0 + k]?.getD 0 = _
  rw [List.getElem?_drop, Nat.zero_add]
 ·
  have e : (⟨(s.data.toList.drop i).toArray⟩ : ByteArray).size = s.size - i := by
   show (s.data.toList.drop i).toArray.size = _
   rw [List.size_toArray, List.length_drop]; rfl
  rw [e]; omega
def validFrom (s : ByteArray) : Nat → Nat → Bool
 | 0, _ => true
 | b + 1, i => if i < s.size then (if (runeI s i).2 = 0 then false else validFrom s b (i + (Utf8.decode s i).2)) else true
theorem validFrom_eq (s : ByteArray) : ∀ b i : Nat, i ≤ s.size + 4 → Lib.validGoD b (s.data.toList.drop i) = validFrom s b i
 | 0, _, _ => rfl
 | b + 1, i, h => by
  unfold Lib.validGoD validFrom
  by_cases hi : i < s.size
  ·
   have hl : i < s.data.toList.length := by simpa using hi
   rw [if_neg (by rw [List.drop_eq_nil_iff]; omega), if_pos hi, decodeL_drop s i (by omega), List.drop_drop]
   have h4 := decode_4 s i
   by_cases hb : (Utf8.decode s i).1 = 65533 ∧ (Utf8.decode s i).2 = 1
   ·
    rw [if_pos hb, if_pos (by unfold runeI runeOf; rw [if_pos hb])]
   ·
    have hw := Lib.decode_width_pos s i hi
    rw [if_neg hb, if_neg (by unfold runeI runeOf; rw [if_neg hb]; dsimp only; omega)]
    by_cases h5 : i + (Utf8.decode s i).2 ≤ s.size + 4
    ·
     exact validFrom_eq s b _ h5
    ·
     omega
  ·
   rw [if_pos (by rw [List.drop_eq_nil_iff]; simp; exact Nat.not_lt.1 hi), if_neg hi]
def allFrom (s : ByteArray) : Nat → Nat → Bool
 | 0, _ => true
 | b + 1, i => if i < s.size then (withinI (Utf8.decode s i).1 && allFrom s b (i + (Utf8.decode s i).2)) else true
theorem allFrom_end (s : ByteArray) (b i : Nat) (h : ¬ i < s.size) : allFrom s b i = true := by
 cases b with
 | zero => rfl
 | succ b => unfold allFrom; rw [if_neg h]
theorem idFrom_eq (s : ByteArray) : ∀ b n i : Nat, s.size ≤ i + b → idFrom s b n i = ((decide (1 ≤ n + Lib.runeCountFrom s b i) && decide (n + Lib.runeCountFrom s b i ≤ 24)) && (validFrom s b i && allFrom s b i))
 | b, n, i, hb => by
  by_cases hi : i < s.size
  ·
   obtain ⟨b, rfl⟩ : ∃ c, b = c + 1 := ⟨b - 1, by omega⟩
   have hw := Lib.decode_width_pos s i hi
   unfold idFrom validFrom allFrom Lib.runeCountFrom
   rw [if_pos hi, if_pos hi, if_pos hi, if_pos hi]
   by_cases h0 : (runeI s i).2 = 0
   ·
    rw [if_pos h0, if_pos h0]; simp
   ·
    rw [if_neg h0, if_neg h0]
    have e1 : (runeI s i).1 = ((Utf8.decode s i).1 : Int) := by
     unfold runeI runeOf at h0 ⊢
     split at h0
     ·
      exact absurd rfl h0
     ·
      rename_i h; rw [if_neg h]
    rw [e1, idFrom_eq s b (n + 1) _ (by omega), show n + 1 + Lib.runeCountFrom s b (i + (Utf8.decode s i).2) = n + (1 + Lib.runeCountFrom s b (i + (Utf8.decode s i).2)) by omega]
    cases withinI ((Utf8.decode s i).1 : Int) <;> simp
  ·
   have e : idFrom s b n i = (decide (1 ≤ n) && decide (n ≤ 24)) := by
    cases b with
    | zero => rfl
    | succ b => unfold idFrom; rw [if_neg hi]
   have e2 : validFrom s b i = true := by
    cases b with
    | zero => rfl
    | succ b => unfold validFrom; rw [if_neg hi]
   rw [e, e2, allFrom_end s b i hi, Lib.runeCountFrom_end s b i hi]; simp
theorem mayIdI_eq (s : ByteArray) : mayIdI s = ((decide (1 ≤ Lib.runeCount s) && decide (Lib.runeCount s ≤ 24)) && (Lib.validD s.data.toList && allFrom s s.size 0)) := by
 unfold mayIdI Lib.runeCount Lib.validD
 rw [idFrom_eq s s.size 0 0 (by omega), Nat.zero_add]
 have := validFrom_eq s s.size 0 (by omega)
 rw [List.drop_zero] at this
 rw [show s.data.toList.length = s.size by simp, this]
end Go.Proofs.YtfcodmdckcihmaaDoor.P
namespace Go.Proofs.YtfcodmdckcihmaaDoor.P
open Go.RowKit Go.Proofs.YtfcodmdckcihmaaDoorW.PrintWords Go.Proofs.YtfcodmdckcihmaaDoorW.PrintLast Go.Proofs.YtfcodmdckcihmaaDoorW.PrintMore
set_option linter.unusedVariables false
set_option linter.unusedSimpArgs false
set_option linter.unnecessarySimpa false
theorem tagWithin_eq (c : Int) (hv : Utf8.valid c = true) : tag_within.f c = some (withinI c) := by
 have e : strings_ContainsRune.f (⟨#[46, 95, 45]⟩ : ByteArray) c = some (dotI c) := by unfold strings_ContainsRune.f; rw [if_pos ⟨rfl, hv⟩]
 have hd : dotI c = true ↔ (c = 46 ∨ c = 95 ∨ c = 45) := by simp only [dotI, decide_eq_true_eq]
 unfold tag_within.f
 simp only [e, Option.bind_some]
 repeat' split
 all_goals first | exact withinI_t (by omega) | (rename_i h; rw [hd] at h; first | exact withinI_t (by omega) | exact withinI_d (by omega))
theorem decode_valid (s : ByteArray) (i : Nat) (hi : i < s.size) : Utf8.valid ((Utf8.decode s i).1 : Int) = true := by
 obtain ⟨B, hB⟩ : ∃ B, (s.get! i).toNat = B := ⟨_, rfl⟩
 have hb : B < 256 := by rw [← hB]; exact (s.get! i).toNat_lt
 have h1 := (s.get! (i + 1)).toNat_lt
 have h2 := (s.get! (i + 2)).toNat_lt
 rw [valid_nat]
 simp only [Utf8.decode, Nat.add_zero, hB, valid_nat, Utf8.runeError, Bool.and_eq_true, decide_eq_true_eq, beq_iff_eq]
 repeat' split
 all_goals (try dsimp only)
 all_goals omega
theorem iterPos_at {w : World} {k : Nat} {s : ByteArray} {p : Nat} (h : w.heap[k]? = some (.stringIter s p)) : w.iterPos k = p := by unfold World.iterPos; rw [h]
set_option maxRecDepth 100000 in
set_option maxHeartbeats 1000000 in
theorem mayId.calls (s : ByteArray) (hs : s.size ≤ 1000000) (w : World) (hK : LaidT w) : Calls Tryd.prog 94 #[.string s] w fun e w' => e = .returned (.bool (mayIdI s)) ∧ Below w.heap.size w w' := by
 have HK := aM' hK
 have HS := aM' hs
 have HE := aM' (mayIdI_eq s)
 clear hK hs
 have hrc : (Lib.runeCount s : Int) ≤ 1000000 := by have := Lib.runeCount_le s; have := HS.out; omega
 have hr0 : (0 : Int) ≤ (Lib.runeCount s : Int) := by omega
 obtain ⟨n, hn⟩ : ∃ n, Lib.runeCount s = n := ⟨_, rfl⟩
 rw [hn] at hrc hr0
 go_enter Tryd.func94, Tryd.ntmps94
 go_wp2_with fail
 refine (Tryd.utf8_RuneCountInString s _ (by have := HS.out; omega)).mono ?_
 rw [hn]
 have HN := aM' hn
 clear hn
 rintro e w1 ⟨rfl, pos, hw1⟩
 have HB := aM' (show Below w.heap.size w w1 by rw [hw1]; exact below_iter w _ _)
 clear hw1
 by_cases h1 : 1 ≤ n
 ·
  by_cases h2 : n ≤ 24
  ·
   have b1 : decide ((n : Int) < 1) = false := decide_eq_false (by omega)
   have b2 : decide ((24 : Int) < (n : Int)) = false := decide_eq_false (by omega)
   go_wp2_with fail
   refine (Tryd.utf8_ValidString s _ (by have := HS.out; omega) (HK.out.below HB.out).2).mono ?_
   rintro e w2 ⟨rfl, hb⟩
   have HB2 := aM' (HB.out.trans (hb.mono HB.out.size))
   clear hb
   cases hv : Lib.validD s.data.toList with
   | false =>
    have HV := aM' hv
    clear hv
    go_wp2
    go_ret
    exact ⟨by rw [HE.out, HV.out]; simp, HB2.out⟩
   | true =>
    have HV := aM' hv
    clear hv
    go_wp2
    clear hrc hr0 b1 b2
    go_loopw [] (fun wr => ∃ pos fuel : Nat, Aside0 (wr.heap[w2.heap.size]? = some (.stringIter s pos)) ∧ Aside0 (Below w2.heap.size w2 wr) ∧ Aside0 (allFrom s fuel pos = allFrom s s.size 0) ∧ s.size ≤ pos + fuel) (fun wr => s.size - wr.iterPos w2.heap.size)
    case atStart => exact ⟨0, s.size, ⟨World.iter_heap w2 s 0⟩, ⟨below_iter w2 s 0⟩, ⟨rfl⟩, by omega⟩
    case round =>
     obtain ⟨pos, fuel, HIT, HBW, HA, hf⟩ := hrel
     by_cases hp : pos < s.size
     ·
      have hnx : ∀ ty, (Instr.next (.pointer (some ⟨w2.heap.size, 0, none⟩)) true ty).run Tryd.prog wr = _ := fun ty => Lib.run_next_any_at wr w2.heap.size s pos ty HIT.out hp
      have hwd := Lib.decode_width_pos s pos hp
      obtain ⟨fuel, rfl⟩ : ∃ f', fuel = f' + 1 := ⟨fuel - 1, by omega⟩
      have HP0 := aM' (iterPos_at HIT.out)
      have HIT2 := aM' (Lib.iterAt_heap wr w2.heap.size s pos (pos + (Utf8.decode s pos).2) HIT.out)
      have HBW2 := aM' (Lib.below_iterAt HBW.out (k := w2.heap.size) (Nat.le_refl _) s (pos + (Utf8.decode s pos).2))
      obtain ⟨W1, hW1⟩ : ∃ W1, W1 = wr.iterAt w2.heap.size s (pos + (Utf8.decode s pos).2) := ⟨_, rfl⟩
      rw [← hW1] at hnx HIT2 HBW2
      have HWI := aM' (tagWithin_eq ((Utf8.decode s pos).1 : Int) (decode_valid s pos hp))
      have HA2 := aM' (show (withinI ((Utf8.decode s pos).1 : Int) && allFrom s fuel (pos + (Utf8.decode s pos).2)) = allFrom s s.size 0 by rw [← HA.out]; conv => rhs; unfold allFrom; rw [if_pos hp])
      clear hW1 HIT HBW HA
      go_wp2_with fail
      refine (tag_within.calls _ (withinI ((Utf8.decode s pos).1 : Int)) _ HWI.out).mono ?_
      rintro e w3 ⟨rfl, hb⟩
      have HIT3 := aM' (blk_below HIT2.out hb)
      have HBW3 := aM' (HBW2.out.trans (hb.mono HBW2.out.size))
      have HP3 := aM' (iterPos_at HIT3.out)
      clear hb
      cases hw : withinI ((Utf8.decode s pos).1 : Int) with
      | true =>
       have HWT := aM' hw
       clear hw
       go_wp2
       go_roundw
       case rel => exact ⟨_, fuel, HIT3, HBW3, ⟨by rw [← HA2.out, HWT.out, Bool.true_and]⟩, by omega⟩
       case measure => rw [HP3.out, HP0.out]; omega
      | false =>
       have HWT := aM' hw
       clear hw
       go_wp2
       go_ret
       exact ⟨by rw [HE.out, ← HA2.out, HWT.out]; simp, HB2.out.trans (HBW3.out.mono HB2.out.size)⟩
     ·
      have hnx : ∀ ty, (Instr.next (.pointer (some ⟨w2.heap.size, 0, none⟩)) true ty).run Tryd.prog wr = _ := fun ty => Lib.run_next_end_at wr w2.heap.size s pos ty HIT.out hp
      have HE2 := aM' (show allFrom s s.size 0 = true by rw [← HA.out]; exact allFrom_end s fuel pos hp)
      go_wp2
      go_ret
      exact ⟨by rw [HE.out, HN.out, HV.out, HE2.out, decide_eq_true h1, decide_eq_true h2]; rfl, HB2.out.trans (HBW.out.mono HB2.out.size)⟩
  ·
   have b1 : decide ((n : Int) < 1) = false := decide_eq_false (by omega)
   have b2 : decide ((24 : Int) < (n : Int)) = true := decide_eq_true (by omega)
   go_wp2
   go_ret
   exact ⟨by rw [HE.out, HN.out, decide_eq_false h2]; simp, HB.out⟩
 ·
  have b1 : decide ((n : Int) < 1) = true := decide_eq_true (by omega)
  go_wp2
  go_ret
  exact ⟨by rw [HE.out, HN.out, decide_eq_false h1]; simp, HB.out⟩
def tag_MayId.f (s : ByteArray) : Option Bool := if s.size ≤ 1000000 then some (mayIdI s) else none
theorem tag_MayId.calls (s : ByteArray) (b : Bool) (w : World) (hK : LaidT w) (h : tag_MayId.f s = some b) :
  Calls Tryd.prog 94 #[.string s] w fun e w' => e = .returned (.bool b) ∧ Below w.heap.size w w' := by
 unfold tag_MayId.f at h
 split at h
 ·
  rename_i hh
  obtain rfl := Option.some.inj h
  exact mayId.calls s hh w hK
 ·
  cases h
end Go.Proofs.YtfcodmdckcihmaaDoor.P
namespace Go.Proofs.YtfcodmdckcihmaaDoor.P
open Go.RowKit Go.Proofs.YtfcodmdckcihmaaDoorW.PrintWords Go.Proofs.YtfcodmdckcihmaaDoorW.PrintLast Go.Proofs.YtfcodmdckcihmaaDoorW.PrintMore
attribute [local go_sem] max2_int min2_int max_two min_two max_three min_three max_four min_four-- for this text's walks alone
set_option linter.unusedVariables false
set_option linter.unusedSimpArgs false
attribute [local go_sem high] eqAU128
def tag_MayLeaf.f (a0_0 : Bool) (a0_1 : ByteArray) (a0_2 : ByteArray) (a0_3 : Int) (a0_4 : Int) : Option (Bool) := if (a0_2.size : Int) > 32 then (some false) else (if a0_0 = true then (if a0_1.toList = ([] : List UInt8) then (some (a0_3 == 0 && (a0_4 == 0))) else (some false)) else ((tag_MayId.f a0_1).bind fun t107 => (some t107)))
set_option maxHeartbeats 8000000 in
set_option maxRecDepth 100000 in
theorem tag_MayLeaf.calls (a0_0 : Bool) (a0_1 : ByteArray) (a0_2 : ByteArray) (a0_3 : Int) (a0_4 : Int) (r : Bool) (w : World) (hK : LaidT w) (h : tag_MayLeaf.f a0_0 a0_1 a0_2 a0_3 a0_4 = some r) :
  Calls Tryd.prog 56 #[.agg #[.bool a0_0, .string a0_1, .string a0_2, .int .u64 a0_3, .int .u64 a0_4]] w fun e w' => e = .returned (.bool r) ∧ Below w.heap.size w w' := by
 have hu36 := Tryd.underlying36
 have hu34 := Tryd.underlying34
 have HB := aM' (Below.refl w.heap.size w)
 have HLD := aM' hK
 clear hK
 have H : (if (a0_2.size : Int) > 32 then (some false) else (if a0_0 = true then (if a0_1.toList = ([] : List UInt8) then (some (a0_3 == 0 && (a0_4 == 0))) else (some false)) else ((tag_MayId.f a0_1).bind fun t107 => (some t107)))) = some r := h
 clear h
 by_cases c2 : (a0_2.size : Int) > 32
 ·
  rw [if_pos c2] at H
  have c2b0 : decide (32 < (a0_2.size : Int)) = true := decide_eq_true c2
  have c2b1 : decide (32 < a0_2.size) = true := decide_eq_true (by omega)
  clear c2
  obtain rfl := Option.some.inj H
  go_enter Tryd.func56, Tryd.ntmps56
  go_wp2_with (first | ((with_reducible refine gate_dst (N := 1) rfl ?_); refine box_event ?hg (N := 1) ?hd (cs := #[.bool a0_0, .string a0_1, .string a0_2, .int .u64 a0_3, .int .u64 a0_4]) (t := 36) ?hr ?_; (case hd => rfl); (case hg => rfl); (case hr => first | (go_simp; done) | (go_simp; rfl)); intro gb106 hg w3 hbox hb; have n0_ := aM' (below_step (by repeat (first | (with_reducible first | exact HB.out | apply below_alloc | apply pw_below_drewN | apply below_drew1) | exact HB.out)) hb); have n1_ := aM' (hbox); have n2_ := aM' ((by rw [hg]; exact (below_size (by repeat (first | (with_reducible first | exact HB.out | apply below_alloc | apply pw_below_drewN | apply below_drew1) | exact HB.out))) : w.heap.size ≤ gb106)); have n3_ := aM' ((by rw [hg]; exact (below_size (by repeat (first | (with_reducible first | exact HB.out | apply below_alloc | apply pw_below_drewN | apply below_drew1) | exact HB.out))) : w.heap.size ≤ gb106)); clear HB; have HB := n0_; have BK106 := n1_; have GW106 := n2_; have GE106 := n3_; clear n0_ n1_ n2_ n3_; clear hb hbox hg; have hcz4_0 : w3.cell? ⟨gb106, 0, none⟩ = some (.bool a0_0) := (blk_cell BK106.out 0).trans rfl; have hcz4_1 : w3.cell? ⟨gb106, 1, none⟩ = some (.string a0_1) := (blk_cell BK106.out 1).trans rfl; have hcz4_2 : w3.cell? ⟨gb106, 2, none⟩ = some (.string a0_2) := (blk_cell BK106.out 2).trans rfl; have hcz4_3 : w3.cell? ⟨gb106, 3, none⟩ = some (.int .u64 a0_3) := (blk_cell BK106.out 3).trans rfl; have hcz4_4 : w3.cell? ⟨gb106, 4, none⟩ = some (.int .u64 a0_4) := (blk_cell BK106.out 4).trans rfl; have hfz4_0 := blk_frozen BK106.out 0; have hfz4_1 := blk_frozen BK106.out 1; have hfz4_2 := blk_frozen BK106.out 2; have hfz4_3 := blk_frozen BK106.out 3; have hfz4_4 := blk_frozen BK106.out 4))
  go_ret
  exact ⟨by first | rfl | (simp [errW_none, errW_some] <;> rfl) | (simp [*, errW_none, errW_some] <;> rfl), by repeat (first | (with_reducible first | exact HB.out | apply below_alloc | apply pw_below_drewN | apply below_drew1 | refine below_set ?_ GE106.out) | exact HB.out)⟩
 ·
  rw [if_neg c2] at H
  have c2b0 : decide (32 < (a0_2.size : Int)) = false := decide_eq_false c2
  have c2b1 : decide (32 < a0_2.size) = false := decide_eq_false (by omega)
  clear c2
  by_cases c5 : a0_0 = true
  ·
   subst c5
   have H1 : (if a0_1.toList = ([] : List UInt8) then (some (a0_3 == 0 && (a0_4 == 0))) else (some false)) = some r := by rw [if_pos rfl] at H; exact H
   clear H
   have H := H1
   clear H1
   by_cases c6 : a0_1.toList = ([] : List UInt8)
   ·
    rw [if_pos c6] at H
    have c6b0 : (a0_1.toList == ([] : List UInt8)) = true := beq_iff_eq.mpr c6
    have c6b1 : (a0_1.toList != ([] : List UInt8)) = false := bne_eq_false_iff_eq.mpr c6
    clear c6
    obtain rfl := Option.some.inj H
    go_enter Tryd.func56, Tryd.ntmps56
    go_wp2_with (first | ((with_reducible refine gate_dst (N := 1) rfl ?_); refine box_event ?hg (N := 1) ?hd (cs := #[.bool true, .string a0_1, .string a0_2, .int .u64 a0_3, .int .u64 a0_4]) (t := 36) ?hr ?_; (case hd => rfl); (case hg => rfl); (case hr => first | (go_simp; done) | (go_simp; rfl)); intro gb106 hg w7 hbox hb; have n0_ := aM' (below_step (by repeat (first | (with_reducible first | exact HB.out | apply below_alloc | apply pw_below_drewN | apply below_drew1) | exact HB.out)) hb); have n1_ := aM' (hbox); have n2_ := aM' ((by rw [hg]; exact (below_size (by repeat (first | (with_reducible first | exact HB.out | apply below_alloc | apply pw_below_drewN | apply below_drew1) | exact HB.out))) : w.heap.size ≤ gb106)); have n3_ := aM' ((by rw [hg]; exact (below_size (by repeat (first | (with_reducible first | exact HB.out | apply below_alloc | apply pw_below_drewN | apply below_drew1) | exact HB.out))) : w.heap.size ≤ gb106)); clear HB; have HB := n0_; have BK106 := n1_; have GW106 := n2_; have GE106 := n3_; clear n0_ n1_ n2_ n3_; clear hb hbox hg; have hcz8_0 : w7.cell? ⟨gb106, 0, none⟩ = some (.bool true) := (blk_cell BK106.out 0).trans rfl; have hcz8_1 : w7.cell? ⟨gb106, 1, none⟩ = some (.string a0_1) := (blk_cell BK106.out 1).trans rfl; have hcz8_2 : w7.cell? ⟨gb106, 2, none⟩ = some (.string a0_2) := (blk_cell BK106.out 2).trans rfl; have hcz8_3 : w7.cell? ⟨gb106, 3, none⟩ = some (.int .u64 a0_3) := (blk_cell BK106.out 3).trans rfl; have hcz8_4 : w7.cell? ⟨gb106, 4, none⟩ = some (.int .u64 a0_4) := (blk_cell BK106.out 4).trans rfl; have hfz8_0 := blk_frozen BK106.out 0; have hfz8_1 := blk_frozen BK106.out 1; have hfz8_2 := blk_frozen BK106.out 2; have hfz8_3 := blk_frozen BK106.out 3; have hfz8_4 := blk_frozen BK106.out 4))
    go_ret
    exact ⟨by first | rfl | (simp [errW_none, errW_some] <;> rfl) | (simp [*, errW_none, errW_some] <;> rfl), by repeat (first | (with_reducible first | exact HB.out | apply below_alloc | apply pw_below_drewN | apply below_drew1 | refine below_set ?_ GE106.out) | exact HB.out)⟩
   ·
    rw [if_neg c6] at H
    have c6b0 : (a0_1.toList == ([] : List UInt8)) = false := beq_eq_false_iff_ne.mpr c6
    have c6b1 : (a0_1.toList != ([] : List UInt8)) = true := bne_iff_ne.mpr c6
    obtain rfl := Option.some.inj H
    go_enter Tryd.func56, Tryd.ntmps56
    go_wp2_with (first | ((with_reducible refine gate_dst (N := 1) rfl ?_); refine box_event ?hg (N := 1) ?hd (cs := #[.bool true, .string a0_1, .string a0_2, .int .u64 a0_3, .int .u64 a0_4]) (t := 36) ?hr ?_; (case hd => rfl); (case hg => rfl); (case hr => first | (go_simp; done) | (go_simp; rfl)); intro gb106 hg w9 hbox hb; have n0_ := aM' (below_step (by repeat (first | (with_reducible first | exact HB.out | apply below_alloc | apply pw_below_drewN | apply below_drew1) | exact HB.out)) hb); have n1_ := aM' (hbox); have n2_ := aM' ((by rw [hg]; exact (below_size (by repeat (first | (with_reducible first | exact HB.out | apply below_alloc | apply pw_below_drewN | apply below_drew1) | exact HB.out))) : w.heap.size ≤ gb106)); have n3_ := aM' ((by rw [hg]; exact (below_size (by repeat (first | (with_reducible first | exact HB.out | apply below_alloc | apply pw_below_drewN | apply below_drew1) | exact HB.out))) : w.heap.size ≤ gb106)); clear HB; have HB := n0_; have BK106 := n1_; have GW106 := n2_; have GE106 := n3_; clear n0_ n1_ n2_ n3_; clear hb hbox hg; have hcz10_0 : w9.cell? ⟨gb106, 0, none⟩ = some (.bool true) := (blk_cell BK106.out 0).trans rfl; have hcz10_1 : w9.cell? ⟨gb106, 1, none⟩ = some (.string a0_1) := (blk_cell BK106.out 1).trans rfl; have hcz10_2 : w9.cell? ⟨gb106, 2, none⟩ = some (.string a0_2) := (blk_cell BK106.out 2).trans rfl; have hcz10_3 : w9.cell? ⟨gb106, 3, none⟩ = some (.int .u64 a0_3) := (blk_cell BK106.out 3).trans rfl; have hcz10_4 : w9.cell? ⟨gb106, 4, none⟩ = some (.int .u64 a0_4) := (blk_cell BK106.out 4).trans rfl; have hfz10_0 := blk_frozen BK106.out 0; have hfz10_1 := blk_frozen BK106.out 1; have hfz10_2 := blk_frozen BK106.out 2; have hfz10_3 := blk_frozen BK106.out 3; have hfz10_4 := blk_frozen BK106.out 4))
    go_ret
    exact ⟨by first | rfl | (simp [errW_none, errW_some] <;> rfl) | (simp [*, errW_none, errW_some] <;> rfl), by repeat (first | (with_reducible first | exact HB.out | apply below_alloc | apply pw_below_drewN | apply below_drew1 | refine below_set ?_ GE106.out) | exact HB.out)⟩
  ·
   replace c5 := Bool.eq_false_iff.mpr c5
   subst c5
   have H1 : ((tag_MayId.f a0_1).bind fun t107 => (some t107)) = some r := by rw [if_neg (show ¬ (false = true) by decide)] at H; exact H
   clear H
   have H := H1
   clear H1
   replace H := Option.bind_eq_some_iff.mp H
   obtain ⟨t107, A110, H⟩ := H
   replace H : (some t107) = some r := H
   have A11 := aM' A110
   clear A110
   obtain rfl := Option.some.inj H
   go_enter Tryd.func56, Tryd.ntmps56
   go_wp2_with (first | ((with_reducible refine gate_dst (N := 1) rfl ?_); refine box_event ?hg (N := 1) ?hd (cs := #[.bool false, .string a0_1, .string a0_2, .int .u64 a0_3, .int .u64 a0_4]) (t := 36) ?hr ?_; (case hd => rfl); (case hg => rfl); (case hr => first | (go_simp; done) | (go_simp; rfl)); intro gb106 hg w12 hbox hb; have n0_ := aM' (below_step (by repeat (first | (with_reducible first | exact HB.out | apply below_alloc | apply pw_below_drewN | apply below_drew1) | exact HB.out)) hb); have n1_ := aM' (hbox); have n2_ := aM' ((by rw [hg]; exact (below_size (by repeat (first | (with_reducible first | exact HB.out | apply below_alloc | apply pw_below_drewN | apply below_drew1) | exact HB.out))) : w.heap.size ≤ gb106)); have n3_ := aM' ((by rw [hg]; exact (below_size (by repeat (first | (with_reducible first | exact HB.out | apply below_alloc | apply pw_below_drewN | apply below_drew1) | exact HB.out))) : w.heap.size ≤ gb106)); clear HB; have HB := n0_; have BK106 := n1_; have GW106 := n2_; have GE106 := n3_; clear n0_ n1_ n2_ n3_; clear hb hbox hg; have hcz13_0 : w12.cell? ⟨gb106, 0, none⟩ = some (.bool false) := (blk_cell BK106.out 0).trans rfl; have hcz13_1 : w12.cell? ⟨gb106, 1, none⟩ = some (.string a0_1) := (blk_cell BK106.out 1).trans rfl; have hcz13_2 : w12.cell? ⟨gb106, 2, none⟩ = some (.string a0_2) := (blk_cell BK106.out 2).trans rfl; have hcz13_3 : w12.cell? ⟨gb106, 3, none⟩ = some (.int .u64 a0_3) := (blk_cell BK106.out 3).trans rfl; have hcz13_4 : w12.cell? ⟨gb106, 4, none⟩ = some (.int .u64 a0_4) := (blk_cell BK106.out 4).trans rfl; have hfz13_0 := blk_frozen BK106.out 0; have hfz13_1 := blk_frozen BK106.out 1; have hfz13_2 := blk_frozen BK106.out 2; have hfz13_3 := blk_frozen BK106.out 3; have hfz13_4 := blk_frozen BK106.out 4) | ((with_reducible refine gate_callee (f := 94) rfl ?_); refine goesL_ (some 20) rfl rfl Tryd.func94 (by kernel_rfl) rfl #[.string a0_1] rfl (by (try simp only [List.map_toArray, List.map_cons, List.map_nil]); first | done | rfl | (simp only [List.length_drop, List.length_take]; rfl)) ?_; (with_reducible refine (tag_MayId.calls a0_1 t107 _ ?side1 A11.out).mono ?_); (case side1 => exact LaidT.below HLD.out (by repeat (first | (with_reducible first | exact HB.out | apply below_alloc | apply pw_below_drewN | apply below_drew1 | refine below_set ?_ GE106.out) | exact HB.out))); rintro e w14 ⟨rfl, hb⟩; refine ⟨_, rfl, ?_⟩; have n0_ := aM' (blk_below (g := gb106) (o := .cells #[.bool false, .string a0_1, .string a0_2, .int .u64 a0_3, .int .u64 a0_4] 36 (0, 0)) (by (with_reducible repeat (first | refine blk_drewN ?_ _ | refine blk_drew ?_ | refine blk_alloc ?_ _)); exact BK106.out) hb); have n1_ := aM' (below_step (by repeat (first | (with_reducible first | exact HB.out | apply below_alloc | apply pw_below_drewN | apply below_drew1 | refine below_set ?_ GE106.out) | exact HB.out)) hb); clear BK106; clear HB; have BK106 := n0_; have HB := n1_; clear n0_ n1_; (try clear hb); (try clear hb2); (try clear hk); (try clear hi)))
   go_ret
   exact ⟨by first | rfl | (simp [errW_none, errW_some] <;> rfl) | (simp [*, errW_none, errW_some] <;> rfl), by repeat (first | (with_reducible first | exact HB.out | apply below_alloc | apply pw_below_drewN | apply below_drew1 | refine below_set ?_ GE106.out) | exact HB.out)⟩
end Go.Proofs.YtfcodmdckcihmaaDoor.P
namespace Go.Proofs.YtfcodmdckcihmaaDoor.P
open Go.RowKit Go.Proofs.YtfcodmdckcihmaaDoorW.PrintWords Go.Proofs.YtfcodmdckcihmaaDoorW.PrintLast Go.Proofs.YtfcodmdckcihmaaDoorW.PrintMore
attribute [local go_sem] max2_int min2_int max_two min_two max_three min_three max_four min_four-- for this text's walks alone
set_option linter.unusedVariables false
set_option linter.unusedSimpArgs false
def tag_sized.f (a0 : ByteArray) : Option (ByteArray) := (some (([((a0.size : Int)) % 256] : List Int) : List Int)).bind fun y101 => (if (strOfNums y101).size + a0.size ≤ 9223372036854775807 then (some ((strOfNums y101) ++ a0)) else (none))
set_option maxHeartbeats 8000000 in
set_option maxRecDepth 100000 in
theorem tag_sized.calls (a0 : ByteArray) (r : ByteArray) (w : World) (h : tag_sized.f a0 = some r) :
  Calls Tryd.prog 69 #[.string a0] w fun e w' => e = .returned (.string r) ∧ Below w.heap.size w w' := by
 have HB := aM' (Below.refl w.heap.size w)
 have H : ((some (([((a0.size : Int)) % 256] : List Int) : List Int)).bind fun y101 => (if (strOfNums y101).size + a0.size ≤ 9223372036854775807 then (some ((strOfNums y101) ++ a0)) else (none))) = some r := h
 clear h
 obtain ⟨y101, hy101⟩ : ∃ y_ : List Int, y_ = (([((a0.size : Int)) % 256] : List Int)) := ⟨_, rfl⟩
 replace H : (if (strOfNums y101).size + a0.size ≤ 9223372036854775807 then (some ((strOfNums y101) ++ a0)) else (none)) = some r := by first | (rw [hy101]; with_reducible exact H) | (have H2_ := (Option.bind_some _ _).symm.trans H; rw [hy101]; with_reducible exact H2_) | (have H2_ := (Option.bind_some _ _).symm.trans H; with_reducible exact H2_) | with_reducible exact H | (rw [hy101]; exact H) | exact H
 have Ny101 := aM' hy101
 clear hy101
 by_cases c2 : (strOfNums y101).size + a0.size ≤ 9223372036854775807
 ·
  rw [if_pos c2] at H
  have c2b0 := eq_true c2
  have c2b1 : decide ((strOfNums y101).size + a0.size ≤ 9223372036854775807) = true := decide_eq_true c2
  try have c2b2 : (9223372036854775807 < (strOfNums y101).size + a0.size) = False := eq_false (Nat.not_lt.2 c2)
  try (have c2b9 := c2; simp only [ByteArray.size_append, ba_size, List.length_cons, List.length_nil, Nat.zero_add, Nat.reduceAdd] at c2b9; have c2b8 := eq_false (Nat.not_lt.2 c2b9))
  obtain rfl := Option.some.inj H
  go_enter Tryd.func69, Tryd.ntmps69
  go_wp2_with (first | ((with_reducible refine gate_dst (N := 6) rfl ?_); refine Kd.R_lit (Kd.int .u8) _ 5 ?hg (N := 6) ?hd (xs := ([((a0.size : Int)) % 256] : List Int)) (inner := [.int .u8 (((a0.size : Int)) % 256)]) (ok := fun _ => True) (okp := fun _ => True) ?hr ?hp (fun _ hk => hk) trivial (Below.refl _ _) (Nat.le_refl _) (by simp) ?_; (case hd => rfl); (case hg => rfl); (case hr => first | (go_simp; done) | (go_simp; rfl)); (case hp => exact (Reps.one (show Kd.M (Kd.int .u8) _ _ _ (((a0.size : Int)) % 256) [.int .u8 (((a0.size : Int)) % 256)] from rfl) (Reps.none _ _))); intro v102 w3 ho4 hb hg_ hnew_; clear hg_ hnew_; (first | rw [← Ny101.out] at ho4 | (simp only [Int.reduceToNat] at ho4; rw [← Ny101.out] at ho4)); have n0_ := aM' (Kd.R_lower ho4 (below_size (by repeat (first | (with_reducible first | exact HB.out | apply below_alloc | apply pw_below_drewN | apply below_drew1) | exact HB.out)))); have n1_ := aM' (below_step (by repeat (first | (with_reducible first | exact HB.out | apply below_alloc | apply pw_below_drewN | apply below_drew1) | exact HB.out)) hb); clear HB; have HO103 := n0_; have HB := n1_; clear n0_ n1_; clear hb ho4; have hcv5 := own_string (P := Tryd.prog) Tryd.underlying125 Tryd.underlying5 Tryd.underlying9 (Kd.own_of_R HO103.out)))
  go_ret
  exact ⟨by first | rfl | (simp [errW_none, errW_some] <;> rfl) | (simp [*, errW_none, errW_some] <;> rfl), by repeat (first | (with_reducible first | exact HB.out | apply below_alloc | apply pw_below_drewN | apply below_drew1) | exact HB.out)⟩
 ·
  rw [if_neg c2] at H
  exact absurd H (by simp)
end Go.Proofs.YtfcodmdckcihmaaDoor.P
namespace Go.Proofs.YtfcodmdckcihmaaDoor.P
open Go.RowKit Go.Proofs.YtfcodmdckcihmaaDoorW.PrintWords Go.Proofs.YtfcodmdckcihmaaDoorW.PrintLast Go.Proofs.YtfcodmdckcihmaaDoorW.PrintMore
attribute [local go_sem] max2_int min2_int max_two min_two max_three min_three max_four min_four-- for this text's walks alone
set_option linter.unusedVariables false
set_option linter.unusedSimpArgs false
def paymasterref01_Bytes.l0 : Nat → List Int → List Int → Int → Option (ByteArray)
 | 0, _, _, _ => none
 | k + 1, x3, x4, x5 => if x5 ≥ 0 then (if 0 ≤ x5 then (if x5 < (x3.length : Int) then ((some (([(IntKind.u64.wrap (Int.tdiv (rd x3 x5) 256)) % 256, (Int.tmod (rd x3 x5) 256) % 256] : List Int) : List Int)).bind fun y125 => (if x4.length + y125.length < 140737488355328 then (paymasterref01_Bytes.l0 k x3 (x4 ++ y125) (wrap64 (x5 - 1))) else (none))) else (none)) else (none)) else (some (strOfNums x4))
def paymasterref01_Bytes.f (k : Nat) (a0_0 : Int) (a0_1 : Int) : Option (ByteArray) := (paymasterref01_digits.f k a0_0 a0_1).bind fun t120 => (paymasterref01_Bytes.l0 k t120 ([] : List Int) 7)
def paymasterref01_Bytes.T6 : Bool × List (List Nat × List Nat) := (true, [([], []), ([], []), ([], []), ([1, 2], [1, 2]), ([3], [3]), ([4], [4]), ([5], [5]), ([], []), ([], []), ([7, 8], [7, 8]), ([9], [9]), ([10], [10]), ([11], [11]), ([6, 12], [6, 12]), ([0, 13], [0, 13]), ([14, 14, 0, 1, 2, 3, 4, 5, 6, 7, 8, 9, 10, 11, 12, 13, 14], [0, 14])])
def paymasterref01_Bytes.B6 : List Nat := [0, 0, 0, 6, 14, 30, 62, 0, 0, 384, 896, 1920, 3968, 8190, 16383, 32767]
theorem paymasterref01_Bytes.tab6 : rtab .any (opsOf Tryd.f159 6) = paymasterref01_Bytes.T6 := by kernel_rfl
theorem paymasterref01_Bytes.bits6 : waitsOk paymasterref01_Bytes.T6.2 paymasterref01_Bytes.B6 = true := by kernel_rfl
set_option maxHeartbeats 8000000 in
set_option maxRecDepth 100000 in
theorem paymasterref01_Bytes.calls (k : Nat) (a0_0 : Int) (a0_1 : Int) (r : ByteArray) (w : World) (h : paymasterref01_Bytes.f k a0_0 a0_1 = some r) :
  Calls Tryd.prog 159 #[.agg #[.int .u64 a0_0, .int .u64 a0_1]] w fun e w' => e = .returned (.string r) ∧ Below w.heap.size w w' := by
 have hu34 := Tryd.underlying34
 have HB := aM' (Below.refl w.heap.size w)
 have H : ((paymasterref01_digits.f k a0_0 a0_1).bind fun t120 => (paymasterref01_Bytes.l0 k t120 ([] : List Int) 7)) = some r := h
 clear h
 replace H := Option.bind_eq_some_iff.mp H
 obtain ⟨t120, A20, H⟩ := H
 replace H : (paymasterref01_Bytes.l0 k t120 ([] : List Int) 7) = some r := H
 have A2 := aM' A20
 clear A20
 have H' := aM' H
 clear H
 go_enter Tryd.func159, Tryd.ntmps159
 go_wp2_with (first | ((with_reducible refine gate_dst (N := 1) rfl ?_); refine box_event ?hg (N := 1) ?hd (cs := #[.int .u64 a0_0, .int .u64 a0_1]) (t := 34) ?hr ?_; (case hd => rfl); (case hg => rfl); (case hr => first | (go_simp; done) | (go_simp; rfl)); intro gb119 hg w3 hbox hb; have n0_ := aM' (below_step (by repeat (first | (with_reducible first | exact HB.out | apply below_alloc | apply pw_below_drewN | apply below_drew1) | exact HB.out)) hb); have n1_ := aM' (hbox); have n2_ := aM' ((by rw [hg]; exact (below_size (by repeat (first | (with_reducible first | exact HB.out | apply below_alloc | apply pw_below_drewN | apply below_drew1) | exact HB.out))) : w.heap.size ≤ gb119)); have n3_ := aM' ((by rw [hg]; exact (below_size (by repeat (first | (with_reducible first | exact HB.out | apply below_alloc | apply pw_below_drewN | apply below_drew1) | exact HB.out))) : w.heap.size ≤ gb119)); clear HB; have HB := n0_; have BK119 := n1_; have GW119 := n2_; have GE119 := n3_; clear n0_ n1_ n2_ n3_; clear hb hbox hg; have hcz4_0 : w3.cell? ⟨gb119, 0, none⟩ = some (.int .u64 a0_0) := (blk_cell BK119.out 0).trans rfl; have hcz4_1 : w3.cell? ⟨gb119, 1, none⟩ = some (.int .u64 a0_1) := (blk_cell BK119.out 1).trans rfl; have hfz4_0 := blk_frozen BK119.out 0; have hfz4_1 := blk_frozen BK119.out 1) | ((with_reducible refine gate_callee (f := 154) rfl ?_); refine goesL_ (some 7) rfl rfl Tryd.func154 (by kernel_rfl) rfl #[.agg #[.int .u64 a0_0, .int .u64 a0_1]] rfl (by (try simp only [List.map_toArray, List.map_cons, List.map_nil]); first | done | rfl | (simp only [List.length_drop, List.length_take]; rfl)) ?_; (with_reducible refine (paymasterref01_digits.calls k a0_0 a0_1 t120 _ A2.out).mono ?_); rintro e w5 ⟨v121, rfl, ho0, hb⟩; refine ⟨_, rfl, ?_⟩; have n0_ := aM' (Kd.R_lower ho0 (below_size (by repeat (first | (with_reducible first | exact HB.out | apply below_alloc | apply pw_below_drewN | apply below_drew1 | refine below_set ?_ GE119.out) | exact HB.out)))); have n1_ := aM' (blk_below (g := gb119) (o := .cells #[.int .u64 a0_0, .int .u64 a0_1] 34 (0, 0)) (by (with_reducible repeat (first | refine blk_drewN ?_ _ | refine blk_drew ?_ | refine blk_alloc ?_ _)); exact BK119.out) hb); have n2_ := aM' (below_step (by repeat (first | (with_reducible first | exact HB.out | apply below_alloc | apply pw_below_drewN | apply below_drew1 | refine below_set ?_ GE119.out) | exact HB.out)) hb); clear BK119; clear HB; have HO122 := n0_; have BK119 := n1_; have HB := n2_; clear n0_ n1_ n2_; (try clear hb); (try clear hb2); (try clear hk); (try clear hi); (try clear ho0)))
 go_loopg [4, 5] k (fun kq v4 v5 w' => ∃ (x4_1 : List Int) (x5_1 : Int), v5 = .int .i64 x5_1 ∧ Aside0 (paymasterref01_Bytes.l0 kq t120 x4_1 x5_1 = some r) ∧ Aside0 (kq ≤ k) ∧ Aside0 (Kd.R (Kd.int .u64) 23 w' w.heap.size (fun _ => True) v121 t120) ∧ Aside0 (Kd.R (Kd.int .u8) 5 w' w.heap.size (fun _ => True) v4 x4_1) ∧ Aside0 (w'.heap[gb119]? = some (.cells #[.int .u64 a0_0, .int .u64 a0_1] 34 (0, 0))) ∧ Aside0 (Below w.heap.size w w'))
 case atStart => exact ⟨(([] : List Int)), (7), (by first | rfl | (simp; done) | (simp [*]; done)), H', ⟨Nat.le_refl _⟩, ⟨by (with_reducible repeat (first | apply Kd.R_alloc | apply Kd.R_drewN | apply Kd.R_drew)); exact HO122.out⟩, ⟨by first | exact Kd.R_nil _ _ _ _ _ | exact Kd.N_nil _ _ _ _ _ | exact Kd.V_nil _ _ _ _ _ | exact Kd.Q_nil _ _ _ _ _ | exact Kd.S_nil _ _ _ _ _⟩, ⟨by (with_reducible repeat (first | refine blk_drewN ?_ _ | refine blk_drew ?_ | refine blk_alloc ?_ _)); exact BK119.out⟩, ⟨by repeat (first | (with_reducible first | exact HB.out | apply below_alloc | apply pw_below_drewN | apply below_drew1 | refine below_set ?_ GE119.out) | exact HB.out)⟩⟩
 case round =>
  clear H'
  try clear c1
  try clear p2
  try clear hcz4_0
  try clear hcz4_1
  try clear hfz4_0
  try clear hfz4_1
  obtain ⟨x4_1, x5_1, rfl, HA, HK1, HO_3, HO_4, BK119, HB⟩ := hrel
  cases gk with
  | zero => exact absurd HA.out (by simp [paymasterref01_Bytes.l0])
  | succ k1 =>
   have H := HA.out
   clear HA
   simp only [paymasterref01_Bytes.l0] at H
   by_cases c6 : x5_1 ≥ 0
   ·
    rw [if_pos c6] at H
    have c6b0 : decide (0 ≤ x5_1) = true := decide_eq_true c6
    clear c6
    by_cases c7 : 0 ≤ x5_1
    ·
     rw [if_pos c7] at H
     have c7b0 : decide (0 ≤ x5_1) = true := decide_eq_true c7
     clear c7
     by_cases c8 : x5_1 < (t120.length : Int)
     ·
      rw [if_pos c8] at H
      have c8b0 : decide (x5_1 < (t120.length : Int)) = true := decide_eq_true c8
      clear c8
      obtain ⟨y125, hy125⟩ : ∃ y_ : List Int, y_ = (([(IntKind.u64.wrap (Int.tdiv (rd t120 x5_1) 256)) % 256, (Int.tmod (rd t120 x5_1) 256) % 256] : List Int)) := ⟨_, rfl⟩
      replace H : (if x4_1.length + y125.length < 140737488355328 then (paymasterref01_Bytes.l0 k1 t120 (x4_1 ++ y125) (wrap64 (x5_1 - 1))) else (none)) = some r := by first | (rw [hy125]; with_reducible exact H) | (have H2_ := (Option.bind_some _ _).symm.trans H; rw [hy125]; with_reducible exact H2_) | (have H2_ := (Option.bind_some _ _).symm.trans H; with_reducible exact H2_) | with_reducible exact H | (rw [hy125]; exact H) | exact H
      have Ny125 := aM' hy125
      clear hy125
      by_cases c9 : x4_1.length + y125.length < 140737488355328
      ·
       rw [if_pos c9] at H
       have LMc9 := aM' c9
       clear c9
       obtain ⟨y128, hy128⟩ : ∃ y_ : List Int, y_ = (x4_1 ++ y125) := ⟨_, rfl⟩
       replace H : (paymasterref01_Bytes.l0 k1 t120 y128 (wrap64 (x5_1 - 1))) = some r := by first | (rw [hy128]; with_reducible exact H) | (have H2_ := (Option.bind_some _ _).symm.trans H; rw [hy128]; with_reducible exact H2_) | (have H2_ := (Option.bind_some _ _).symm.trans H; with_reducible exact H2_) | with_reducible exact H | (rw [hy128]; exact H) | exact H
       have Ny128 := aM' hy128
       clear hy128
       have H' := aM' H
       clear H
       try go_wp2
       have n0_ := aM' (Kd.R_drew HO_3.out)
       have n1_ := aM' (Kd.R_drew HO_4.out)
       have n2_ := aM' (blk_drew BK119.out)
       have n3_ := aM' (below_drew1 HB.out)
       clear HO_3
       clear HO_4
       clear BK119
       clear HB
       have HO_3 := n0_
       have HO_4 := n1_
       have BK119 := n2_
       have HB := n3_
       clear n0_ n1_ n2_ n3_
       obtain ⟨Ao11, co11, eo11⟩ := Kd.R_slice HO_3.out
       (first | subst eo11 | (injection eo11 with f1_ f2_ f3_; have f4_ := f1_.symm; have f5_ := f3_.symm; clear f1_ f2_ f3_; subst f4_; subst f5_))
       have p123 : 0 ≤ (x5_1 : Int) := of_decide_eq_true (by first | (with_reducible assumption) | assumption)
       have q123 : x5_1 < (t120.length : Int) := of_decide_eq_true (by first | (with_reducible assumption) | assumption)
       obtain ⟨ad123, e123, hx123_0⟩ := Kd.at_int (Kd.R_reads' HO_3.out).2.2 x5_1 p123 q123
       cases e123
       replace p123 := eq_true p123
       replace q123 := eq_true q123
       have p124 : 0 ≤ (x5_1 : Int) := of_decide_eq_true (by first | (with_reducible assumption) | assumption)
       have q124 : x5_1 < (t120.length : Int) := of_decide_eq_true (by first | (with_reducible assumption) | assumption)
       obtain ⟨ad124, e124, hx124_0⟩ := Kd.at_int (Kd.R_reads' HO_3.out).2.2 x5_1 p124 q124
       obtain rfl : ad123 = ad124 := (by injection e124)
       replace p124 := eq_true p124
       replace q124 := eq_true q124
       refine start_ (n := 16) (S := fun w' => w'.cell? (ad123.add (x5_1).toNat) = some (.int .u64 (rd t120 x5_1)) ∧ w'.cell? (ad123.add (x5_1).toNat) = some (.int .u64 (rd t120 x5_1))) (ds := [14]) #[false, false, false, false, false, false, false, false, false, false, false, false, false, false, false, false] (by kernel_rfl) rfl rfl ⟨hx123_0, hx124_0⟩ (fun hHeld => ?_); refine with_tabW paymasterref01_Bytes.tab6 paymasterref01_Bytes.bits6 (fun HT_ HW_ => ?_)
       generalize wr.drew = w10 at HO_3 HO_4 BK119 HB hx123_0 hx124_0 hHeld ⊢
       refine pure_ (i := 0) (N := some 12) (v := ?_) (a' := ?_) #[true, false, false, false, false, false, false, false, false, false, false, false, false, false, false, false] rfl rfl (any_of HT_.out (by kernel_rfl)) (fun _ _ _ h => h) (Or.inl ⟨by rfl, ?_⟩) ?_ ?_
       rotate_left
       ·
        intro w'
        go_simp
        with_reducible rfl
       rotate_left
       ·
        simp only [Act.put, List.setIfInBounds_toArray, List.set_cons_zero, List.set_cons_succ, i64_w, i32_w]
        rfl
       refine pure_ (i := 1) (N := some 13) (v := ?_) (a' := ?_) #[true, true, false, false, false, false, false, false, false, false, false, false, false, false, false, false] rfl rfl (any_of HT_.out (by kernel_rfl)) (fun _ _ _ h => h) (Or.inl ⟨by rfl, ?_⟩) ?_ ?_
       rotate_left
       ·
        intro w'
        go_simp
        with_reducible rfl
       rotate_left
       ·
        simp only [Act.put, List.setIfInBounds_toArray, List.set_cons_zero, List.set_cons_succ, i64_w, i32_w]
        rfl
       refine pure_ (i := 2) (N := some 14) (v := ?_) (a' := ?_) #[true, true, true, false, false, false, false, false, false, false, false, false, false, false, false, false] rfl rfl (any_of HT_.out (by kernel_rfl)) (fun _ _ _ h => h) (Or.inl ⟨by rfl, ?_⟩) ?_ ?_
       rotate_left
       ·
        intro w'
        go_simp
        with_reducible rfl
       rotate_left
       ·
        simp only [Act.put, List.setIfInBounds_toArray, List.set_cons_zero, List.set_cons_succ, i64_w, i32_w]
        rfl
       refine pure_ (i := 3) (N := some 15) (v := ?_) (a' := ?_) #[true, true, true, true, false, false, false, false, false, false, false, false, false, false, false, false] rfl rfl (any_of HT_.out (by kernel_rfl)) (fun _ _ _ h => h) (Or.inl ⟨by rfl, ?_⟩) ?_ ?_
       rotate_left
       ·
        intro w'
        go_simp
        with_reducible rfl
       rotate_left
       ·
        simp only [Act.put, List.setIfInBounds_toArray, List.set_cons_zero, List.set_cons_succ, i64_w, i32_w]
        rfl
       refine pure_ (i := 7) (N := some 19) (v := ?_) (a' := ?_) #[true, true, true, true, false, false, false, true, false, false, false, false, false, false, false, false] rfl rfl (any_of HT_.out (by kernel_rfl)) (fun _ _ _ h => h) (Or.inl ⟨by rfl, ?_⟩) ?_ ?_
       rotate_left
       ·
        intro w'
        go_simp
        with_reducible rfl
       rotate_left
       ·
        simp only [Act.put, List.setIfInBounds_toArray, List.set_cons_zero, List.set_cons_succ, i64_w, i32_w]
        rfl
       refine pure_ (i := 8) (N := some 20) (v := ?_) (a' := ?_) #[true, true, true, true, false, false, false, true, true, false, false, false, false, false, false, false] rfl rfl (any_of HT_.out (by kernel_rfl)) (fun _ _ _ h => h) (Or.inl ⟨by rfl, ?_⟩) ?_ ?_
       rotate_left
       ·
        intro w'
        go_simp
        with_reducible rfl
       rotate_left
       ·
        simp only [Act.put, List.setIfInBounds_toArray, List.set_cons_zero, List.set_cons_succ, i64_w, i32_w]
        rfl
       refine pure_ (i := 9) (N := some 21) (v := ?_) (a' := ?_) #[true, true, true, true, false, false, false, true, true, true, false, false, false, false, false, false] rfl rfl (any_of HT_.out (by kernel_rfl)) (fun _ _ _ h => h) (Or.inl ⟨by rfl, ?_⟩) ?_ ?_
       rotate_left
       ·
        intro w'
        go_simp
        with_reducible rfl
       rotate_left
       ·
        simp only [Act.put, List.setIfInBounds_toArray, List.set_cons_zero, List.set_cons_succ, i64_w, i32_w]
        rfl
       refine take_ (i := 4) (N := some 16) (v := ?_) (a' := ?_) #[true, true, true, true, true, false, false, true, true, true, false, false, false, false, false, false] rfl rfl (take_ofW HT_.out HW_.out (by kernel_rfl)) (fun _ _ _ h => h) (Or.inl ⟨by rfl, ?_⟩) hHeld ?_ ?_
       rotate_left
       ·
        rintro w' ⟨s0, s1⟩
        go_simp
        with_reducible rfl
       rotate_left
       ·
        simp only [Act.put, List.setIfInBounds_toArray, List.set_cons_zero, List.set_cons_succ, i64_w, i32_w]
        rfl
       refine pure_ (i := 5) (N := some 17) (v := ?_) (a' := ?_) #[true, true, true, true, true, true, false, true, true, true, false, false, false, false, false, false] rfl rfl (any_of HT_.out (by kernel_rfl)) (fun _ _ _ h => h) (Or.inl ⟨by rfl, ?_⟩) ?_ ?_
       rotate_left
       ·
        intro w'
        go_simp
        with_reducible rfl
       rotate_left
       ·
        simp only [Act.put, List.setIfInBounds_toArray, List.set_cons_zero, List.set_cons_succ, i64_w, i32_w]
        rfl
       refine pure_ (i := 6) (N := some 18) (v := ?_) (a' := ?_) #[true, true, true, true, true, true, true, true, true, true, false, false, false, false, false, false] rfl rfl (any_of HT_.out (by kernel_rfl)) (fun _ _ _ h => h) (Or.inl ⟨by rfl, ?_⟩) ?_ ?_
       rotate_left
       ·
        intro w'
        go_simp
        with_reducible rfl
       rotate_left
       ·
        simp only [Act.put, List.setIfInBounds_toArray, List.set_cons_zero, List.set_cons_succ, i64_w, i32_w]
        rfl
       refine take_ (i := 10) (N := some 22) (v := ?_) (a' := ?_) #[true, true, true, true, true, true, true, true, true, true, true, false, false, false, false, false] rfl rfl (take_ofW HT_.out HW_.out (by kernel_rfl)) (fun _ _ _ h => h) (Or.inl ⟨by rfl, ?_⟩) hHeld ?_ ?_
       rotate_left
       ·
        rintro w' ⟨s0, s1⟩
        go_simp
        with_reducible rfl
       rotate_left
       ·
        simp only [Act.put, List.setIfInBounds_toArray, List.set_cons_zero, List.set_cons_succ, i64_w, i32_w]
        rfl
       refine pure_ (i := 11) (N := some 23) (v := ?_) (a' := ?_) #[true, true, true, true, true, true, true, true, true, true, true, true, false, false, false, false] rfl rfl (any_of HT_.out (by kernel_rfl)) (fun _ _ _ h => h) (Or.inl ⟨by rfl, ?_⟩) ?_ ?_
       rotate_left
       ·
        intro w'
        go_simp
        with_reducible rfl
       rotate_left
       ·
        simp only [Act.put, List.setIfInBounds_toArray, List.set_cons_zero, List.set_cons_succ, i64_w, i32_w]
        rfl
       refine pure_ (i := 12) (N := some 24) (v := ?_) (a' := ?_) #[true, true, true, true, true, true, true, true, true, true, true, true, true, false, false, false] rfl rfl (any_of HT_.out (by kernel_rfl)) (fun _ _ _ h => h) (Or.inl ⟨by rfl, ?_⟩) ?_ ?_
       rotate_left
       ·
        intro w'
        go_simp
        with_reducible rfl
       rotate_left
       ·
        simp only [Act.put, List.setIfInBounds_toArray, List.set_cons_zero, List.set_cons_succ, i64_w, i32_w]
        rfl
       refine one_ (i := 13) (N := some 25) #[true, true, true, true, true, true, true, true, true, true, true, true, true, true, false, false] rfl rfl (one_of HT_.out (by kernel_rfl)) (by decide) (fun K hK => ?_)
       refine Kd.R_lit_step (Kd.int .u8) _ 5 ?hg (N := 25) ?hd (xs := ([(IntKind.u64.wrap (Int.tdiv (rd t120 x5_1) 256)) % 256, (Int.tmod (rd t120 x5_1) 256) % 256] : List Int)) (inner := [.int .u8 ((IntKind.u64.wrap (Int.tdiv (rd t120 x5_1) 256)) % 256), .int .u8 ((Int.tmod (rd t120 x5_1) 256) % 256)]) (ok := fun _ => True) (okp := fun _ => True) ?hr ?hp (fun _ hk => hk) trivial (Below.refl _ _) (Nat.le_refl _) (by simp) ?_; (case hd => rfl); (case hg => rfl); (case hr => first | (go_simp; done) | (go_simp; rfl)); (case hp => exact (Reps.one (show Kd.M (Kd.int .u8) _ _ _ ((IntKind.u64.wrap (Int.tdiv (rd t120 x5_1) 256)) % 256) [.int .u8 ((IntKind.u64.wrap (Int.tdiv (rd t120 x5_1) 256)) % 256)] from rfl) (Reps.one (show Kd.M (Kd.int .u8) _ _ _ ((Int.tmod (rd t120 x5_1) 256) % 256) [.int .u8 ((Int.tmod (rd t120 x5_1) 256) % 256)] from rfl) (Reps.none _ _))))
       intro v126 w12 ho13 hb hg_ hnew_
       have HS0_ := (hb.cell (bL' _ _ (hHeld.1))).trans (hHeld.1)
       have HS1_ := (hb.cell (bL' _ _ (hHeld.2))).trans (hHeld.2)
       clear hg_ hnew_
       (first | rw [← Ny125.out] at ho13 | (simp only [Int.reduceToNat] at ho13; rw [← Ny125.out] at ho13))
       have n0_ := aM' (Kd.R_below (by (with_reducible repeat (first | apply Kd.R_alloc | apply Kd.R_drewN | apply Kd.R_drew)); exact HO_3.out) hb)
       have n1_ := aM' (Kd.R_elder' (by (with_reducible repeat (first | apply Kd.R_alloc | apply Kd.R_drewN | apply Kd.R_drew)); exact HO_4.out) (Kd.R_base ho13) hb)
       have n2_ := aM' (Kd.R_lower (Kd.R_new' ho13 (Kd.R_lt (by (with_reducible repeat (first | apply Kd.R_alloc | apply Kd.R_drewN | apply Kd.R_drew)); exact HO_4.out))) (below_size (by repeat (first | (with_reducible first | exact HB.out | apply below_alloc | apply pw_below_drewN | apply below_drew1 | refine below_set ?_ GE119.out) | exact HB.out))))
       have n3_ := aM' (blk_below (g := gb119) (o := .cells #[.int .u64 a0_0, .int .u64 a0_1] 34 (0, 0)) (by (with_reducible repeat (first | refine blk_drewN ?_ _ | refine blk_drew ?_ | refine blk_alloc ?_ _)); exact BK119.out) hb)
       have n4_ := aM' (below_step (by repeat (first | (with_reducible first | exact HB.out | apply below_alloc | apply pw_below_drewN | apply below_drew1 | refine below_set ?_ GE119.out) | exact HB.out)) hb)
       clear HO_3
       clear HO_4
       clear BK119
       clear HB
       have HO_3 := n0_
       have HO_4 := n1_
       have HO127 := n2_
       have BK119 := n3_
       have HB := n4_
       clear n0_ n1_ n2_ n3_ n4_
       clear hb ho13
       obtain ⟨Ao15, co15, eo15⟩ := Kd.R_slice HO127.out
       (first | subst eo15 | (injection eo15 with f1_ f2_ f3_; have f4_ := f1_.symm; have f5_ := f3_.symm; clear f1_ f2_ f3_; subst f4_; subst f5_))
       refine hK.out _ _ ⟨HS0_, HS1_⟩ (fun hHeld => ?_)
       clear hK K
       refine norm_ (a' := ?_) ?_ ?_
       rotate_left
       ·
        show Act.put _ (some 25) _ = _
        simp only [Act.put, List.setIfInBounds_toArray, List.set_cons_zero, List.set_cons_succ, i64_w, i32_w]
        rfl
       refine last_ (i := 14) (N := some 26) #[true, true, true, true, true, true, true, true, true, true, true, true, true, true, true, false] rfl rfl (one_of HT_.out (by kernel_rfl)) (by decide) (fun K hK => ?_)
       refine Kd.R_append_rows_step (Kd.int .u8) (w0 := w) w.heap.size (by rfl) (.tmp 12) (.tmp 25) 125 5 (.int .u8 0) 1 rfl Tryd.underlying125 info5 rfl (by decide) (by omega) u4 x4_1 y125 _ _ _ (fun k_ => some k_ ≠ (.slice Ao15 y125.length co15 : Value).ownBlock) (fun _ => False) rfl rfl ?aO ?aR (fun _ _ h => h) (fun _ h => h.elim) ?aF ?aB ?aS ?aL ?_
       (case aR => repeat (first | exact (Kd.R_reads' HO127.out).2.2 | (with_reducible refine Kd.C_alloc ?_ _) | (with_reducible refine Kd.C_drewN ?_ _) | (with_reducible refine Kd.C_drew ?_)))
       (case aB => exact (by repeat (first | (with_reducible first | exact HB.out | apply below_alloc | apply pw_below_drewN | apply below_drew1 | refine below_set ?_ GE119.out) | exact HB.out)))
       (case aF => exact (fun k_ hk => Kd.fresh' (Kd.R_lt (by (with_reducible repeat (first | apply Kd.R_alloc | apply Kd.R_drewN | apply Kd.R_drew)); exact HO127.out)) k_ hk))
       (case aO => exact (by (with_reducible repeat (first | apply Kd.R_alloc | apply Kd.R_drewN | apply Kd.R_drew)); exact Kd.R_mono HO_4.out (fun _ hk => hk.2)))
       (case aS => exact (below_size (by repeat (first | (with_reducible first | exact HB.out | apply below_alloc | apply pw_below_drewN | apply below_drew1 | refine below_set ?_ GE119.out) | exact HB.out))))
       (case aL => have := LMc9.out; omega)
       intro v129 w14 ho hb hg hat
       rw [← Ny128.out] at ho
       have n0_ := aM' (Kd.R_over' (by (with_reducible repeat (first | apply Kd.R_alloc | apply Kd.R_drewN | apply Kd.R_drew)); exact HO_3.out) (Kd.R_typed (by (with_reducible repeat (first | apply Kd.R_alloc | apply Kd.R_drewN | apply Kd.R_drew)); exact HO_4.out)) (by decide) hg)
       have n1_ := aM' (blk_grown (g := gb119) (o := .cells #[.int .u64 a0_0, .int .u64 a0_1] 34 (0, 0)) (by (with_reducible repeat (first | refine blk_drewN ?_ _ | refine blk_drew ?_ | refine blk_alloc ?_ _)); exact BK119.out) hg (Kd.R_ne HO_4.out BK119.out (by decide)))
       have n2_ := aM' (Kd.R_after (ok := (fun _ => True)) (by (with_reducible repeat (first | apply Kd.R_alloc | apply Kd.R_drewN | apply Kd.R_drew)); exact HO127.out) hg hat)
       have n3_ := aM' (hb)
       have n4_ := aM' (ho)
       clear HO_3
       clear BK119
       clear HO127
       clear HB
       clear HO_4
       have HO_3 := n0_
       have BK119 := n1_
       have HO127 := n2_
       have HB := n3_
       have HO130 := n4_
       clear n0_ n1_ n2_ n3_ n4_
       clear ho hb hg hat
       refine hK.out _ _ ?_
       clear hK K
       refine norm_ (a' := ?_) ?_ ?_
       rotate_left
       ·
        show Act.put _ (some 26) _ = _
        simp only [Act.put, List.setIfInBounds_toArray, List.set_cons_zero, List.set_cons_succ, i64_w, i32_w]
        rfl
       refine pure_ (i := 15) (N := some 4) (v := ?_) (a' := ?_) #[true, true, true, true, true, true, true, true, true, true, true, true, true, true, true, true] rfl rfl (any_of HT_.out (by kernel_rfl)) (fun _ _ _ h => h) (Or.inl ⟨by rfl, ?_⟩) ?_ ?_
       rotate_left
       ·
        intro w'
        go_simp
        with_reducible rfl
       rotate_left
       ·
        simp only [Act.put, List.setIfInBounds_toArray, List.set_cons_zero, List.set_cons_succ, i64_w, i32_w]
        rfl
       refine done_ (done_of HT_.out (by kernel_rfl)) ?_
       try go_wp2
       go_roundg k1
       case measure => have := HK1.out; omega
       case rel => exact ⟨(y128), (wrap64 (x5_1 - 1)), (by first | rfl | (simp; done) | (simp [*]; done)), H', ⟨by have := HK1.out; omega⟩, ⟨by (with_reducible repeat (first | apply Kd.R_alloc | apply Kd.R_drewN | apply Kd.R_drew)); exact HO_3.out⟩, ⟨by (with_reducible repeat (first | apply Kd.R_alloc | apply Kd.R_drewN | apply Kd.R_drew)); exact Kd.R_mono HO130.out (fun _ hk => trivial)⟩, ⟨by (with_reducible repeat (first | refine blk_drewN ?_ _ | refine blk_drew ?_ | refine blk_alloc ?_ _)); exact BK119.out⟩, ⟨by repeat (first | (with_reducible first | exact HB.out | apply below_alloc | apply pw_below_drewN | apply below_drew1 | refine below_set ?_ GE119.out) | exact HB.out)⟩⟩
      ·
       rw [if_neg c9] at H
       exact absurd H (by simp)
     ·
      rw [if_neg c8] at H
      exact absurd H (by simp)
    ·
     rw [if_neg c7] at H
     exact absurd H (by simp)
   ·
    rw [if_neg c6] at H
    have c6b0 : decide (0 ≤ x5_1) = false := decide_eq_false c6
    clear c6
    obtain rfl := Option.some.inj H
    have hcv16 := own_string (P := Tryd.prog) Tryd.underlying125 Tryd.underlying5 Tryd.underlying9 (Kd.own_of_R HO_4.out)
    go_wp2
    go_ret
    exact ⟨by first | rfl | (simp [errW_none, errW_some] <;> rfl) | (simp [*, errW_none, errW_some] <;> rfl), by repeat (first | (with_reducible first | exact HB.out | apply below_alloc | apply pw_below_drewN | apply below_drew1 | refine below_set ?_ GE119.out) | exact HB.out)⟩
def paymasterref07_NodeText.f (k : Nat) (a0_0 : ByteArray) (a0_1 : Int) (a0_2 : Int) (a1_0 : ByteArray) (a1_1 : Int) (a1_2 : Int) : Option (ByteArray) := if 1 + a0_0.size ≤ 9223372036854775807 then ((paymasterref01_Bytes.f k a0_1 a0_2).bind fun t133 => (if ((⟨#[1]⟩ : ByteArray) ++ a0_0).size + t133.size ≤ 9223372036854775807 then (if (((⟨#[1]⟩ : ByteArray) ++ a0_0) ++ t133).size + a1_0.size ≤ 9223372036854775807 then ((paymasterref01_Bytes.f k a1_1 a1_2).bind fun t134 => (if ((((⟨#[1]⟩ : ByteArray) ++ a0_0) ++ t133) ++ a1_0).size + t134.size ≤ 9223372036854775807 then (some (((((⟨#[1]⟩ : ByteArray) ++ a0_0) ++ t133) ++ a1_0) ++ t134)) else (none))) else (none)) else (none))) else (none)
def paymasterref07_NodeText.T1 : Bool × List (List Nat × List Nat) := (true, [([], []), ([0], [0]), ([1], [1]), ([], []), ([3], [3]), ([4], [4]), ([2, 5], [2, 5]), ([], []), ([7], [7]), ([6, 8], [6, 8]), ([], []), ([10], [10]), ([11, 5], [11]), ([9, 12], [9, 12]), ([13, 12, 0, 1, 2, 3, 4, 5, 6, 7, 8, 9, 10, 11, 12, 13], [13])])
def paymasterref07_NodeText.B1 : List Nat := [0, 1, 3, 0, 8, 24, 63, 0, 128, 511, 0, 1024, 3128, 8191, 16383]
theorem paymasterref07_NodeText.tab1 : rtab .any (opsOf Tryd.f133 1) = paymasterref07_NodeText.T1 := by kernel_rfl
theorem paymasterref07_NodeText.bits1 : waitsOk paymasterref07_NodeText.T1.2 paymasterref07_NodeText.B1 = true := by kernel_rfl
set_option maxHeartbeats 8000000 in
set_option maxRecDepth 100000 in
theorem paymasterref07_NodeText.calls (k : Nat) (a0_0 : ByteArray) (a0_1 : Int) (a0_2 : Int) (a1_0 : ByteArray) (a1_1 : Int) (a1_2 : Int) (r : ByteArray) (w : World) (h : paymasterref07_NodeText.f k a0_0 a0_1 a0_2 a1_0 a1_1 a1_2 = some r) :
  Calls Tryd.prog 133 #[.agg #[.string a0_0, .int .u64 a0_1, .int .u64 a0_2], .agg #[.string a1_0, .int .u64 a1_1, .int .u64 a1_2]] w fun e w' => e = .returned (.string r) ∧ Below w.heap.size w w' := by
 have hu46 := Tryd.underlying46
 have hu34 := Tryd.underlying34
 have HB := aM' (Below.refl w.heap.size w)
 have H : (if 1 + a0_0.size ≤ 9223372036854775807 then ((paymasterref01_Bytes.f k a0_1 a0_2).bind fun t133 => (if ((⟨#[1]⟩ : ByteArray) ++ a0_0).size + t133.size ≤ 9223372036854775807 then (if (((⟨#[1]⟩ : ByteArray) ++ a0_0) ++ t133).size + a1_0.size ≤ 9223372036854775807 then ((paymasterref01_Bytes.f k a1_1 a1_2).bind fun t134 => (if ((((⟨#[1]⟩ : ByteArray) ++ a0_0) ++ t133) ++ a1_0).size + t134.size ≤ 9223372036854775807 then (some (((((⟨#[1]⟩ : ByteArray) ++ a0_0) ++ t133) ++ a1_0) ++ t134)) else (none))) else (none)) else (none))) else (none)) = some r := h
 clear h
 by_cases c3 : 1 + a0_0.size ≤ 9223372036854775807
 ·
  rw [if_pos c3] at H
  have c3b0 := eq_true c3
  have c3b1 : decide (1 + a0_0.size ≤ 9223372036854775807) = true := decide_eq_true c3
  try have c3b2 : (9223372036854775807 < 1 + a0_0.size) = False := eq_false (Nat.not_lt.2 c3)
  try (have c3b9 := c3; simp only [ByteArray.size_append, ba_size, List.length_cons, List.length_nil, Nat.zero_add, Nat.reduceAdd] at c3b9; have c3b8 := eq_false (Nat.not_lt.2 c3b9))
  replace H := Option.bind_eq_some_iff.mp H
  obtain ⟨t133, A40, H⟩ := H
  replace H : (if ((⟨#[1]⟩ : ByteArray) ++ a0_0).size + t133.size ≤ 9223372036854775807 then (if (((⟨#[1]⟩ : ByteArray) ++ a0_0) ++ t133).size + a1_0.size ≤ 9223372036854775807 then ((paymasterref01_Bytes.f k a1_1 a1_2).bind fun t134 => (if ((((⟨#[1]⟩ : ByteArray) ++ a0_0) ++ t133) ++ a1_0).size + t134.size ≤ 9223372036854775807 then (some (((((⟨#[1]⟩ : ByteArray) ++ a0_0) ++ t133) ++ a1_0) ++ t134)) else (none))) else (none)) else (none)) = some r := H
  have A4 := aM' A40
  clear A40
  by_cases c5 : ((⟨#[1]⟩ : ByteArray) ++ a0_0).size + t133.size ≤ 9223372036854775807
  ·
   rw [if_pos c5] at H
   have c5b0 := eq_true c5
   have c5b1 : decide (((⟨#[1]⟩ : ByteArray) ++ a0_0).size + t133.size ≤ 9223372036854775807) = true := decide_eq_true c5
   try have c5b2 : (9223372036854775807 < ((⟨#[1]⟩ : ByteArray) ++ a0_0).size + t133.size) = False := eq_false (Nat.not_lt.2 c5)
   try (have c5b9 := c5; simp only [ByteArray.size_append, ba_size, List.length_cons, List.length_nil, Nat.zero_add, Nat.reduceAdd] at c5b9; have c5b8 := eq_false (Nat.not_lt.2 c5b9))
   by_cases c6 : (((⟨#[1]⟩ : ByteArray) ++ a0_0) ++ t133).size + a1_0.size ≤ 9223372036854775807
   ·
    rw [if_pos c6] at H
    have c6b0 := eq_true c6
    have c6b1 : decide ((((⟨#[1]⟩ : ByteArray) ++ a0_0) ++ t133).size + a1_0.size ≤ 9223372036854775807) = true := decide_eq_true c6
    try have c6b2 : (9223372036854775807 < (((⟨#[1]⟩ : ByteArray) ++ a0_0) ++ t133).size + a1_0.size) = False := eq_false (Nat.not_lt.2 c6)
    try (have c6b9 := c6; simp only [ByteArray.size_append, ba_size, List.length_cons, List.length_nil, Nat.zero_add, Nat.reduceAdd] at c6b9; have c6b8 := eq_false (Nat.not_lt.2 c6b9))
    replace H := Option.bind_eq_some_iff.mp H
    obtain ⟨t134, A70, H⟩ := H
    replace H : (if ((((⟨#[1]⟩ : ByteArray) ++ a0_0) ++ t133) ++ a1_0).size + t134.size ≤ 9223372036854775807 then (some (((((⟨#[1]⟩ : ByteArray) ++ a0_0) ++ t133) ++ a1_0) ++ t134)) else (none)) = some r := H
    have A7 := aM' A70
    clear A70
    by_cases c8 : ((((⟨#[1]⟩ : ByteArray) ++ a0_0) ++ t133) ++ a1_0).size + t134.size ≤ 9223372036854775807
    ·
     rw [if_pos c8] at H
     have c8b0 := eq_true c8
     have c8b1 : decide (((((⟨#[1]⟩ : ByteArray) ++ a0_0) ++ t133) ++ a1_0).size + t134.size ≤ 9223372036854775807) = true := decide_eq_true c8
     try have c8b2 : (9223372036854775807 < ((((⟨#[1]⟩ : ByteArray) ++ a0_0) ++ t133) ++ a1_0).size + t134.size) = False := eq_false (Nat.not_lt.2 c8)
     try (have c8b9 := c8; simp only [ByteArray.size_append, ba_size, List.length_cons, List.length_nil, Nat.zero_add, Nat.reduceAdd] at c8b9; have c8b8 := eq_false (Nat.not_lt.2 c8b9))
     obtain rfl := Option.some.inj H
     go_enter Tryd.func133, Tryd.ntmps133
     try go_wp2_with (first | ((with_reducible refine gate_dst (N := 2) rfl ?_); refine box_event ?hg (N := 2) ?hd (cs := #[.string a0_0, .int .u64 a0_1, .int .u64 a0_2]) (t := 46) ?hr ?_; (case hd => rfl); (case hg => rfl); (case hr => first | (go_simp; done) | (go_simp; rfl)); intro gb131 hg w9 hbox hb; have n0_ := aM' (below_step (by repeat (first | (with_reducible first | exact HB.out | apply below_alloc | apply pw_below_drewN | apply below_drew1) | exact HB.out)) hb); have n1_ := aM' (hbox); have n2_ := aM' ((by rw [hg]; exact (below_size (by repeat (first | (with_reducible first | exact HB.out | apply below_alloc | apply pw_below_drewN | apply below_drew1) | exact HB.out))) : w.heap.size ≤ gb131)); have n3_ := aM' ((by rw [hg]; exact (below_size (by repeat (first | (with_reducible first | exact HB.out | apply below_alloc | apply pw_below_drewN | apply below_drew1) | exact HB.out))) : w.heap.size ≤ gb131)); clear HB; have HB := n0_; have BK131 := n1_; have GW131 := n2_; have GE131 := n3_; clear n0_ n1_ n2_ n3_; clear hb hbox hg) | ((with_reducible refine gate_dst (N := 3) rfl ?_); refine box_event ?hg (N := 3) ?hd (cs := #[.string a1_0, .int .u64 a1_1, .int .u64 a1_2]) (t := 46) ?hr ?_; (case hd => rfl); (case hg => rfl); (case hr => first | (go_simp; done) | (go_simp; rfl)); intro gb132 hg w10 hbox hb; have n0_ := aM' (blk_below (g := gb131) (o := .cells #[.string a0_0, .int .u64 a0_1, .int .u64 a0_2] 46 (0, 0)) (by (with_reducible repeat (first | refine blk_drewN ?_ _ | refine blk_drew ?_ | refine blk_alloc ?_ _)); exact BK131.out) hb); have n1_ := aM' (below_step (by repeat (first | (with_reducible first | exact HB.out | apply below_alloc | apply pw_below_drewN | apply below_drew1 | refine below_set ?_ GE131.out) | exact HB.out)) hb); have n2_ := aM' (hbox); have n3_ := aM' ((by rw [hg]; exact (below_size (by repeat (first | (with_reducible first | exact HB.out | apply below_alloc | apply pw_below_drewN | apply below_drew1 | refine below_set ?_ GE131.out) | exact HB.out))) : w.heap.size ≤ gb132)); have n4_ := aM' ((by rw [hg]; exact (below_size (by repeat (first | (with_reducible first | exact HB.out | apply below_alloc | apply pw_below_drewN | apply below_drew1 | refine below_set ?_ GE131.out) | exact HB.out))) : w.heap.size ≤ gb132)); have n5_ := aM' ((by rw [hg]; exact Nat.ne_of_lt (blk_lt (g := gb131) (o := .cells #[.string a0_0, .int .u64 a0_1, .int .u64 a0_2] 46 (0, 0)) (by (with_reducible repeat (first | refine blk_drewN ?_ _ | refine blk_drew ?_ | refine blk_alloc ?_ _)); exact BK131.out)) : gb131 ≠ gb132)); have n6_ := aM' ((by rw [hg]; exact Nat.ne_of_gt (blk_lt (g := gb131) (o := .cells #[.string a0_0, .int .u64 a0_1, .int .u64 a0_2] 46 (0, 0)) (by (with_reducible repeat (first | refine blk_drewN ?_ _ | refine blk_drew ?_ | refine blk_alloc ?_ _)); exact BK131.out)) : gb132 ≠ gb131)); clear BK131; clear HB; have BK131 := n0_; have HB := n1_; have BK132 := n2_; have GW132 := n3_; have GE132 := n4_; have NB131_132 := n5_; have NB132_131 := n6_; clear n0_ n1_ n2_ n3_ n4_ n5_ n6_; clear hb hbox hg))
     have n0_ := aM' (blk_drew BK131.out)
     have n1_ := aM' (blk_drew BK132.out)
     have n2_ := aM' (below_drew1 HB.out)
     clear BK131
     clear BK132
     clear HB
     have BK131 := n0_
     have BK132 := n1_
     have HB := n2_
     clear n0_ n1_ n2_
     refine start_ (n := 15) (S := fun w' => w'.cell? ⟨gb131, 0, none⟩ = some (.string a0_0) ∧ w'.cell? ⟨gb131, 1, none⟩ = some (.int .u64 a0_1) ∧ w'.cell? ⟨gb131, 2, none⟩ = some (.int .u64 a0_2) ∧ w'.cell? ⟨gb132, 0, none⟩ = some (.string a1_0) ∧ w'.cell? ⟨gb132, 1, none⟩ = some (.int .u64 a1_1) ∧ w'.cell? ⟨gb132, 2, none⟩ = some (.int .u64 a1_2)) (ds := []) #[false, false, false, false, false, false, false, false, false, false, false, false, false, false, false] (by kernel_rfl) rfl rfl ⟨(blk_cell BK131.out 0).trans rfl, (blk_cell BK131.out 1).trans rfl, (blk_cell BK131.out 2).trans rfl, (blk_cell BK132.out 0).trans rfl, (blk_cell BK132.out 1).trans rfl, (blk_cell BK132.out 2).trans rfl⟩ (fun hHeld => ?_); refine with_tabW paymasterref07_NodeText.tab1 paymasterref07_NodeText.bits1 (fun HT_ HW_ => ?_)
     generalize w10.drew = w11 at BK131 BK132 HB hHeld ⊢
     refine pure_ (i := 0) (N := some 5) (v := ?_) (a' := ?_) #[true, false, false, false, false, false, false, false, false, false, false, false, false, false, false] rfl rfl (any_of HT_.out (by kernel_rfl)) (fun _ _ _ h => h) (Or.inl ⟨by rfl, ?_⟩) ?_ ?_
     rotate_left
     ·
      intro w'
      go_simp
      with_reducible rfl
     rotate_left
     ·
      simp only [Act.put, List.setIfInBounds_toArray, List.set_cons_zero, List.set_cons_succ, i64_w, i32_w]
      rfl
     refine pure_ (i := 3) (N := some 8) (v := ?_) (a' := ?_) #[true, false, false, true, false, false, false, false, false, false, false, false, false, false, false] rfl rfl (any_of HT_.out (by kernel_rfl)) (fun _ _ _ h => h) (Or.inl ⟨by rfl, ?_⟩) ?_ ?_
     rotate_left
     ·
      intro w'
      go_simp
      with_reducible rfl
     rotate_left
     ·
      simp only [Act.put, List.setIfInBounds_toArray, List.set_cons_zero, List.set_cons_succ, i64_w, i32_w]
      rfl
     refine pure_ (i := 7) (N := some 12) (v := ?_) (a' := ?_) #[true, false, false, true, false, false, false, true, false, false, false, false, false, false, false] rfl rfl (any_of HT_.out (by kernel_rfl)) (fun _ _ _ h => h) (Or.inl ⟨by rfl, ?_⟩) ?_ ?_
     rotate_left
     ·
      intro w'
      go_simp
      with_reducible rfl
     rotate_left
     ·
      simp only [Act.put, List.setIfInBounds_toArray, List.set_cons_zero, List.set_cons_succ, i64_w, i32_w]
      rfl
     refine pure_ (i := 10) (N := some 15) (v := ?_) (a' := ?_) #[true, false, false, true, false, false, false, true, false, false, true, false, false, false, false] rfl rfl (any_of HT_.out (by kernel_rfl)) (fun _ _ _ h => h) (Or.inl ⟨by rfl, ?_⟩) ?_ ?_
     rotate_left
     ·
      intro w'
      go_simp
      with_reducible rfl
     rotate_left
     ·
      simp only [Act.put, List.setIfInBounds_toArray, List.set_cons_zero, List.set_cons_succ, i64_w, i32_w]
      rfl
     refine take_ (i := 1) (N := some 6) (v := ?_) (a' := ?_) #[true, true, false, true, false, false, false, true, false, false, true, false, false, false, false] rfl rfl (take_ofW HT_.out HW_.out (by kernel_rfl)) (fun _ _ _ h => h) (Or.inl ⟨by rfl, ?_⟩) hHeld ?_ ?_
     rotate_left
     ·
      rintro w' ⟨s0, s1, s2, s3, s4, s5⟩
      go_simp
      with_reducible rfl
     rotate_left
     ·
      simp only [Act.put, List.setIfInBounds_toArray, List.set_cons_zero, List.set_cons_succ, i64_w, i32_w]
      rfl
     refine pure_ (i := 2) (N := some 7) (v := ?_) (a' := ?_) #[true, true, true, true, false, false, false, true, false, false, true, false, false, false, false] rfl rfl (any_of HT_.out (by kernel_rfl)) (fun _ _ _ h => h) (Or.inl ⟨by rfl, ?_⟩) ?_ ?_
     rotate_left
     ·
      intro w'
      go_simp
      with_reducible rfl
     rotate_left
     ·
      simp only [Act.put, List.setIfInBounds_toArray, List.set_cons_zero, List.set_cons_succ, i64_w, i32_w]
      rfl
     refine take_ (i := 4) (N := some 9) (v := ?_) (a' := ?_) #[true, true, true, true, true, false, false, true, false, false, true, false, false, false, false] rfl rfl (take_ofW HT_.out HW_.out (by kernel_rfl)) (fun _ _ _ h => h) (Or.inl ⟨by rfl, ?_⟩) hHeld ?_ ?_
     rotate_left
     ·
      rintro w' ⟨s0, s1, s2, s3, s4, s5⟩
      go_simp
      with_reducible rfl
     rotate_left
     ·
      simp only [Act.put, List.setIfInBounds_toArray, List.set_cons_zero, List.set_cons_succ, i64_w, i32_w]
      rfl
     refine take_ (i := 8) (N := some 13) (v := ?_) (a' := ?_) #[true, true, true, true, true, false, false, true, true, false, true, false, false, false, false] rfl rfl (take_ofW HT_.out HW_.out (by kernel_rfl)) (fun _ _ _ h => h) (Or.inl ⟨by rfl, ?_⟩) hHeld ?_ ?_
     rotate_left
     ·
      rintro w' ⟨s0, s1, s2, s3, s4, s5⟩
      go_simp
      with_reducible rfl
     rotate_left
     ·
      simp only [Act.put, List.setIfInBounds_toArray, List.set_cons_zero, List.set_cons_succ, i64_w, i32_w]
      rfl
     refine take_ (i := 11) (N := some 16) (v := ?_) (a' := ?_) #[true, true, true, true, true, false, false, true, true, false, true, true, false, false, false] rfl rfl (take_ofW HT_.out HW_.out (by kernel_rfl)) (fun _ _ _ h => h) (Or.inl ⟨by rfl, ?_⟩) hHeld ?_ ?_
     rotate_left
     ·
      rintro w' ⟨s0, s1, s2, s3, s4, s5⟩
      go_simp
      with_reducible rfl
     rotate_left
     ·
      simp only [Act.put, List.setIfInBounds_toArray, List.set_cons_zero, List.set_cons_succ, i64_w, i32_w]
      rfl
     refine one_ (i := 5) (N := some 10) #[true, true, true, true, true, true, false, true, true, false, true, true, false, false, false] rfl rfl (one_of HT_.out (by kernel_rfl)) (by decide) (fun K hK => ?_)
     refine goes_ Tryd.func159 (by kernel_rfl) rfl #[.agg #[.int .u64 a0_1, .int .u64 a0_2]] (by rfl) rfl rfl (by (try simp only [List.map_toArray, List.map_cons, List.map_nil]); first | done | rfl | (simp only [List.length_drop, List.length_take]; rfl)) ?_
     with_reducible refine (paymasterref01_Bytes.calls k a0_1 a0_2 t133 _ A4.out).mono ?_
     rintro e w12 ⟨rfl, hb⟩
     refine ⟨_, rfl, ?_⟩
     have n0_ := aM' (blk_below (g := gb131) (o := .cells #[.string a0_0, .int .u64 a0_1, .int .u64 a0_2] 46 (0, 0)) (by (with_reducible repeat (first | refine blk_drewN ?_ _ | refine blk_drew ?_ | refine blk_alloc ?_ _)); exact BK131.out) hb)
     have n1_ := aM' (blk_below (g := gb132) (o := .cells #[.string a1_0, .int .u64 a1_1, .int .u64 a1_2] 46 (0, 0)) (by (with_reducible repeat (first | refine blk_drewN ?_ _ | refine blk_drew ?_ | refine blk_alloc ?_ _)); exact BK132.out) hb)
     have n2_ := aM' (below_step (by repeat (first | (with_reducible first | exact HB.out | apply below_alloc | apply pw_below_drewN | apply below_drew1 | refine below_set ?_ GE131.out | refine below_set ?_ GE132.out) | exact HB.out)) hb)
     clear BK131
     clear BK132
     clear HB
     have BK131 := n0_
     have BK132 := n1_
     have HB := n2_
     clear n0_ n1_ n2_
     (try clear hb)
     (try clear hb2)
     (try clear hk)
     (try clear hi)
     refine hK.out _ _ ⟨(blk_cell BK131.out 0).trans rfl, (blk_cell BK131.out 1).trans rfl, (blk_cell BK131.out 2).trans rfl, (blk_cell BK132.out 0).trans rfl, (blk_cell BK132.out 1).trans rfl, (blk_cell BK132.out 2).trans rfl⟩ (fun hHeld => ?_)
     clear hK K
     refine norm_ (a' := ?_) ?_ ?_
     rotate_left
     ·
      show Act.put _ (some 10) _ = _
      simp only [Act.put, List.setIfInBounds_toArray, List.set_cons_zero, List.set_cons_succ, i64_w, i32_w]
      rfl
     refine pure_ (i := 6) (N := some 11) (v := ?_) (a' := ?_) #[true, true, true, true, true, true, true, true, true, false, true, true, false, false, false] rfl rfl (any_of HT_.out (by kernel_rfl)) (fun _ _ _ h => h) (Or.inl ⟨by rfl, ?_⟩) ?_ ?_
     rotate_left
     ·
      intro w'
      go_simp
      with_reducible rfl
     rotate_left
     ·
      simp only [Act.put, List.setIfInBounds_toArray, List.set_cons_zero, List.set_cons_succ, i64_w, i32_w]
      rfl
     refine pure_ (i := 9) (N := some 14) (v := ?_) (a' := ?_) #[true, true, true, true, true, true, true, true, true, true, true, true, false, false, false] rfl rfl (any_of HT_.out (by kernel_rfl)) (fun _ _ _ h => h) (Or.inl ⟨by rfl, ?_⟩) ?_ ?_
     rotate_left
     ·
      intro w'
      go_simp
      with_reducible rfl
     rotate_left
     ·
      simp only [Act.put, List.setIfInBounds_toArray, List.set_cons_zero, List.set_cons_succ, i64_w, i32_w]
      rfl
     refine one_ (i := 12) (N := some 17) #[true, true, true, true, true, true, true, true, true, true, true, true, true, false, false] rfl rfl (one_of HT_.out (by kernel_rfl)) (by decide) (fun K hK => ?_)
     refine goes_ Tryd.func159 (by kernel_rfl) rfl #[.agg #[.int .u64 a1_1, .int .u64 a1_2]] (by rfl) rfl rfl (by (try simp only [List.map_toArray, List.map_cons, List.map_nil]); first | done | rfl | (simp only [List.length_drop, List.length_take]; rfl)) ?_
     with_reducible refine (paymasterref01_Bytes.calls k a1_1 a1_2 t134 _ A7.out).mono ?_
     rintro e w13 ⟨rfl, hb⟩
     refine ⟨_, rfl, ?_⟩
     have n0_ := aM' (blk_below (g := gb131) (o := .cells #[.string a0_0, .int .u64 a0_1, .int .u64 a0_2] 46 (0, 0)) (by (with_reducible repeat (first | refine blk_drewN ?_ _ | refine blk_drew ?_ | refine blk_alloc ?_ _)); exact BK131.out) hb)
     have n1_ := aM' (blk_below (g := gb132) (o := .cells #[.string a1_0, .int .u64 a1_1, .int .u64 a1_2] 46 (0, 0)) (by (with_reducible repeat (first | refine blk_drewN ?_ _ | refine blk_drew ?_ | refine blk_alloc ?_ _)); exact BK132.out) hb)
     have n2_ := aM' (below_step (by repeat (first | (with_reducible first | exact HB.out | apply below_alloc | apply pw_below_drewN | apply below_drew1 | refine below_set ?_ GE131.out | refine below_set ?_ GE132.out) | exact HB.out)) hb)
     clear BK131
     clear BK132
     clear HB
     have BK131 := n0_
     have BK132 := n1_
     have HB := n2_
     clear n0_ n1_ n2_
     (try clear hb)
     (try clear hb2)
     (try clear hk)
     (try clear hi)
     refine hK.out _ _ ⟨(blk_cell BK131.out 0).trans rfl, (blk_cell BK131.out 1).trans rfl, (blk_cell BK131.out 2).trans rfl, (blk_cell BK132.out 0).trans rfl, (blk_cell BK132.out 1).trans rfl, (blk_cell BK132.out 2).trans rfl⟩ (fun hHeld => ?_)
     clear hK K
     refine norm_ (a' := ?_) ?_ ?_
     rotate_left
     ·
      show Act.put _ (some 17) _ = _
      simp only [Act.put, List.setIfInBounds_toArray, List.set_cons_zero, List.set_cons_succ, i64_w, i32_w]
      rfl
     refine pure_ (i := 13) (N := some 18) (v := ?_) (a' := ?_) #[true, true, true, true, true, true, true, true, true, true, true, true, true, true, false] rfl rfl (any_of HT_.out (by kernel_rfl)) (fun _ _ _ h => h) (Or.inl ⟨by rfl, ?_⟩) ?_ ?_
     rotate_left
     ·
      intro w'
      go_simp
      with_reducible rfl
     rotate_left
     ·
      simp only [Act.put, List.setIfInBounds_toArray, List.set_cons_zero, List.set_cons_succ, i64_w, i32_w]
      rfl
     refine pure_ (i := 14) (N := some 4) (v := ?_) (a' := ?_) #[true, true, true, true, true, true, true, true, true, true, true, true, true, true, true] rfl rfl (any_of HT_.out (by kernel_rfl)) (fun _ _ _ h => h) (Or.inl ⟨by rfl, ?_⟩) ?_ ?_
     rotate_left
     ·
      intro w'
      go_simp
      with_reducible rfl
     rotate_left
     ·
      simp only [Act.put, List.setIfInBounds_toArray, List.set_cons_zero, List.set_cons_succ, i64_w, i32_w]
      rfl
     refine done_ (done_of HT_.out (by kernel_rfl)) ?_
     try go_wp2
     go_ret
     exact ⟨by first | rfl | (simp [errW_none, errW_some] <;> rfl) | (simp [*, errW_none, errW_some] <;> rfl), by repeat (first | (with_reducible first | exact HB.out | apply below_alloc | apply pw_below_drewN | apply below_drew1 | refine below_set ?_ GE131.out | refine below_set ?_ GE132.out) | exact HB.out)⟩
    ·
     rw [if_neg c8] at H
     exact absurd H (by simp)
   ·
    rw [if_neg c6] at H
    exact absurd H (by simp)
  ·
   rw [if_neg c5] at H
   exact absurd H (by simp)
 ·
  rw [if_neg c3] at H
  exact absurd H (by simp)
end Go.Proofs.YtfcodmdckcihmaaDoor.P
namespace Go.Proofs.YtfcodmdckcihmaaDoor.P
open Go.RowKit Go.Proofs.YtfcodmdckcihmaaDoorW.PrintWords Go.Proofs.YtfcodmdckcihmaaDoorW.PrintLast Go.Proofs.YtfcodmdckcihmaaDoorW.PrintMore
attribute [local go_sem] max2_int min2_int max_two min_two max_three min_three max_four min_four-- for this text's walks alone
set_option linter.unusedVariables false
set_option linter.unusedSimpArgs false
mutual
def paymasterref01_number.l0 : Nat → List Int → Int → Int → Int → Option (Int × Int × Bool)
 | 0, _, _, _, _ => none
 | k + 1, x0, x5, x137000, x137001 => if x5 ≥ 0 then (if x5 ≥ 8 then (if 0 ≤ x5 then (if x5 < (x0.length : Int) then (paymasterref01_number.j1 k x0 x5 ((rd x0 x5) != 0) x137000 x137001) else (none)) else (none)) else (paymasterref01_number.j1 k x0 x5 false x137000 x137001)) else (some (x137000, x137001, true))
def paymasterref01_number.j1 : Nat → List Int → Int → Bool → Int → Int → Option (Int × Int × Bool)
 | 0, _, _, _, _, _ => none
 | k + 1, x0, x5, x21, x137000, x137001 => if x21 = true then (some (0, 0, false)) else (if x5 < 8 then (paymasterref01_number.j2 k x0 x5 (decide (x5 ≥ 4)) x137000 x137001) else (paymasterref01_number.j2 k x0 x5 false x137000 x137001))
def paymasterref01_number.j2 : Nat → List Int → Int → Bool → Int → Int → Option (Int × Int × Bool)
 | 0, _, _, _, _, _ => none
 | k + 1, x0, x5, x28, x137000, x137001 => if x28 = true then (if 0 ≤ x5 then (if x5 < (x0.length : Int) then (if x5 < 4 then (paymasterref01_number.l0 k x0 (wrap64 (x5 - 1)) (IntKind.u64.wrap ((IntKind.u64.wrap (x137000 * 65536)) + (rd x0 x5))) (IntKind.u64.wrap ((IntKind.u64.wrap (x137001 * 65536)) + (rd x0 x5)))) else (paymasterref01_number.l0 k x0 (wrap64 (x5 - 1)) (IntKind.u64.wrap ((IntKind.u64.wrap (x137000 * 65536)) + (rd x0 x5))) x137001)) else (none)) else (none)) else (if x5 < 4 then (if 0 ≤ x5 then (if x5 < (x0.length : Int) then (paymasterref01_number.l0 k x0 (wrap64 (x5 - 1)) x137000 (IntKind.u64.wrap ((IntKind.u64.wrap (x137001 * 65536)) + (rd x0 x5)))) else (none)) else (none)) else (paymasterref01_number.l0 k x0 (wrap64 (x5 - 1)) x137000 x137001))
end
def paymasterref01_number.f (k : Nat) (l0 : List Int) : Option (Int × Int × Bool) := paymasterref01_number.l0 k l0 (wrap64 ((l0.length : Int) - 1)) 0 0
def paymasterref01_number.T8 : Bool × List (List Nat × List Nat) := (true, [([], []), ([0], [0]), ([1], [1]), ([], []), ([], []), ([3, 4], [3, 4]), ([5], [5]), ([2, 6], [2, 6]), ([0, 1, 2, 3, 4, 5, 6, 7], []), ([8, 7, 0, 1, 2, 3, 4, 5, 6, 7], [7, 8])])
def paymasterref01_number.B8 : List Nat := [0, 1, 3, 0, 0, 24, 56, 127, 255, 511]
theorem paymasterref01_number.tab8 : rtab .any (opsOf Tryd.f155 8) = paymasterref01_number.T8 := by kernel_rfl
theorem paymasterref01_number.bits8 : waitsOk paymasterref01_number.T8.2 paymasterref01_number.B8 = true := by kernel_rfl
def paymasterref01_number.T10 : Bool × List (List Nat × List Nat) := (true, [([], []), ([0], [0]), ([1], [1]), ([], []), ([], []), ([3, 4], [3, 4]), ([5], [5]), ([2, 6], [2, 6]), ([0, 1, 2, 3, 4, 5, 6, 7], []), ([8, 7, 0, 1, 2, 3, 4, 5, 6, 7], [7, 8])])
def paymasterref01_number.B10 : List Nat := [0, 1, 3, 0, 0, 24, 56, 127, 255, 511]
theorem paymasterref01_number.tab10 : rtab .any (opsOf Tryd.f155 10) = paymasterref01_number.T10 := by kernel_rfl
theorem paymasterref01_number.bits10 : waitsOk paymasterref01_number.T10.2 paymasterref01_number.B10 = true := by kernel_rfl
set_option maxHeartbeats 8000000 in
set_option maxRecDepth 100000 in
theorem paymasterref01_number.calls (k : Nat) (A0 : Option Addr) (c0 : Nat) (l0 : List Int) (r1 : Int) (r2 : Int) (r3 : Bool) (w : World) (hr0 : Kd.C (Kd.int .u64) w A0 l0.length l0) (hc0 : l0.length ≤ c0) (h : paymasterref01_number.f k l0 = some (r1, r2, r3)) :
  Calls Tryd.prog 155 #[.slice A0 l0.length c0] w fun e w' => e = .returned (.tuple #[.agg #[.int .u64 r1, .int .u64 r2], .bool r3]) ∧ Below w.heap.size w w' := by
 have hu34 := Tryd.underlying34
 have HR0 := aM' hr0
 have HC0 := aM' hc0
 clear hr0 hc0
 have HB := aM' (Below.refl w.heap.size w)
 have H : (paymasterref01_number.l0 k l0 (wrap64 ((l0.length : Int) - 1)) 0 0) = some (r1, r2, r3) := h
 clear h
 have H' := aM' H
 clear H
 go_enter Tryd.func155, Tryd.ntmps155
 go_wp2_with (first | ((with_reducible refine gate_dst (N := 2) rfl ?_); refine box_event ?hg (N := 2) ?hd (cs := #[.int .u64 0, .int .u64 0]) (t := 34) ?hr ?_; (case hd => rfl); (case hg => rfl); (case hr => first | (go_simp; done) | (go_simp; rfl)); intro gb135 hg w2 hbox hb; have n0_ := aM' (below_step (by repeat (first | (with_reducible first | exact HB.out | apply below_alloc | apply pw_below_drewN | apply below_drew1) | exact HB.out)) hb); have n1_ := aM' (hbox); have n2_ := aM' ((by rw [hg]; exact (below_size (by repeat (first | (with_reducible first | exact HB.out | apply below_alloc | apply pw_below_drewN | apply below_drew1) | exact HB.out))) : w.heap.size ≤ gb135)); have n3_ := aM' ((by rw [hg]; exact (below_size (by repeat (first | (with_reducible first | exact HB.out | apply below_alloc | apply pw_below_drewN | apply below_drew1) | exact HB.out))) : w.heap.size ≤ gb135)); clear HB; have HB := n0_; have BK135 := n1_; have GW135 := n2_; have GE135 := n3_; clear n0_ n1_ n2_ n3_; clear hb hbox hg) | ((with_reducible refine gate_dst (N := 4) rfl ?_); refine box_event ?hg (N := 4) ?hd (cs := #[.int .u64 0, .int .u64 0]) (t := 34) ?hr ?_; (case hd => rfl); (case hg => rfl); (case hr => first | (go_simp; done) | (go_simp; rfl)); intro gb136 hg w3 hbox hb; have n0_ := aM' (blk_below (g := gb135) (o := .cells #[.int .u64 0, .int .u64 0] 34 (0, 0)) (by (with_reducible repeat (first | refine blk_drewN ?_ _ | refine blk_drew ?_ | refine blk_alloc ?_ _)); exact BK135.out) hb); have n1_ := aM' (below_step (by repeat (first | (with_reducible first | exact HB.out | apply below_alloc | apply pw_below_drewN | apply below_drew1 | refine below_set ?_ GE135.out) | exact HB.out)) hb); have n2_ := aM' (hbox); have n3_ := aM' ((by rw [hg]; exact (below_size (by repeat (first | (with_reducible first | exact HB.out | apply below_alloc | apply pw_below_drewN | apply below_drew1 | refine below_set ?_ GE135.out) | exact HB.out))) : w.heap.size ≤ gb136)); have n4_ := aM' ((by rw [hg]; exact (below_size (by repeat (first | (with_reducible first | exact HB.out | apply below_alloc | apply pw_below_drewN | apply below_drew1 | refine below_set ?_ GE135.out) | exact HB.out))) : w.heap.size ≤ gb136)); have n5_ := aM' ((by rw [hg]; exact Nat.ne_of_lt (blk_lt (g := gb135) (o := .cells #[.int .u64 0, .int .u64 0] 34 (0, 0)) (by (with_reducible repeat (first | refine blk_drewN ?_ _ | refine blk_drew ?_ | refine blk_alloc ?_ _)); exact BK135.out)) : gb135 ≠ gb136)); have n6_ := aM' ((by rw [hg]; exact Nat.ne_of_gt (blk_lt (g := gb135) (o := .cells #[.int .u64 0, .int .u64 0] 34 (0, 0)) (by (with_reducible repeat (first | refine blk_drewN ?_ _ | refine blk_drew ?_ | refine blk_alloc ?_ _)); exact BK135.out)) : gb136 ≠ gb135)); clear BK135; clear HB; have BK135 := n0_; have HB := n1_; have BK136 := n2_; have GW136 := n3_; have GE136 := n4_; have NB135_136 := n5_; have NB136_135 := n6_; clear n0_ n1_ n2_ n3_ n4_ n5_ n6_; clear hb hbox hg))
 go_loopg [5] k (fun kq v5 w' => ∃ (x5_1 : Int) (x136000_1 : Int) (x136001_1 : Int) (x137000_1 : Int) (x137001_1 : Int), v5 = .int .i64 x5_1 ∧ Aside0 (paymasterref01_number.l0 kq l0 x5_1 x137000_1 x137001_1 = some (r1, r2, r3)) ∧ Aside0 (kq ≤ k) ∧ Aside0 (w'.heap[gb135]? = some (.cells #[.int .u64 x136000_1, .int .u64 x136001_1] 34 (0, 0))) ∧ Aside0 (w'.heap[gb136]? = some (.cells #[.int .u64 x137000_1, .int .u64 x137001_1] 34 (0, 0))) ∧ Aside0 (Below w.heap.size w w'))
 case atStart => exact ⟨(wrap64 ((l0.length : Int) - 1)), (0), (0), (0), (0), (by first | rfl | (simp; done) | (simp [*]; done)), H', ⟨Nat.le_refl _⟩, ⟨by (with_reducible repeat (first | refine blk_drewN ?_ _ | refine blk_drew ?_ | refine blk_alloc ?_ _)); exact BK135.out⟩, ⟨by (with_reducible repeat (first | refine blk_drewN ?_ _ | refine blk_drew ?_ | refine blk_alloc ?_ _)); exact BK136.out⟩, ⟨by repeat (first | (with_reducible first | exact HB.out | apply below_alloc | apply pw_below_drewN | apply below_drew1 | refine below_set ?_ GE135.out | refine below_set ?_ GE136.out) | exact HB.out)⟩⟩
 case round =>
  clear H'
  try clear c1
  try clear p2
  obtain ⟨x5_1, x136000_1, x136001_1, x137000_1, x137001_1, rfl, HA, HK1, BK135, BK136, HB⟩ := hrel
  cases gk with
  | zero => exact absurd HA.out (by simp [paymasterref01_number.l0])
  | succ k1 =>
   have H := HA.out
   clear HA
   simp only [paymasterref01_number.l0] at H
   by_cases c4 : x5_1 ≥ 0
   ·
    rw [if_pos c4] at H
    have c4b0 : decide (0 ≤ x5_1) = true := decide_eq_true c4
    clear c4
    have HC5 := aM' H
    clear H
    go_upto_region 5 with (fail)
    go_cut [21] (fun v21 wc => ∃ (kq : Nat) (x21_4 : Bool), v21 = .bool x21_4 ∧ Aside0 (paymasterref01_number.j1 kq l0 x5_1 x21_4 x137000_1 x137001_1 = some (r1, r2, r3)) ∧ Aside0 (kq ≤ k1) ∧ Aside0 (wc.heap[gb135]? = some (.cells #[.int .u64 x136000_1, .int .u64 x136001_1] 34 (0, 0))) ∧ Aside0 (wc.heap[gb136]? = some (.cells #[.int .u64 x137000_1, .int .u64 x137001_1] 34 (0, 0))) ∧ Aside0 (Below w.heap.size w wc))
    case first =>
     have H := HC5.out
     clear HC5
     by_cases c6 : x5_1 ≥ 8
     ·
      rw [if_pos c6] at H
      have c6b0 : decide (8 ≤ x5_1) = true := decide_eq_true c6
      clear c6
      (first | rw [c6b0] | (simp only [i64_w, i32_w]; rw [c6b0]) | skip)
      by_cases c7 : 0 ≤ x5_1
      ·
       rw [if_pos c7] at H
       have c7b0 : decide (0 ≤ x5_1) = true := decide_eq_true c7
       clear c7
       by_cases c8 : x5_1 < (l0.length : Int)
       ·
        rw [if_pos c8] at H
        have c8b0 : decide (x5_1 < (l0.length : Int)) = true := decide_eq_true c8
        clear c8
        have H' := aM' H
        clear H
        have p137 : 0 ≤ (x5_1 : Int) := of_decide_eq_true (by first | (with_reducible assumption) | assumption)
        have q137 : x5_1 < (l0.length : Int) := of_decide_eq_true (by first | (with_reducible assumption) | assumption)
        obtain ⟨ad137, e137, hx137_0⟩ := Kd.at_int HR0.out x5_1 p137 q137
        cases e137
        replace hx137_0 := (HB.out.cell (bL' w _ hx137_0)).trans hx137_0
        replace p137 := eq_true p137
        replace q137 := eq_true q137
        go_wp2
        go_meet
        case rel => exact ⟨_, (((rd l0 x5_1) != 0)), (by first | rfl | (simp; done) | (simp [*]; done)), H', ⟨by have := HK1.out; first | omega | exact Nat.le_refl _⟩, ⟨by (with_reducible repeat (first | refine blk_drewN ?_ _ | refine blk_drew ?_ | refine blk_alloc ?_ _)); exact BK135.out⟩, ⟨by (with_reducible repeat (first | refine blk_drewN ?_ _ | refine blk_drew ?_ | refine blk_alloc ?_ _)); exact BK136.out⟩, ⟨by repeat (first | (with_reducible first | exact HB.out | apply below_alloc | apply pw_below_drewN | apply below_drew1 | refine below_set ?_ GE135.out | refine below_set ?_ GE136.out) | exact HB.out)⟩⟩
       ·
        rw [if_neg c8] at H
        exact absurd H (by simp)
      ·
       rw [if_neg c7] at H
       exact absurd H (by simp)
     ·
      rw [if_neg c6] at H
      have c6b0 : decide (8 ≤ x5_1) = false := decide_eq_false c6
      clear c6
      (first | rw [c6b0] | (simp only [i64_w, i32_w]; rw [c6b0]) | skip)
      have H' := aM' H
      clear H
      go_wp2
      go_meet
      case rel => exact ⟨_, (false), (by first | rfl | (simp; done) | (simp [*]; done)), H', ⟨by have := HK1.out; first | omega | exact Nat.le_refl _⟩, ⟨by (with_reducible repeat (first | refine blk_drewN ?_ _ | refine blk_drew ?_ | refine blk_alloc ?_ _)); exact BK135.out⟩, ⟨by (with_reducible repeat (first | refine blk_drewN ?_ _ | refine blk_drew ?_ | refine blk_alloc ?_ _)); exact BK136.out⟩, ⟨by repeat (first | (with_reducible first | exact HB.out | apply below_alloc | apply pw_below_drewN | apply below_drew1 | refine below_set ?_ GE135.out | refine below_set ?_ GE136.out) | exact HB.out)⟩⟩
    case rest =>
     clear HC5
     try clear c1
     try clear p1
     try clear q1
     try clear hx1
     try clear p2
     try clear c4
     try clear c4b0
     try clear c6
     try clear c6b0
     try clear p6
     try clear c7
     try clear c7b0
     try clear c8
     try clear c8b0
     try clear hx137_0
     try clear p137
     try clear p2
     try clear q137
     obtain ⟨kq, x21_4, rfl, HA, HJ4, BK135, BK136, HB⟩ := hcut
     cases kq with
     | zero => exact absurd HA.out (by simp [paymasterref01_number.j1])
     | succ kj4 =>
      have H := HA.out
      clear HA
      simp only [paymasterref01_number.j1] at H
      by_cases c9 : x21_4 = true
      ·
       subst c9
       have H1 : (some (0, 0, false)) = some (r1, r2, r3) := by rw [if_pos rfl] at H; exact H
       clear H
       have H := H1
       clear H1
       simp only [Option.some.injEq, Prod.mk.injEq] at H
       obtain ⟨rfl, rfl, rfl⟩ := H
       have hnb10 := NB135_136.out
       have hnc10 := NB136_135.out
       have hcz11_0 : wc.cell? ⟨gb135, 0, none⟩ = some (.int .u64 x136000_1) := (blk_cell BK135.out 0).trans rfl
       have hcz11_1 : wc.cell? ⟨gb135, 1, none⟩ = some (.int .u64 x136001_1) := (blk_cell BK135.out 1).trans rfl
       have hfz11_0 := blk_frozen BK135.out 0
       have hfz11_1 := blk_frozen BK135.out 1
       go_wp2
       refine bodyPost_ret (results_ct rfl _ _ gb135 34 #[.int .u64 0, .int .u64 0] (0, 0) _ rfl (by (with_reducible repeat (first | refine blk_drewN ?_ _ | refine blk_drew ?_ | refine blk_alloc ?_ _)); refine blk_put (cs := #[.int .u64 0, .int .u64 x136001_1]) ?_ 1 _ rfl; (with_reducible repeat (first | refine blk_drewN ?_ _ | refine blk_drew ?_ | refine blk_alloc ?_ _)); refine blk_put (cs := #[.int .u64 x136000_1, .int .u64 x136001_1]) ?_ 0 _ rfl; (with_reducible repeat (first | refine blk_drewN ?_ _ | refine blk_drew ?_ | refine blk_alloc ?_ _)); exact BK135.out) Tryd.underlying34 rfl (by kernel_rfl)) rfl ?_
       exact ⟨by first | rfl | (simp [errW_none, errW_some] <;> rfl) | (simp [*, errW_none, errW_some] <;> rfl), by repeat (first | (with_reducible first | exact HB.out | apply below_alloc | apply pw_below_drewN | apply below_drew1 | refine below_set ?_ GE135.out | refine below_set ?_ GE136.out) | exact HB.out)⟩
      ·
       replace c9 := Bool.eq_false_iff.mpr c9
       subst c9
       have H1 : (if x5_1 < 8 then (paymasterref01_number.j2 kj4 l0 x5_1 (decide (x5_1 ≥ 4)) x137000_1 x137001_1) else (paymasterref01_number.j2 kj4 l0 x5_1 false x137000_1 x137001_1)) = some (r1, r2, r3) := by rw [if_neg (show ¬ (false = true) by decide)] at H; exact H
       clear H
       have H := H1
       clear H1
       have HC12 := aM' H
       clear H
       go_upto_region 7 with (fail)
       go_cut [28] (fun v28 wc => ∃ (kq : Nat) (x28_11 : Bool), v28 = .bool x28_11 ∧ Aside0 (paymasterref01_number.j2 kq l0 x5_1 x28_11 x137000_1 x137001_1 = some (r1, r2, r3)) ∧ Aside0 (kq ≤ kj4) ∧ Aside0 (wc.heap[gb135]? = some (.cells #[.int .u64 x136000_1, .int .u64 x136001_1] 34 (0, 0))) ∧ Aside0 (wc.heap[gb136]? = some (.cells #[.int .u64 x137000_1, .int .u64 x137001_1] 34 (0, 0))) ∧ Aside0 (Below w.heap.size w wc))
       case first =>
        have H := HC12.out
        clear HC12
        by_cases c13 : x5_1 < 8
        ·
         rw [if_pos c13] at H
         have c13b0 : decide (x5_1 < 8) = true := decide_eq_true c13
         clear c13
         (first | rw [c13b0] | (simp only [i64_w, i32_w]; rw [c13b0]) | skip)
         have H' := aM' H
         clear H
         go_wp2
         go_meet
         case rel => exact ⟨_, (decide (x5_1 ≥ 4)), (by first | rfl | (simp; done) | (simp [*]; done)), H', ⟨by have := HK1.out; have := HJ4.out; first | omega | exact Nat.le_refl _⟩, ⟨by (with_reducible repeat (first | refine blk_drewN ?_ _ | refine blk_drew ?_ | refine blk_alloc ?_ _)); exact BK135.out⟩, ⟨by (with_reducible repeat (first | refine blk_drewN ?_ _ | refine blk_drew ?_ | refine blk_alloc ?_ _)); exact BK136.out⟩, ⟨by repeat (first | (with_reducible first | exact HB.out | apply below_alloc | apply pw_below_drewN | apply below_drew1 | refine below_set ?_ GE135.out | refine below_set ?_ GE136.out) | exact HB.out)⟩⟩
        ·
         rw [if_neg c13] at H
         have c13b0 : decide (x5_1 < 8) = false := decide_eq_false c13
         clear c13
         (first | rw [c13b0] | (simp only [i64_w, i32_w]; rw [c13b0]) | skip)
         have H' := aM' H
         clear H
         go_wp2
         go_meet
         case rel => exact ⟨_, (false), (by first | rfl | (simp; done) | (simp [*]; done)), H', ⟨by have := HK1.out; have := HJ4.out; first | omega | exact Nat.le_refl _⟩, ⟨by (with_reducible repeat (first | refine blk_drewN ?_ _ | refine blk_drew ?_ | refine blk_alloc ?_ _)); exact BK135.out⟩, ⟨by (with_reducible repeat (first | refine blk_drewN ?_ _ | refine blk_drew ?_ | refine blk_alloc ?_ _)); exact BK136.out⟩, ⟨by repeat (first | (with_reducible first | exact HB.out | apply below_alloc | apply pw_below_drewN | apply below_drew1 | refine below_set ?_ GE135.out | refine below_set ?_ GE136.out) | exact HB.out)⟩⟩
       case rest =>
        clear HC12
        try clear c1
        try clear p1
        try clear q1
        try clear hx1
        try clear p2
        try clear c4
        try clear c4b0
        try clear c6
        try clear c6b0
        try clear p6
        try clear c7
        try clear c7b0
        try clear c8
        try clear c8b0
        try clear c9
        try clear c10
        try clear c13
        try clear c13b0
        try clear p13
        try clear q13
        try clear hx13
        try clear hcz11_0
        try clear hcz11_1
        try clear hfz11_0
        try clear hfz11_1
        try clear hx137_0
        try clear p1
        try clear p137
        try clear p2
        try clear p6
        try clear q1
        try clear q137
        obtain ⟨kq, x28_11, rfl, HA, HJ11, BK135, BK136, HB⟩ := hcut
        cases kq with
        | zero => exact absurd HA.out (by simp [paymasterref01_number.j2])
        | succ kj11 =>
         have H := HA.out
         clear HA
         simp only [paymasterref01_number.j2] at H
         by_cases c14 : x28_11 = true
         ·
          subst c14
          have H1 : (if 0 ≤ x5_1 then (if x5_1 < (l0.length : Int) then (if x5_1 < 4 then (paymasterref01_number.l0 kj11 l0 (wrap64 (x5_1 - 1)) (IntKind.u64.wrap ((IntKind.u64.wrap (x137000_1 * 65536)) + (rd l0 x5_1))) (IntKind.u64.wrap ((IntKind.u64.wrap (x137001_1 * 65536)) + (rd l0 x5_1)))) else (paymasterref01_number.l0 kj11 l0 (wrap64 (x5_1 - 1)) (IntKind.u64.wrap ((IntKind.u64.wrap (x137000_1 * 65536)) + (rd l0 x5_1))) x137001_1)) else (none)) else (none)) = some (r1, r2, r3) := by rw [if_pos rfl] at H; exact H
          clear H
          have H := H1
          clear H1
          by_cases c15 : 0 ≤ x5_1
          ·
           rw [if_pos c15] at H
           have c15b0 : decide (0 ≤ x5_1) = true := decide_eq_true c15
           clear c15
           by_cases c16 : x5_1 < (l0.length : Int)
           ·
            rw [if_pos c16] at H
            have c16b0 : decide (x5_1 < (l0.length : Int)) = true := decide_eq_true c16
            clear c16
            by_cases c17 : x5_1 < 4
            ·
             rw [if_pos c17] at H
             have c17b0 : decide (x5_1 < 4) = true := decide_eq_true c17
             clear c17
             have H' := aM' H
             clear H
             try go_wp2
             have n0_ := aM' (blk_drew BK135.out)
             have n1_ := aM' (blk_drew BK136.out)
             have n2_ := aM' (below_drew1 HB.out)
             clear BK135
             clear BK136
             clear HB
             have BK135 := n0_
             have BK136 := n1_
             have HB := n2_
             clear n0_ n1_ n2_
             have p138 : 0 ≤ (x5_1 : Int) := of_decide_eq_true (by first | (with_reducible assumption) | assumption)
             have q138 : x5_1 < (l0.length : Int) := of_decide_eq_true (by first | (with_reducible assumption) | assumption)
             obtain ⟨ad138, e138, hx138_0⟩ := Kd.at_int HR0.out x5_1 p138 q138
             have hw138_0 := hx138_0
             cases e138
             replace hx138_0 := (HB.out.cell (bL' w _ hx138_0)).trans hx138_0
             replace p138 := eq_true p138
             replace q138 := eq_true q138
             refine start_ (n := 10) (S := fun w' => w'.cell? ⟨gb136, 0, none⟩ = some (.int .u64 x137000_1) ∧ w'.cell? ⟨gb136, 1, none⟩ = some (.int .u64 x137001_1) ∧ w'.cell? (ad138.add (x5_1).toNat) = some (.int .u64 (rd l0 x5_1))) (ds := [9]) #[false, false, false, false, false, false, false, false, false, false] (by kernel_rfl) rfl rfl ⟨(blk_cell BK136.out 0).trans rfl, (blk_cell BK136.out 1).trans rfl, ((HB.out.cell (bL' w _ hw138_0)).trans hw138_0)⟩ (fun hHeld => ?_); refine with_tabW paymasterref01_number.tab8 paymasterref01_number.bits8 (fun HT_ HW_ => ?_)
             generalize wc.drew = w18 at BK135 BK136 HB hx138_0 hHeld ⊢
             refine pure_ (i := 0) (N := some 29) (v := ?_) (a' := ?_) #[true, false, false, false, false, false, false, false, false, false] rfl rfl (any_of HT_.out (by kernel_rfl)) (fun _ _ _ h => h) (Or.inl ⟨by rfl, ?_⟩) ?_ ?_
             rotate_left
             ·
              intro w'
              go_simp
              with_reducible rfl
             rotate_left
             ·
              simp only [Act.put, List.setIfInBounds_toArray, List.set_cons_zero, List.set_cons_succ, i64_w, i32_w]
              rfl
             refine pure_ (i := 3) (N := some 32) (v := ?_) (a' := ?_) #[true, false, false, true, false, false, false, false, false, false] rfl rfl (any_of HT_.out (by kernel_rfl)) (fun _ _ _ h => h) (Or.inl ⟨by rfl, ?_⟩) ?_ ?_
             rotate_left
             ·
              intro w'
              go_simp
              with_reducible rfl
             rotate_left
             ·
              simp only [Act.put, List.setIfInBounds_toArray, List.set_cons_zero, List.set_cons_succ, i64_w, i32_w]
              rfl
             refine pure_ (i := 4) (N := some 33) (v := ?_) (a' := ?_) #[true, false, false, true, true, false, false, false, false, false] rfl rfl (any_of HT_.out (by kernel_rfl)) (fun _ _ _ h => h) (Or.inl ⟨by rfl, ?_⟩) ?_ ?_
             rotate_left
             ·
              intro w'
              go_simp
              with_reducible rfl
             rotate_left
             ·
              simp only [Act.put, List.setIfInBounds_toArray, List.set_cons_zero, List.set_cons_succ, i64_w, i32_w]
              rfl
             refine pure_ (i := 5) (N := some 34) (v := ?_) (a' := ?_) #[true, false, false, true, true, true, false, false, false, false] rfl rfl (any_of HT_.out (by kernel_rfl)) (fun _ _ _ h => h) (Or.inl ⟨by rfl, ?_⟩) ?_ ?_
             rotate_left
             ·
              intro w'
              go_simp
              with_reducible rfl
             rotate_left
             ·
              simp only [Act.put, List.setIfInBounds_toArray, List.set_cons_zero, List.set_cons_succ, i64_w, i32_w]
              rfl
             refine take_ (i := 1) (N := some 30) (v := ?_) (a' := ?_) #[true, true, false, true, true, true, false, false, false, false] rfl rfl (take_ofW HT_.out HW_.out (by kernel_rfl)) (fun _ _ _ h => h) (Or.inl ⟨by rfl, ?_⟩) hHeld ?_ ?_
             rotate_left
             ·
              rintro w' ⟨s0, s1, s2⟩
              go_simp
              with_reducible rfl
             rotate_left
             ·
              simp only [Act.put, List.setIfInBounds_toArray, List.set_cons_zero, List.set_cons_succ, i64_w, i32_w]
              rfl
             refine pure_ (i := 2) (N := some 31) (v := ?_) (a' := ?_) #[true, true, true, true, true, true, false, false, false, false] rfl rfl (any_of HT_.out (by kernel_rfl)) (fun _ _ _ h => h) (Or.inl ⟨by rfl, ?_⟩) ?_ ?_
             rotate_left
             ·
              intro w'
              go_simp
              with_reducible rfl
             rotate_left
             ·
              simp only [Act.put, List.setIfInBounds_toArray, List.set_cons_zero, List.set_cons_succ, i64_w, i32_w]
              rfl
             refine take_ (i := 6) (N := some 35) (v := ?_) (a' := ?_) #[true, true, true, true, true, true, true, false, false, false] rfl rfl (take_ofW HT_.out HW_.out (by kernel_rfl)) (fun _ _ _ h => h) (Or.inl ⟨by rfl, ?_⟩) hHeld ?_ ?_
             rotate_left
             ·
              rintro w' ⟨s0, s1, s2⟩
              go_simp
              with_reducible rfl
             rotate_left
             ·
              simp only [Act.put, List.setIfInBounds_toArray, List.set_cons_zero, List.set_cons_succ, i64_w, i32_w]
              rfl
             refine pure_ (i := 7) (N := some 36) (v := ?_) (a' := ?_) #[true, true, true, true, true, true, true, true, false, false] rfl rfl (any_of HT_.out (by kernel_rfl)) (fun _ _ _ h => h) (Or.inl ⟨by rfl, ?_⟩) ?_ ?_
             rotate_left
             ·
              intro w'
              go_simp
              with_reducible rfl
             rotate_left
             ·
              simp only [Act.put, List.setIfInBounds_toArray, List.set_cons_zero, List.set_cons_succ, i64_w, i32_w]
              rfl
             refine pure_ (i := 8) (N := some 37) (v := ?_) (a' := ?_) #[true, true, true, true, true, true, true, true, true, false] rfl rfl (any_of HT_.out (by kernel_rfl)) (fun _ _ _ h => h) (Or.inl ⟨by rfl, ?_⟩) ?_ ?_
             rotate_left
             ·
              intro w'
              go_simp
              with_reducible rfl
             rotate_left
             ·
              simp only [Act.put, List.setIfInBounds_toArray, List.set_cons_zero, List.set_cons_succ, i64_w, i32_w]
              rfl
             refine last_ (i := 9) (N := none) #[true, true, true, true, true, true, true, true, true, true] rfl rfl (one_of HT_.out (by kernel_rfl)) (by decide) (fun K hK => ?_)
             have hs19 : w18.cell? ⟨gb136, 0, none⟩ = some (.int .u64 x137000_1) := (blk_cell BK136.out 0).trans rfl
             have hfs19 := blk_frozen BK136.out 0
             have hns19_0 := NB135_136.out
             have hms19_0 := NB136_135.out
             refine skip_ (w1 := ?_) (by rfl) rfl ?_ ?_
             rotate_left
             ·
              go_simp
              rfl
             refine hK.out _ _ ?_
             clear hK K
             refine done_ (done_of HT_.out (by kernel_rfl)) ?_
             try go_wp2
             have n0_ : Aside0 ((w18.setCell ⟨gb136, 0, none⟩ (.int .u64 (IntKind.u64.wrap ((IntKind.u64.wrap (x137000_1 * 65536)) + (rd l0 x5_1))))).heap[gb135]? = some (.cells #[.int .u64 x136000_1, .int .u64 x136001_1] 34 (0, 0))) := ⟨by (with_reducible repeat (first | refine blk_drewN ?_ _ | refine blk_drew ?_ | refine blk_alloc ?_ _)); refine blk_far ?_ NB135_136.out _; (with_reducible repeat (first | refine blk_drewN ?_ _ | refine blk_drew ?_ | refine blk_alloc ?_ _)); exact BK135.out⟩
             have n1_ : Aside0 ((w18.setCell ⟨gb136, 0, none⟩ (.int .u64 (IntKind.u64.wrap ((IntKind.u64.wrap (x137000_1 * 65536)) + (rd l0 x5_1))))).heap[gb136]? = some (.cells #[.int .u64 (IntKind.u64.wrap ((IntKind.u64.wrap (x137000_1 * 65536)) + (rd l0 x5_1))), .int .u64 x137001_1] 34 (0, 0))) := ⟨by (with_reducible repeat (first | refine blk_drewN ?_ _ | refine blk_drew ?_ | refine blk_alloc ?_ _)); refine blk_put (cs := #[.int .u64 x137000_1, .int .u64 x137001_1]) ?_ 0 _ rfl; (with_reducible repeat (first | refine blk_drewN ?_ _ | refine blk_drew ?_ | refine blk_alloc ?_ _)); exact BK136.out⟩
             have n2_ : Aside0 (Below w.heap.size w (w18.setCell ⟨gb136, 0, none⟩ (.int .u64 (IntKind.u64.wrap ((IntKind.u64.wrap (x137000_1 * 65536)) + (rd l0 x5_1)))))) := ⟨by repeat (first | (with_reducible first | exact HB.out | apply below_alloc | apply pw_below_drewN | apply below_drew1 | refine below_set ?_ GE135.out | refine below_set ?_ GE136.out) | exact HB.out)⟩
             (try clear BK135)
             (try clear BK136)
             (try clear HB)
             generalize (w18.setCell ⟨gb136, 0, none⟩ (.int .u64 (IntKind.u64.wrap ((IntKind.u64.wrap (x137000_1 * 65536)) + (rd l0 x5_1))))) = w20 at n0_ n1_ n2_ ⊢
             have BK135 := n0_
             have BK136 := n1_
             have HB := n2_
             clear n0_ n1_ n2_
             have n0_ := aM' (blk_drew BK135.out)
             have n1_ := aM' (blk_drew BK136.out)
             have n2_ := aM' (below_drew1 HB.out)
             clear BK135
             clear BK136
             clear HB
             have BK135 := n0_
             have BK136 := n1_
             have HB := n2_
             clear n0_ n1_ n2_
             have p139 : 0 ≤ (x5_1 : Int) := of_decide_eq_true (by first | (with_reducible assumption) | assumption)
             have q139 : x5_1 < (l0.length : Int) := of_decide_eq_true (by first | (with_reducible assumption) | assumption)
             obtain ⟨ad139, e139, hx139_0⟩ := Kd.at_int HR0.out x5_1 p139 q139
             have hw139_0 := hx139_0
             obtain rfl : ad138 = ad139 := (by injection e139)
             replace hx139_0 := (HB.out.cell (bL' w _ hx139_0)).trans hx139_0
             replace p139 := eq_true p139
             replace q139 := eq_true q139
             refine start_ (n := 10) (S := fun w' => w'.cell? ⟨gb136, 0, none⟩ = some (.int .u64 (IntKind.u64.wrap ((IntKind.u64.wrap (x137000_1 * 65536)) + (rd l0 x5_1)))) ∧ w'.cell? ⟨gb136, 1, none⟩ = some (.int .u64 x137001_1) ∧ w'.cell? (ad138.add (x5_1).toNat) = some (.int .u64 (rd l0 x5_1))) (ds := [9]) #[false, false, false, false, false, false, false, false, false, false] (by kernel_rfl) rfl rfl ⟨(blk_cell BK136.out 0).trans rfl, (blk_cell BK136.out 1).trans rfl, ((HB.out.cell (bL' w _ hw139_0)).trans hw139_0)⟩ (fun hHeld => ?_); refine with_tabW paymasterref01_number.tab10 paymasterref01_number.bits10 (fun HT_ HW_ => ?_)
             generalize w20.drew = w21 at BK135 BK136 HB hx139_0 hHeld ⊢
             refine pure_ (i := 0) (N := some 40) (v := ?_) (a' := ?_) #[true, false, false, false, false, false, false, false, false, false] rfl rfl (any_of HT_.out (by kernel_rfl)) (fun _ _ _ h => h) (Or.inl ⟨by rfl, ?_⟩) ?_ ?_
             rotate_left
             ·
              intro w'
              go_simp
              with_reducible rfl
             rotate_left
             ·
              simp only [Act.put, List.setIfInBounds_toArray, List.set_cons_zero, List.set_cons_succ, i64_w, i32_w]
              rfl
             refine pure_ (i := 3) (N := some 43) (v := ?_) (a' := ?_) #[true, false, false, true, false, false, false, false, false, false] rfl rfl (any_of HT_.out (by kernel_rfl)) (fun _ _ _ h => h) (Or.inl ⟨by rfl, ?_⟩) ?_ ?_
             rotate_left
             ·
              intro w'
              go_simp
              with_reducible rfl
             rotate_left
             ·
              simp only [Act.put, List.setIfInBounds_toArray, List.set_cons_zero, List.set_cons_succ, i64_w, i32_w]
              rfl
             refine pure_ (i := 4) (N := some 44) (v := ?_) (a' := ?_) #[true, false, false, true, true, false, false, false, false, false] rfl rfl (any_of HT_.out (by kernel_rfl)) (fun _ _ _ h => h) (Or.inl ⟨by rfl, ?_⟩) ?_ ?_
             rotate_left
             ·
              intro w'
              go_simp
              with_reducible rfl
             rotate_left
             ·
              simp only [Act.put, List.setIfInBounds_toArray, List.set_cons_zero, List.set_cons_succ, i64_w, i32_w]
              rfl
             refine pure_ (i := 5) (N := some 45) (v := ?_) (a' := ?_) #[true, false, false, true, true, true, false, false, false, false] rfl rfl (any_of HT_.out (by kernel_rfl)) (fun _ _ _ h => h) (Or.inl ⟨by rfl, ?_⟩) ?_ ?_
             rotate_left
             ·
              intro w'
              go_simp
              with_reducible rfl
             rotate_left
             ·
              simp only [Act.put, List.setIfInBounds_toArray, List.set_cons_zero, List.set_cons_succ, i64_w, i32_w]
              rfl
             refine take_ (i := 1) (N := some 41) (v := ?_) (a' := ?_) #[true, true, false, true, true, true, false, false, false, false] rfl rfl (take_ofW HT_.out HW_.out (by kernel_rfl)) (fun _ _ _ h => h) (Or.inl ⟨by rfl, ?_⟩) hHeld ?_ ?_
             rotate_left
             ·
              rintro w' ⟨s0, s1, s2⟩
              go_simp
              with_reducible rfl
             rotate_left
             ·
              simp only [Act.put, List.setIfInBounds_toArray, List.set_cons_zero, List.set_cons_succ, i64_w, i32_w]
              rfl
             refine pure_ (i := 2) (N := some 42) (v := ?_) (a' := ?_) #[true, true, true, true, true, true, false, false, false, false] rfl rfl (any_of HT_.out (by kernel_rfl)) (fun _ _ _ h => h) (Or.inl ⟨by rfl, ?_⟩) ?_ ?_
             rotate_left
             ·
              intro w'
              go_simp
              with_reducible rfl
             rotate_left
             ·
              simp only [Act.put, List.setIfInBounds_toArray, List.set_cons_zero, List.set_cons_succ, i64_w, i32_w]
              rfl
             refine take_ (i := 6) (N := some 46) (v := ?_) (a' := ?_) #[true, true, true, true, true, true, true, false, false, false] rfl rfl (take_ofW HT_.out HW_.out (by kernel_rfl)) (fun _ _ _ h => h) (Or.inl ⟨by rfl, ?_⟩) hHeld ?_ ?_
             rotate_left
             ·
              rintro w' ⟨s0, s1, s2⟩
              go_simp
              with_reducible rfl
             rotate_left
             ·
              simp only [Act.put, List.setIfInBounds_toArray, List.set_cons_zero, List.set_cons_succ, i64_w, i32_w]
              rfl
             refine pure_ (i := 7) (N := some 47) (v := ?_) (a' := ?_) #[true, true, true, true, true, true, true, true, false, false] rfl rfl (any_of HT_.out (by kernel_rfl)) (fun _ _ _ h => h) (Or.inl ⟨by rfl, ?_⟩) ?_ ?_
             rotate_left
             ·
              intro w'
              go_simp
              with_reducible rfl
             rotate_left
             ·
              simp only [Act.put, List.setIfInBounds_toArray, List.set_cons_zero, List.set_cons_succ, i64_w, i32_w]
              rfl
             refine pure_ (i := 8) (N := some 48) (v := ?_) (a' := ?_) #[true, true, true, true, true, true, true, true, true, false] rfl rfl (any_of HT_.out (by kernel_rfl)) (fun _ _ _ h => h) (Or.inl ⟨by rfl, ?_⟩) ?_ ?_
             rotate_left
             ·
              intro w'
              go_simp
              with_reducible rfl
             rotate_left
             ·
              simp only [Act.put, List.setIfInBounds_toArray, List.set_cons_zero, List.set_cons_succ, i64_w, i32_w]
              rfl
             refine last_ (i := 9) (N := none) #[true, true, true, true, true, true, true, true, true, true] rfl rfl (one_of HT_.out (by kernel_rfl)) (by decide) (fun K hK => ?_)
             have hs22 : w21.cell? ⟨gb136, 1, none⟩ = some (.int .u64 x137001_1) := (blk_cell BK136.out 1).trans rfl
             have hfs22 := blk_frozen BK136.out 1
             have hns22_0 := NB135_136.out
             have hms22_0 := NB136_135.out
             refine skip_ (w1 := ?_) (by rfl) rfl ?_ ?_
             rotate_left
             ·
              go_simp
              rfl
             refine hK.out _ _ ?_
             clear hK K
             refine done_ (done_of HT_.out (by kernel_rfl)) ?_
             try go_wp2
             go_roundg kj11
             case measure => have := HK1.out; have := HJ4.out; have := HJ11.out; omega
             case rel => exact ⟨(wrap64 (x5_1 - 1)), (x136000_1), (x136001_1), (IntKind.u64.wrap ((IntKind.u64.wrap (x137000_1 * 65536)) + (rd l0 x5_1))), (IntKind.u64.wrap ((IntKind.u64.wrap (x137001_1 * 65536)) + (rd l0 x5_1))), (by first | rfl | (simp; done) | (simp [*]; done)), H', ⟨by have := HK1.out; have := HJ4.out; have := HJ11.out; omega⟩, ⟨by (with_reducible repeat (first | refine blk_drewN ?_ _ | refine blk_drew ?_ | refine blk_alloc ?_ _)); refine blk_far ?_ NB135_136.out _; (with_reducible repeat (first | refine blk_drewN ?_ _ | refine blk_drew ?_ | refine blk_alloc ?_ _)); exact BK135.out⟩, ⟨by (with_reducible repeat (first | refine blk_drewN ?_ _ | refine blk_drew ?_ | refine blk_alloc ?_ _)); refine blk_put (cs := #[.int .u64 (IntKind.u64.wrap ((IntKind.u64.wrap (x137000_1 * 65536)) + (rd l0 x5_1))), .int .u64 x137001_1]) ?_ 1 _ rfl; (with_reducible repeat (first | refine blk_drewN ?_ _ | refine blk_drew ?_ | refine blk_alloc ?_ _)); exact BK136.out⟩, ⟨by repeat (first | (with_reducible first | exact HB.out | apply below_alloc | apply pw_below_drewN | apply below_drew1 | refine below_set ?_ GE135.out | refine below_set ?_ GE136.out) | exact HB.out)⟩⟩
            ·
             rw [if_neg c17] at H
             have c17b0 : decide (x5_1 < 4) = false := decide_eq_false c17
             clear c17
             have H' := aM' H
             clear H
             try go_wp2
             have n0_ := aM' (blk_drew BK135.out)
             have n1_ := aM' (blk_drew BK136.out)
             have n2_ := aM' (below_drew1 HB.out)
             clear BK135
             clear BK136
             clear HB
             have BK135 := n0_
             have BK136 := n1_
             have HB := n2_
             clear n0_ n1_ n2_
             have p138 : 0 ≤ (x5_1 : Int) := of_decide_eq_true (by first | (with_reducible assumption) | assumption)
             have q138 : x5_1 < (l0.length : Int) := of_decide_eq_true (by first | (with_reducible assumption) | assumption)
             obtain ⟨ad138, e138, hx138_0⟩ := Kd.at_int HR0.out x5_1 p138 q138
             have hw138_0 := hx138_0
             cases e138
             replace hx138_0 := (HB.out.cell (bL' w _ hx138_0)).trans hx138_0
             replace p138 := eq_true p138
             replace q138 := eq_true q138
             refine start_ (n := 10) (S := fun w' => w'.cell? ⟨gb136, 0, none⟩ = some (.int .u64 x137000_1) ∧ w'.cell? ⟨gb136, 1, none⟩ = some (.int .u64 x137001_1) ∧ w'.cell? (ad138.add (x5_1).toNat) = some (.int .u64 (rd l0 x5_1))) (ds := [9]) #[false, false, false, false, false, false, false, false, false, false] (by kernel_rfl) rfl rfl ⟨(blk_cell BK136.out 0).trans rfl, (blk_cell BK136.out 1).trans rfl, ((HB.out.cell (bL' w _ hw138_0)).trans hw138_0)⟩ (fun hHeld => ?_); refine with_tabW paymasterref01_number.tab8 paymasterref01_number.bits8 (fun HT_ HW_ => ?_)
             generalize wc.drew = w23 at BK135 BK136 HB hx138_0 hHeld ⊢
             refine pure_ (i := 0) (N := some 29) (v := ?_) (a' := ?_) #[true, false, false, false, false, false, false, false, false, false] rfl rfl (any_of HT_.out (by kernel_rfl)) (fun _ _ _ h => h) (Or.inl ⟨by rfl, ?_⟩) ?_ ?_
             rotate_left
             ·
              intro w'
              go_simp
              with_reducible rfl
             rotate_left
             ·
              simp only [Act.put, List.setIfInBounds_toArray, List.set_cons_zero, List.set_cons_succ, i64_w, i32_w]
              rfl
             refine pure_ (i := 3) (N := some 32) (v := ?_) (a' := ?_) #[true, false, false, true, false, false, false, false, false, false] rfl rfl (any_of HT_.out (by kernel_rfl)) (fun _ _ _ h => h) (Or.inl ⟨by rfl, ?_⟩) ?_ ?_
             rotate_left
             ·
              intro w'
              go_simp
              with_reducible rfl
             rotate_left
             ·
              simp only [Act.put, List.setIfInBounds_toArray, List.set_cons_zero, List.set_cons_succ, i64_w, i32_w]
              rfl
             refine pure_ (i := 4) (N := some 33) (v := ?_) (a' := ?_) #[true, false, false, true, true, false, false, false, false, false] rfl rfl (any_of HT_.out (by kernel_rfl)) (fun _ _ _ h => h) (Or.inl ⟨by rfl, ?_⟩) ?_ ?_
             rotate_left
             ·
              intro w'
              go_simp
              with_reducible rfl
             rotate_left
             ·
              simp only [Act.put, List.setIfInBounds_toArray, List.set_cons_zero, List.set_cons_succ, i64_w, i32_w]
              rfl
             refine pure_ (i := 5) (N := some 34) (v := ?_) (a' := ?_) #[true, false, false, true, true, true, false, false, false, false] rfl rfl (any_of HT_.out (by kernel_rfl)) (fun _ _ _ h => h) (Or.inl ⟨by rfl, ?_⟩) ?_ ?_
             rotate_left
             ·
              intro w'
              go_simp
              with_reducible rfl
             rotate_left
             ·
              simp only [Act.put, List.setIfInBounds_toArray, List.set_cons_zero, List.set_cons_succ, i64_w, i32_w]
              rfl
             refine take_ (i := 1) (N := some 30) (v := ?_) (a' := ?_) #[true, true, false, true, true, true, false, false, false, false] rfl rfl (take_ofW HT_.out HW_.out (by kernel_rfl)) (fun _ _ _ h => h) (Or.inl ⟨by rfl, ?_⟩) hHeld ?_ ?_
             rotate_left
             ·
              rintro w' ⟨s0, s1, s2⟩
              go_simp
              with_reducible rfl
             rotate_left
             ·
              simp only [Act.put, List.setIfInBounds_toArray, List.set_cons_zero, List.set_cons_succ, i64_w, i32_w]
              rfl
             refine pure_ (i := 2) (N := some 31) (v := ?_) (a' := ?_) #[true, true, true, true, true, true, false, false, false, false] rfl rfl (any_of HT_.out (by kernel_rfl)) (fun _ _ _ h => h) (Or.inl ⟨by rfl, ?_⟩) ?_ ?_
             rotate_left
             ·
              intro w'
              go_simp
              with_reducible rfl
             rotate_left
             ·
              simp only [Act.put, List.setIfInBounds_toArray, List.set_cons_zero, List.set_cons_succ, i64_w, i32_w]
              rfl
             refine take_ (i := 6) (N := some 35) (v := ?_) (a' := ?_) #[true, true, true, true, true, true, true, false, false, false] rfl rfl (take_ofW HT_.out HW_.out (by kernel_rfl)) (fun _ _ _ h => h) (Or.inl ⟨by rfl, ?_⟩) hHeld ?_ ?_
             rotate_left
             ·
              rintro w' ⟨s0, s1, s2⟩
              go_simp
              with_reducible rfl
             rotate_left
             ·
              simp only [Act.put, List.setIfInBounds_toArray, List.set_cons_zero, List.set_cons_succ, i64_w, i32_w]
              rfl
             refine pure_ (i := 7) (N := some 36) (v := ?_) (a' := ?_) #[true, true, true, true, true, true, true, true, false, false] rfl rfl (any_of HT_.out (by kernel_rfl)) (fun _ _ _ h => h) (Or.inl ⟨by rfl, ?_⟩) ?_ ?_
             rotate_left
             ·
              intro w'
              go_simp
              with_reducible rfl
             rotate_left
             ·
              simp only [Act.put, List.setIfInBounds_toArray, List.set_cons_zero, List.set_cons_succ, i64_w, i32_w]
              rfl
             refine pure_ (i := 8) (N := some 37) (v := ?_) (a' := ?_) #[true, true, true, true, true, true, true, true, true, false] rfl rfl (any_of HT_.out (by kernel_rfl)) (fun _ _ _ h => h) (Or.inl ⟨by rfl, ?_⟩) ?_ ?_
             rotate_left
             ·
              intro w'
              go_simp
              with_reducible rfl
             rotate_left
             ·
              simp only [Act.put, List.setIfInBounds_toArray, List.set_cons_zero, List.set_cons_succ, i64_w, i32_w]
              rfl
             refine last_ (i := 9) (N := none) #[true, true, true, true, true, true, true, true, true, true] rfl rfl (one_of HT_.out (by kernel_rfl)) (by decide) (fun K hK => ?_)
             have hs24 : w23.cell? ⟨gb136, 0, none⟩ = some (.int .u64 x137000_1) := (blk_cell BK136.out 0).trans rfl
             have hfs24 := blk_frozen BK136.out 0
             have hns24_0 := NB135_136.out
             have hms24_0 := NB136_135.out
             refine skip_ (w1 := ?_) (by rfl) rfl ?_ ?_
             rotate_left
             ·
              go_simp
              rfl
             refine hK.out _ _ ?_
             clear hK K
             refine done_ (done_of HT_.out (by kernel_rfl)) ?_
             try go_wp2
             go_roundg kj11
             case measure => have := HK1.out; have := HJ4.out; have := HJ11.out; omega
             case rel => exact ⟨(wrap64 (x5_1 - 1)), (x136000_1), (x136001_1), (IntKind.u64.wrap ((IntKind.u64.wrap (x137000_1 * 65536)) + (rd l0 x5_1))), (x137001_1), (by first | rfl | (simp; done) | (simp [*]; done)), H', ⟨by have := HK1.out; have := HJ4.out; have := HJ11.out; omega⟩, ⟨by (with_reducible repeat (first | refine blk_drewN ?_ _ | refine blk_drew ?_ | refine blk_alloc ?_ _)); refine blk_far ?_ NB135_136.out _; (with_reducible repeat (first | refine blk_drewN ?_ _ | refine blk_drew ?_ | refine blk_alloc ?_ _)); exact BK135.out⟩, ⟨by (with_reducible repeat (first | refine blk_drewN ?_ _ | refine blk_drew ?_ | refine blk_alloc ?_ _)); refine blk_put (cs := #[.int .u64 x137000_1, .int .u64 x137001_1]) ?_ 0 _ rfl; (with_reducible repeat (first | refine blk_drewN ?_ _ | refine blk_drew ?_ | refine blk_alloc ?_ _)); exact BK136.out⟩, ⟨by repeat (first | (with_reducible first | exact HB.out | apply below_alloc | apply pw_below_drewN | apply below_drew1 | refine below_set ?_ GE135.out | refine below_set ?_ GE136.out) | exact HB.out)⟩⟩
           ·
            rw [if_neg c16] at H
            exact absurd H (by simp)
          ·
           rw [if_neg c15] at H
           exact absurd H (by simp)
         ·
          replace c14 := Bool.eq_false_iff.mpr c14
          subst c14
          have H1 : (if x5_1 < 4 then (if 0 ≤ x5_1 then (if x5_1 < (l0.length : Int) then (paymasterref01_number.l0 kj11 l0 (wrap64 (x5_1 - 1)) x137000_1 (IntKind.u64.wrap ((IntKind.u64.wrap (x137001_1 * 65536)) + (rd l0 x5_1)))) else (none)) else (none)) else (paymasterref01_number.l0 kj11 l0 (wrap64 (x5_1 - 1)) x137000_1 x137001_1)) = some (r1, r2, r3) := by rw [if_neg (show ¬ (false = true) by decide)] at H; exact H
          clear H
          have H := H1
          clear H1
          by_cases c25 : x5_1 < 4
          ·
           rw [if_pos c25] at H
           have c25b0 : decide (x5_1 < 4) = true := decide_eq_true c25
           clear c25
           by_cases c26 : 0 ≤ x5_1
           ·
            rw [if_pos c26] at H
            have c26b0 : decide (0 ≤ x5_1) = true := decide_eq_true c26
            clear c26
            by_cases c27 : x5_1 < (l0.length : Int)
            ·
             rw [if_pos c27] at H
             have c27b0 : decide (x5_1 < (l0.length : Int)) = true := decide_eq_true c27
             clear c27
             have H' := aM' H
             clear H
             try go_wp2
             have n0_ := aM' (blk_drew BK135.out)
             have n1_ := aM' (blk_drew BK136.out)
             have n2_ := aM' (below_drew1 HB.out)
             clear BK135
             clear BK136
             clear HB
             have BK135 := n0_
             have BK136 := n1_
             have HB := n2_
             clear n0_ n1_ n2_
             have p140 : 0 ≤ (x5_1 : Int) := of_decide_eq_true (by first | (with_reducible assumption) | assumption)
             have q140 : x5_1 < (l0.length : Int) := of_decide_eq_true (by first | (with_reducible assumption) | assumption)
             obtain ⟨ad140, e140, hx140_0⟩ := Kd.at_int HR0.out x5_1 p140 q140
             have hw140_0 := hx140_0
             cases e140
             replace hx140_0 := (HB.out.cell (bL' w _ hx140_0)).trans hx140_0
             replace p140 := eq_true p140
             replace q140 := eq_true q140
             refine start_ (n := 10) (S := fun w' => w'.cell? ⟨gb136, 0, none⟩ = some (.int .u64 x137000_1) ∧ w'.cell? ⟨gb136, 1, none⟩ = some (.int .u64 x137001_1) ∧ w'.cell? (ad140.add (x5_1).toNat) = some (.int .u64 (rd l0 x5_1))) (ds := [9]) #[false, false, false, false, false, false, false, false, false, false] (by kernel_rfl) rfl rfl ⟨(blk_cell BK136.out 0).trans rfl, (blk_cell BK136.out 1).trans rfl, ((HB.out.cell (bL' w _ hw140_0)).trans hw140_0)⟩ (fun hHeld => ?_); refine with_tabW paymasterref01_number.tab10 paymasterref01_number.bits10 (fun HT_ HW_ => ?_)
             generalize wc.drew = w28 at BK135 BK136 HB hx140_0 hHeld ⊢
             refine pure_ (i := 0) (N := some 40) (v := ?_) (a' := ?_) #[true, false, false, false, false, false, false, false, false, false] rfl rfl (any_of HT_.out (by kernel_rfl)) (fun _ _ _ h => h) (Or.inl ⟨by rfl, ?_⟩) ?_ ?_
             rotate_left
             ·
              intro w'
              go_simp
              with_reducible rfl
             rotate_left
             ·
              simp only [Act.put, List.setIfInBounds_toArray, List.set_cons_zero, List.set_cons_succ, i64_w, i32_w]
              rfl
             refine pure_ (i := 3) (N := some 43) (v := ?_) (a' := ?_) #[true, false, false, true, false, false, false, false, false, false] rfl rfl (any_of HT_.out (by kernel_rfl)) (fun _ _ _ h => h) (Or.inl ⟨by rfl, ?_⟩) ?_ ?_
             rotate_left
             ·
              intro w'
              go_simp
              with_reducible rfl
             rotate_left
             ·
              simp only [Act.put, List.setIfInBounds_toArray, List.set_cons_zero, List.set_cons_succ, i64_w, i32_w]
              rfl
             refine pure_ (i := 4) (N := some 44) (v := ?_) (a' := ?_) #[true, false, false, true, true, false, false, false, false, false] rfl rfl (any_of HT_.out (by kernel_rfl)) (fun _ _ _ h => h) (Or.inl ⟨by rfl, ?_⟩) ?_ ?_
             rotate_left
             ·
              intro w'
              go_simp
              with_reducible rfl
             rotate_left
             ·
              simp only [Act.put, List.setIfInBounds_toArray, List.set_cons_zero, List.set_cons_succ, i64_w, i32_w]
              rfl
             refine pure_ (i := 5) (N := some 45) (v := ?_) (a' := ?_) #[true, false, false, true, true, true, false, false, false, false] rfl rfl (any_of HT_.out (by kernel_rfl)) (fun _ _ _ h => h) (Or.inl ⟨by rfl, ?_⟩) ?_ ?_
             rotate_left
             ·
              intro w'
              go_simp
              with_reducible rfl
             rotate_left
             ·
              simp only [Act.put, List.setIfInBounds_toArray, List.set_cons_zero, List.set_cons_succ, i64_w, i32_w]
              rfl
             refine take_ (i := 1) (N := some 41) (v := ?_) (a' := ?_) #[true, true, false, true, true, true, false, false, false, false] rfl rfl (take_ofW HT_.out HW_.out (by kernel_rfl)) (fun _ _ _ h => h) (Or.inl ⟨by rfl, ?_⟩) hHeld ?_ ?_
             rotate_left
             ·
              rintro w' ⟨s0, s1, s2⟩
              go_simp
              with_reducible rfl
             rotate_left
             ·
              simp only [Act.put, List.setIfInBounds_toArray, List.set_cons_zero, List.set_cons_succ, i64_w, i32_w]
              rfl
             refine pure_ (i := 2) (N := some 42) (v := ?_) (a' := ?_) #[true, true, true, true, true, true, false, false, false, false] rfl rfl (any_of HT_.out (by kernel_rfl)) (fun _ _ _ h => h) (Or.inl ⟨by rfl, ?_⟩) ?_ ?_
             rotate_left
             ·
              intro w'
              go_simp
              with_reducible rfl
             rotate_left
             ·
              simp only [Act.put, List.setIfInBounds_toArray, List.set_cons_zero, List.set_cons_succ, i64_w, i32_w]
              rfl
             refine take_ (i := 6) (N := some 46) (v := ?_) (a' := ?_) #[true, true, true, true, true, true, true, false, false, false] rfl rfl (take_ofW HT_.out HW_.out (by kernel_rfl)) (fun _ _ _ h => h) (Or.inl ⟨by rfl, ?_⟩) hHeld ?_ ?_
             rotate_left
             ·
              rintro w' ⟨s0, s1, s2⟩
              go_simp
              with_reducible rfl
             rotate_left
             ·
              simp only [Act.put, List.setIfInBounds_toArray, List.set_cons_zero, List.set_cons_succ, i64_w, i32_w]
              rfl
             refine pure_ (i := 7) (N := some 47) (v := ?_) (a' := ?_) #[true, true, true, true, true, true, true, true, false, false] rfl rfl (any_of HT_.out (by kernel_rfl)) (fun _ _ _ h => h) (Or.inl ⟨by rfl, ?_⟩) ?_ ?_
             rotate_left
             ·
              intro w'
              go_simp
              with_reducible rfl
             rotate_left
             ·
              simp only [Act.put, List.setIfInBounds_toArray, List.set_cons_zero, List.set_cons_succ, i64_w, i32_w]
              rfl
             refine pure_ (i := 8) (N := some 48) (v := ?_) (a' := ?_) #[true, true, true, true, true, true, true, true, true, false] rfl rfl (any_of HT_.out (by kernel_rfl)) (fun _ _ _ h => h) (Or.inl ⟨by rfl, ?_⟩) ?_ ?_
             rotate_left
             ·
              intro w'
              go_simp
              with_reducible rfl
             rotate_left
             ·
              simp only [Act.put, List.setIfInBounds_toArray, List.set_cons_zero, List.set_cons_succ, i64_w, i32_w]
              rfl
             refine last_ (i := 9) (N := none) #[true, true, true, true, true, true, true, true, true, true] rfl rfl (one_of HT_.out (by kernel_rfl)) (by decide) (fun K hK => ?_)
             have hs29 : w28.cell? ⟨gb136, 1, none⟩ = some (.int .u64 x137001_1) := (blk_cell BK136.out 1).trans rfl
             have hfs29 := blk_frozen BK136.out 1
             have hns29_0 := NB135_136.out
             have hms29_0 := NB136_135.out
             refine skip_ (w1 := ?_) (by rfl) rfl ?_ ?_
             rotate_left
             ·
              go_simp
              rfl
             refine hK.out _ _ ?_
             clear hK K
             refine done_ (done_of HT_.out (by kernel_rfl)) ?_
             try go_wp2
             go_roundg kj11
             case measure => have := HK1.out; have := HJ4.out; have := HJ11.out; omega
             case rel => exact ⟨(wrap64 (x5_1 - 1)), (x136000_1), (x136001_1), (x137000_1), (IntKind.u64.wrap ((IntKind.u64.wrap (x137001_1 * 65536)) + (rd l0 x5_1))), (by first | rfl | (simp; done) | (simp [*]; done)), H', ⟨by have := HK1.out; have := HJ4.out; have := HJ11.out; omega⟩, ⟨by (with_reducible repeat (first | refine blk_drewN ?_ _ | refine blk_drew ?_ | refine blk_alloc ?_ _)); refine blk_far ?_ NB135_136.out _; (with_reducible repeat (first | refine blk_drewN ?_ _ | refine blk_drew ?_ | refine blk_alloc ?_ _)); exact BK135.out⟩, ⟨by (with_reducible repeat (first | refine blk_drewN ?_ _ | refine blk_drew ?_ | refine blk_alloc ?_ _)); refine blk_put (cs := #[.int .u64 x137000_1, .int .u64 x137001_1]) ?_ 1 _ rfl; (with_reducible repeat (first | refine blk_drewN ?_ _ | refine blk_drew ?_ | refine blk_alloc ?_ _)); exact BK136.out⟩, ⟨by repeat (first | (with_reducible first | exact HB.out | apply below_alloc | apply pw_below_drewN | apply below_drew1 | refine below_set ?_ GE135.out | refine below_set ?_ GE136.out) | exact HB.out)⟩⟩
            ·
             rw [if_neg c27] at H
             exact absurd H (by simp)
           ·
            rw [if_neg c26] at H
            exact absurd H (by simp)
          ·
           rw [if_neg c25] at H
           have c25b0 : decide (x5_1 < 4) = false := decide_eq_false c25
           clear c25
           have H' := aM' H
           clear H
           go_wp2
           go_roundg kj11
           case measure => have := HK1.out; have := HJ4.out; have := HJ11.out; omega
           case rel => exact ⟨(wrap64 (x5_1 - 1)), (x136000_1), (x136001_1), (x137000_1), (x137001_1), (by first | rfl | (simp; done) | (simp [*]; done)), H', ⟨by have := HK1.out; have := HJ4.out; have := HJ11.out; omega⟩, ⟨by (with_reducible repeat (first | refine blk_drewN ?_ _ | refine blk_drew ?_ | refine blk_alloc ?_ _)); exact BK135.out⟩, ⟨by (with_reducible repeat (first | refine blk_drewN ?_ _ | refine blk_drew ?_ | refine blk_alloc ?_ _)); exact BK136.out⟩, ⟨by repeat (first | (with_reducible first | exact HB.out | apply below_alloc | apply pw_below_drewN | apply below_drew1 | refine below_set ?_ GE135.out | refine below_set ?_ GE136.out) | exact HB.out)⟩⟩
   ·
    rw [if_neg c4] at H
    have c4b0 : decide (0 ≤ x5_1) = false := decide_eq_false c4
    clear c4
    simp only [Option.some.injEq, Prod.mk.injEq] at H
    obtain ⟨rfl, rfl, rfl⟩ := H
    have hnb30 := NB136_135.out
    have hnc30 := NB135_136.out
    have hcz31_0 : wr.cell? ⟨gb136, 0, none⟩ = some (.int .u64 x137000_1) := (blk_cell BK136.out 0).trans rfl
    have hcz31_1 : wr.cell? ⟨gb136, 1, none⟩ = some (.int .u64 x137001_1) := (blk_cell BK136.out 1).trans rfl
    have hfz31_0 := blk_frozen BK136.out 0
    have hfz31_1 := blk_frozen BK136.out 1
    have hcz32_0 : wr.cell? ⟨gb135, 0, none⟩ = some (.int .u64 x136000_1) := (blk_cell BK135.out 0).trans rfl
    have hcz32_1 : wr.cell? ⟨gb135, 1, none⟩ = some (.int .u64 x136001_1) := (blk_cell BK135.out 1).trans rfl
    have hfz32_0 := blk_frozen BK135.out 0
    have hfz32_1 := blk_frozen BK135.out 1
    go_wp2
    refine bodyPost_ret (results_ct rfl _ _ gb135 34 #[.int .u64 x137000_1, .int .u64 x137001_1] (0, 0) _ rfl (by (with_reducible repeat (first | refine blk_drewN ?_ _ | refine blk_drew ?_ | refine blk_alloc ?_ _)); refine blk_put (cs := #[.int .u64 x137000_1, .int .u64 x136001_1]) ?_ 1 _ rfl; (with_reducible repeat (first | refine blk_drewN ?_ _ | refine blk_drew ?_ | refine blk_alloc ?_ _)); refine blk_put (cs := #[.int .u64 x136000_1, .int .u64 x136001_1]) ?_ 0 _ rfl; (with_reducible repeat (first | refine blk_drewN ?_ _ | refine blk_drew ?_ | refine blk_alloc ?_ _)); exact BK135.out) Tryd.underlying34 rfl (by kernel_rfl)) rfl ?_
    exact ⟨by first | rfl | (simp [errW_none, errW_some] <;> rfl) | (simp [*, errW_none, errW_some] <;> rfl), by repeat (first | (with_reducible first | exact HB.out | apply below_alloc | apply pw_below_drewN | apply below_drew1 | refine below_set ?_ GE135.out | refine below_set ?_ GE136.out) | exact HB.out)⟩
end Go.Proofs.YtfcodmdckcihmaaDoor.P
