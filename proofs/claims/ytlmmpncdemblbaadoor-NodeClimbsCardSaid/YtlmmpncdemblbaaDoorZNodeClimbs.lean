/- PROVED HERE: the Go function paymasterlaw14.NodeClimbs returns true for every input that the given statement speaks of, and each argument reads behind the call as it read before. Conditions: none beyond the given statement's own (the laid table of constants, tied by the card). -/
-- Several texts of this workplace as one.
import Derived.Test.YtlmmpncdemblbaaDoorPx0
import Derived.ProofKit
import Derived.OpenShut
import Derived.ShutString
import Derived.ChangeOld
import Derived.WideShapes
import Derived.DataReads
import Derived.Deep.Slices
import Derived.OpenVars
import Derived.SizedLaws
import Derived.Test.YtlmmpncdemblbaaDoorPn0
import Derived.Test.YtlmmpncdemblbaaDoorProg
import Derived.Below
import Derived.Deep.Draws
import Derived.Deep.AppendLies
import Derived.Maps.AppendAt
import Derived.OwnWalk
import Derived.Laws.BytesArg
import Derived.Laws.MakeOwn
import Derived.Laws.OwnMore
import Derived.Deep.OwnRows
import Derived.Tactics
import Derived.Lib.ConvBytes
import Derived.Laws.Slices
import Derived.WalkKit
import Derived.KernelRfl
import Derived.RowKit3
import Derived.Deep.LoopGhost
import Derived.Deep.QuietTactic
import Derived.BigQuiet
import Derived.WideLaws
import Derived.Deep.DeepCutAuto
import Derived.Deep.CutBlock
import Derived.Deep.RegionHeld3
import Derived.Laws.Rows
import Derived.Lib.AppendStr
import Derived.ArgAppend
import Derived.Laws.IdiomCopy
import Derived.OrdersHeld
import Derived.Laws.BitsLemmas
import Derived.RowKit
import Derived.Test.YtlmmpncdemblbaaDoorWWords
import Derived.Test.YtlmmpncdemblbaaDoorWLast
import Derived.Test.YtlmmpncdemblbaaDoorWQPut
import Derived.Test.YtlmmpncdemblbaaDoorWApart
import Derived.Test.YtlmmpncdemblbaaDoorWArr
import Derived.Test.YtlmmpncdemblbaaDoorWZeros
import Derived.Test.YtlmmpncdemblbaaDoorWFoot
import Derived.Test.YtlmmpncdemblbaaDoorWKept
import Derived.Test.YtlmmpncdemblbaaDoorWShare
import Derived.Test.YtlmmpncdemblbaaDoorWN
import Derived.Test.YtlmmpncdemblbaaDoorWRepsOne
import Derived.Test.YtlmmpncdemblbaaDoorWNEv
import Derived.Test.YtlmmpncdemblbaaDoorWMore
import Derived.Test.YtlmmpncdemblbaaDoorPn1
import Derived.Test.YtlmmpncdemblbaaDoorPn2
import Derived.Test.YtlmmpncdemblbaaDoorPn6
import Derived.Test.YtlmmpncdemblbaaDoorHClimb
import Derived.Lib.Zigzag
import Derived.Test.YtlmmpncdemblbaaDoorPn5
import Derived.Test.YtlmmpncdemblbaaDoorHParts
import Derived.Test.YtlmmpncdemblbaaDoorWGuard
import Derived.Test.YtlmmpncdemblbaaDoorUNode
import Derived.Test.YtlmmpncdemblbaaDoorRows
import Derived.Test.YtlmmpncdemblbaaDoorCards
import Derived.Test.YtlmmpncdemblbaaDoorTie
import Derived.LaidByTextLater
import Derived.SevenTiedAt
namespace Go.Proofs.YtlmmpncdemblbaaDoor.P
open Go.RowKit Go.Proofs.YtlmmpncdemblbaaDoorW.PrintWords Go.Proofs.YtlmmpncdemblbaaDoorW.PrintLast Go.Proofs.YtlmmpncdemblbaaDoorW.PrintMore
set_option linter.unusedVariables false
set_option linter.unusedSimpArgs false
set_option linter.unnecessarySimpa false

/-- Data that fits into memory. -/
def Sized {H : Type} (P : Program) (t : TypeId) (x : DataW H) : Prop := (x.weights P t).all (· ≤ reachBytes) = true
theorem Sized.all {H : Type} {P : Program} {e : TypeId} : ∀ {l : List (DataW H)}, (DataW.weightsAll P e l).all (· ≤ reachBytes) = true → ∀ x ∈ l, Sized P e x
  | y :: l, h, x, hx => by
    simp only [DataW.weightsAll, List.all_append, Bool.and_eq_true] at h
    rcases List.mem_cons.1 hx with rfl | hx
    · exact h.1
    · exact Sized.all h.2 x hx
theorem Sized.each {H : Type} {P : Program} {ts : List TypeId} {ds : List (DataW H)} (h : (DataW.weightsEach P ts ds).all (· ≤ reachBytes) = true) {j : Nat} {t : TypeId} {x : DataW H} (ht : ts[j]? = some t) (hx : ds[j]? = some x) : Sized P t x :=
  List.all_eq_true.2 fun n hn => List.all_eq_true.1 h n (DataW.weights_mem_each ht hx n hn)
/-- What is read as data of type t reads as an element of kind d, and its numbers are in range. -/
def Rd {α : Type} (P : Program) (t : TypeId) (d : Kd α) (wf : α → Prop) : Prop :=
  ∀ (H : Type) (enc : TypeId × Value → H) (w : World) (spare : Nat → Bool) (held : Bool) (fuel : Nat) (cs : List Value) (x : DataW H × List MemPlace),
    DataW.trod enc P w 0 spare held fuel t cs = some x → Sized P t x.1 → ∃ y, d.K w y cs ∧ wf y
theorem Rd.int {P : Program} {t : TypeId} (k : IntKind) (hu : P.underlying t = some (.int k)) : Rd P t (Kd.int k) (fun n => (Lit.int k n).wf = true) := by
  intro H enc w spare held fuel cs x h _
  obtain ⟨n, rfl, _, hw⟩ := DataW.trod_int hu h
  exact ⟨n, rfl, hw⟩
theorem Rd.bool {P : Program} {t : TypeId} (hu : P.underlying t = some .bool) : Rd P t Kd.bool (fun _ => True) := by
  intro H enc w spare held fuel cs x h _
  obtain ⟨n, rfl, _⟩ := DataW.trod_bool hu h
  exact ⟨n, rfl, trivial⟩
theorem Rd.string {P : Program} {t : TypeId} (hu : P.underlying t = some .string) : Rd P t Kd.string (fun s => s.size ≤ 140737488355328) := by
  intro H enc w spare held fuel cs x h hs
  obtain ⟨n, rfl, rfl, hw⟩ := DataW.trod_string hu h
  refine ⟨n, rfl, ?_⟩
  have h1 : n.data.toList.length ≤ reachBytes := by simpa [Sized, DataW.weights] using hs
  have h2 := reachBytes_lt
  have h3 : n.data.toList.length = n.size := by simp
  omega
theorem sized_str {H : Type} {P : Program} {t : TypeId} {s : ByteArray} (h : Sized (H := H) P t (.lit (.string s.data.toList))) : s.size ≤ 140737488355328 := by
  have h1 : s.data.toList.length ≤ reachBytes := by simpa [Sized, DataW.weights] using h
  have h2 := reachBytes_lt
  have h3 : s.data.toList.length = s.size := by simp
  omega
theorem Rd.slice {α : Type} {P : Program} {t e : TypeId} {d : Kd α} {wf : α → Prop} (hu : P.underlying t = some (.slice e)) (hc : P.cellsOf e = d.sz) (hby : 1 ≤ P.bytesOf e) (he : Rd P e d wf) : Rd P t (Kd.slice e d) (fun l => l.length ≤ 140737488355328 ∧ ∀ x ∈ l, wf x) := by
  intro H enc w spare held fuel cs x h hsz
  rcases DataW.trod_slice hu h with ⟨rfl, _⟩ | ⟨a, len, cap, elems, rest, n, _, rfl, rfl, _, hl, hm, hlen, hel, _⟩
  · exact ⟨[], ⟨none, 0, rfl, by simp, Kd.C_nil d w⟩, by simp, by simp⟩
  · simp only [Sized, DataW.weights, hu, List.all_cons, List.all_append, Bool.and_eq_true, decide_eq_true_eq, List.length_map] at hsz
    obtain ⟨hs0, hs1, _⟩ := hsz
    have hlen47 : len ≤ 140737488355328 := by
      have h2 := reachBytes_lt
      have h3 : elems.length + rest.length ≤ (elems.length + rest.length) * P.bytesOf e := Nat.le_mul_of_pos_right _ hby
      omega
    have hall : ∀ i, i < len → ∃ y : α, ∃ c, w.cells? 0 (a.add (i * P.cellsOf e)) (P.cellsOf e) = some c ∧ d.K w y c ∧ wf y := by
      intro i hi
      have h1 := hel i hi
      rw [List.getElem?_eq_getElem (by omega)] at h1
      obtain ⟨c, h2, h3⟩ := Option.bind_eq_some_iff.1 h1
      obtain ⟨y, hy, hw⟩ := he H enc w spare held n c _ h3 (Sized.all hs1 _ (List.mem_map.2 ⟨_, List.getElem_mem _, rfl⟩))
      exact ⟨y, c, h2, hy, hw⟩
    have hlen0 : len ≤ maxLen := Nat.le_trans hl hm
    rcases Nat.eq_zero_or_pos len with rfl | hpos
    · exact ⟨[], ⟨some a, cap, rfl, by simp, ⟨rfl, by simp, fun h0 => absurd h0 (by simp)⟩⟩, by simp, by simp⟩
    · obtain ⟨y0, _⟩ := hall 0 hpos
      have hch : ∃ f : Nat → α, ∀ i, i < len → ∃ c, w.cells? 0 (a.add (i * P.cellsOf e)) (P.cellsOf e) = some c ∧ d.K w (f i) c ∧ wf (f i) :=
        ⟨fun i => if h : i < len then (hall i h).choose else y0, fun i hi => by simp only [dif_pos hi]; exact (hall i hi).choose_spec⟩
      obtain ⟨f, hf⟩ := hch
      refine ⟨(List.range len).map f, ⟨some a, cap, by simp, by simpa using hl, ?_⟩, by simpa using hlen47, ?_⟩
      · refine ⟨rfl, ?_, fun _ => ⟨a, rfl, ?_⟩⟩
        · have : ((List.range len).map f).length = len := by simp
          rw [this]; unfold maxLen at hlen0; exact hlen0
        · intro j p hj
          have hjl : j < len := by
            have := (List.getElem?_eq_some_iff.1 hj).1
            simpa using this
          have hp : p = f j := by
            rw [List.getElem?_eq_getElem (by simpa using hjl)] at hj
            simpa using hj.symm
          subst hp
          obtain ⟨c, h1, h2, _⟩ := hf j hjl
          obtain ⟨_, hcl, hcc⟩ := World.cells?_some h1
          refine ⟨c, by rw [hcl, hc], h2, fun i u hu' => ?_⟩
          have hi : i < P.cellsOf e := by rw [← hcl]; exact (List.getElem?_eq_some_iff.1 hu').1
          have := hcc i hi
          rw [hu', Go.Deep.add_add] at this
          rw [← hc]; exact this
      · intro x hx
        obtain ⟨i, hi, rfl⟩ := List.mem_map.1 hx
        exact (hf i (by simpa using hi)).choose_spec.2.2
/-- The fields from an offset on. -/
def RdF {α : Type} (P : Program) (fs : List Field) (off : Nat) (d : Kd α) (wf : α → Prop) : Prop :=
  ∀ (H : Type) (enc : TypeId × Value → H) (w : World) (spare : Nat → Bool) (held : Bool) (n : Nat) (cs : List Value) (xs : List (DataW H × List MemPlace)),
    cs.length = off + d.sz → xs.length = fs.length → (∀ (i : Nat) (f : Field), fs[i]? = some f → DataW.trod enc P w 0 spare held n f.type ((cs.drop f.offset).take (P.cellsOf f.type)) = xs[i]?) → (∀ (i : Nat) (f : Field) x, fs[i]? = some f → xs[i]? = some x → Sized P f.type x.1) → ∃ y, d.K w y (cs.drop off) ∧ wf y
theorem RdF.one {α : Type} {P : Program} {f : Field} {off : Nat} {d : Kd α} {wf : α → Prop} (ho : f.offset = off) (hc : P.cellsOf f.type = d.sz) (h : Rd P f.type d wf) : RdF P [f] off d wf := by
  intro H enc w spare held n cs xs hl hx hall hsz
  have h0 := hall 0 f rfl
  obtain ⟨x, hx0⟩ : ∃ x, xs[0]? = some x := ⟨_, List.getElem?_eq_getElem (by rw [hx]; simp)⟩
  rw [hx0, ho, hc] at h0
  have : (cs.drop off).take d.sz = cs.drop off := List.take_of_length_le (by rw [List.length_drop]; omega)
  rw [this] at h0
  exact h H enc w spare held n _ _ h0 (hsz 0 f x rfl hx0)
theorem RdF.cons {α β : Type} {P : Program} {f : Field} {fs : List Field} {off : Nat} {d : Kd α} {d2 : Kd β} {wf : α → Prop} {wf2 : β → Prop} (ho : f.offset = off) (hc : P.cellsOf f.type = d.sz) (h : Rd P f.type d wf)
    (h2 : RdF P fs (off + d.sz) d2 wf2) : RdF P (f :: fs) off (Kd.pair d d2) (fun x => wf x.1 ∧ wf2 x.2) := by
  intro H enc w spare held n cs xs hl hx hall hsz
  have hl' : cs.length = off + (d.sz + d2.sz) := hl
  match xs, hx, hall, hsz with
  | x :: xr, hx, hall, hsz =>
    have h0 := hall 0 f rfl
    have hx0 : (x :: xr)[0]? = some x := rfl
    rw [hx0, ho, hc] at h0
    obtain ⟨y, hy, wy⟩ := h H enc w spare held n _ _ h0 (hsz 0 f x rfl hx0)
    obtain ⟨z, hz, wz⟩ := h2 H enc w spare held n cs xr (by omega) (by simpa using hx) (fun i g hg => by have := hall (i + 1) g (by simpa using hg); simpa using this) (fun i g y hg hy => hsz (i + 1) g y (by simpa using hg) (by simpa using hy))
    refine ⟨(y, z), ⟨_, _, ?_, hy, hz⟩, wy, wz⟩
    rw [← List.drop_drop]
    exact (List.take_append_drop d.sz (cs.drop off)).symm
theorem Rd.struct {α β : Type} {P : Program} {t : TypeId} {fs : Array Field} {d : Kd α} {wf : α → Prop} {wf2 : β → Prop} (f : β → α) (g : α → β) (hfg : ∀ a, f (g a) = a) (hu : P.underlying t = some (.struct fs)) (hc : P.cellsOf t = d.sz)
    (h : RdF P fs.toList 0 d wf) (hw : ∀ a, wf a → wf2 (g a)) : Rd P t (Kd.iso d f) wf2 := by
  intro H enc w spare held fuel cs x hx hsz
  obtain ⟨xs, n, _, rfl, hl, hxl, hall⟩ := DataW.trod_struct hu hx
  simp only [Sized, DataW.weights, hu] at hsz
  obtain ⟨y, hy, wy⟩ := h H enc w spare held n cs xs (by rw [hl, hc]; omega) (by simpa using hxl) (fun i f hf => hall i f (by simpa using hf)) (fun i f x hf hx => Sized.each hsz (j := i) (by simpa using ⟨f, by simpa using hf, rfl⟩) (by simp [hx]))
  refine ⟨g y, ?_, hw y wy⟩
  show d.K w (f (g y)) cs
  rw [hfg]
  simpa using hy
/-- An argument of struct type: its value, written out by its cells. -/
theorem Rd.agg {α : Type} {H : Type} {enc : TypeId × Value → H} {P : Program} {W : World} {r : Reach} {b0 : Nat} {t : TypeId} {fs : Array Field} {d : Kd α} {wf : α → Prop} {v : Value} {x : DataW H} {p : List MemPlace} {sp : Nat → Bool} {held : Bool} (hr : Rd P t d wf)
    (hu : P.underlying t = some (.struct fs)) (hv : Value.okWide P W r b0 t v) (h : DataW.Trod enc P W 0 sp held t v x p) (hsz : Sized P t x) : ∃ y cs, v = .agg cs ∧ d.K W y cs.toList ∧ wf y := by
  obtain ⟨cs, rfl, _⟩ := WideShapes.okWide_struct hu hv
  obtain ⟨fuel, hf⟩ := h
  obtain ⟨y, hy, wy⟩ := hr H enc W sp held fuel _ _ hf hsz
  exact ⟨y, cs, rfl, by simpa [Value.cells] using hy, wy⟩
theorem Rd.cell {α : Type} {H : Type} {enc : TypeId × Value → H} {P : Program} {W : World} {t : TypeId} {d : Kd α} {wf : α → Prop} {v : Value} {x : DataW H} {p : List MemPlace} {sp : Nat → Bool} {held : Bool} (hr : Rd P t d wf)
    (hv : v.cells.toList = [v]) (h : DataW.Trod enc P W 0 sp held t v x p) (hsz : Sized P t x) : ∃ y, d.K W y [v] ∧ wf y := by
  obtain ⟨fuel, hf⟩ := h
  rw [hv] at hf
  exact hr H enc W sp held fuel _ _ hf hsz

end Go.Proofs.YtlmmpncdemblbaaDoor.P

namespace Go.Proofs.YtlmmpncdemblbaaDoor.P
open Go.RowKit Go.Proofs.YtlmmpncdemblbaaDoorW.PrintWords Go.Proofs.YtlmmpncdemblbaaDoorW.PrintLast Go.Proofs.YtlmmpncdemblbaaDoorW.PrintMore
attribute [local go_sem] max2_int min2_int max_two min_two max_three min_three max_four min_four   -- for this text's walks alone
set_option linter.unusedVariables false
set_option linter.unusedSimpArgs false
def rd_LPk4 (xs : List (List SNode)) (i : Int) : (List SNode) := xs.getD i.toNat ([] : List SNode)
theorem at_LPk4 {w : World} {A : Option Addr} {n : Nat} {xs : List (List SNode)} (h : Kd.C (Kd.slice 26 kNode) w A n xs) (i : Int) (h0 : 0 ≤ i) (h1 : i < n) : ∃ ad A0 c0, A = some ad ∧ w.cell? (ad.add i.toNat) = some (.slice A0 (rd_LPk4 xs i).length c0) ∧ (rd_LPk4 xs i).length ≤ c0 ∧ kNode.C w A0 (rd_LPk4 xs i).length (rd_LPk4 xs i) := by
  obtain ⟨ad, c, e, _, hK, hc0⟩ := Kd.C_get h ([] : List SNode) i h0 h1
  have hc : ∀ j u, c[j]? = some u → w.cell? (ad.add (i.toNat * 1 + j)) = some u := hc0
  obtain ⟨A0, c0, rfl, l0, g0⟩ := hK
  exact ⟨ad, A0, c0, e, by have hq := hc 0 _ rfl; rwa [Nat.mul_one, Nat.add_zero] at hq, l0, g0⟩

end Go.Proofs.YtlmmpncdemblbaaDoor.P

namespace Go.Proofs.YtlmmpncdemblbaaDoor.P
open Go.RowKit Go.Proofs.YtlmmpncdemblbaaDoorW.PrintWords Go.Proofs.YtlmmpncdemblbaaDoorW.PrintLast Go.Proofs.YtlmmpncdemblbaaDoorW.PrintMore
attribute [local go_sem] max2_int min2_int max_two min_two max_three min_three max_four min_four   -- for this text's walks alone
set_option linter.unusedVariables false
set_option linter.unusedSimpArgs false

end Go.Proofs.YtlmmpncdemblbaaDoor.P

namespace Go.Proofs.YtlmmpncdemblbaaDoor.P
open Go.RowKit Go.Proofs.YtlmmpncdemblbaaDoorW.PrintWords Go.Proofs.YtlmmpncdemblbaaDoorW.PrintLast Go.Proofs.YtlmmpncdemblbaaDoorW.PrintMore
attribute [local go_sem] max2_int min2_int max_two min_two max_three min_three max_four min_four   -- for this text's walks alone
set_option linter.unusedVariables false
set_option linter.unusedSimpArgs false
theorem infoLeaf : (Tryd.prog.info? 59).map (fun i => (i.zero, i.size, i.bytes)) = some (some (.agg #[(.bool false), (.string ⟨#[]⟩), (.string ⟨#[]⟩), (.int .u64 0), (.int .u64 0)]), 5, 56) := by kernel_rfl
theorem kU128_mkF (W : World) (ok : Nat → Prop) (x : SU128) : Kd.FK kU128 W ok x [.int .u64 x.f0, .int .u64 x.f1] := fun W2 _ => kU128_mk W2 x
theorem kNode_mkF (W : World) (ok : Nat → Prop) (x : SNode) : Kd.FK kNode W ok x [.string x.f0, .int .u64 x.f1.f0, .int .u64 x.f1.f1] := fun W2 _ => kNode_mk W2 x
def rd_LPv4 (xs : List (List SNode)) (i : Int) : (List SNode) := xs.getD i.toNat ([] : List SNode)
theorem at_LPv4 {w : World} {A : Option Addr} {n : Nat} {xs : List (List SNode)} (h : Kd.C (Kd.slice 26 kNode) w A n xs) (i : Int) (h0 : 0 ≤ i) (h1 : i < n) : ∃ ad A0 c0, A = some ad ∧ w.cell? (ad.add i.toNat) = some (.slice A0 (rd_LPv4 xs i).length c0) ∧ (rd_LPv4 xs i).length ≤ c0 ∧ kNode.C w A0 (rd_LPv4 xs i).length (rd_LPv4 xs i) := by
  obtain ⟨ad, c, e, _, hK, hc0⟩ := Kd.C_get h ([] : List SNode) i h0 h1
  have hc : ∀ j u, c[j]? = some u → w.cell? (ad.add (i.toNat * 1 + j)) = some u := hc0
  obtain ⟨A0, c0, rfl, l0, g0⟩ := hK
  exact ⟨ad, A0, c0, e, by have hq := hc 0 _ rfl; rwa [Nat.mul_one, Nat.add_zero] at hq, l0, g0⟩

/-! #### struct type 59 -/
structure SLeaf where
  f0 : Bool
  f1 : ByteArray
  f2 : ByteArray
  f3 : SU128
def zLeaf : SLeaf := ⟨false, (⟨#[]⟩ : ByteArray), (⟨#[]⟩ : ByteArray), zU128⟩
def kLeaf : Kd SLeaf := Kd.iso (Kd.pair Kd.bool (Kd.pair Kd.string (Kd.pair Kd.string kU128))) (fun x : SLeaf => (x.f0, x.f1, x.f2, x.f3))
theorem kLeaf_open {w : World} {x : SLeaf} {cs : List Value} (h : kLeaf.K w x cs) : cs = [.bool x.f0, .string x.f1, .string x.f2, .int .u64 x.f3.f0, .int .u64 x.f3.f1] := by
  obtain ⟨_, _, rfl, rfl, ⟨_, _, rfl, rfl, ⟨_, _, rfl, rfl, s3⟩⟩⟩ := h
  obtain rfl := kU128_open s3
  exact rfl
theorem kLeaf_openM {w : World} {base : Nat} {ok : Nat → Prop} {x : SLeaf} {cs : List Value} (h : kLeaf.M w base ok x cs) : cs = [.bool x.f0, .string x.f1, .string x.f2, .int .u64 x.f3.f0, .int .u64 x.f3.f1] := by
  obtain ⟨_, _, rfl, rfl, ⟨_, _, rfl, rfl, ⟨_, _, rfl, rfl, s3⟩⟩⟩ := h
  obtain rfl := kU128_openM s3
  exact rfl
theorem kLeaf_mk (w : World) (x : SLeaf)  : kLeaf.K w x [.bool x.f0, .string x.f1, .string x.f2, .int .u64 x.f3.f0, .int .u64 x.f3.f1] := ⟨[.bool x.f0], [.string x.f1, .string x.f2, .int .u64 x.f3.f0, .int .u64 x.f3.f1], rfl, rfl, ⟨[.string x.f1], [.string x.f2, .int .u64 x.f3.f0, .int .u64 x.f3.f1], rfl, rfl, ⟨[.string x.f2], [.int .u64 x.f3.f0, .int .u64 x.f3.f1], rfl, rfl, (kU128_mk w x.f3 )⟩⟩⟩
theorem kLeaf_mkM (w : World) (base : Nat) (ok : Nat → Prop) (x : SLeaf)  : kLeaf.M w base ok x [.bool x.f0, .string x.f1, .string x.f2, .int .u64 x.f3.f0, .int .u64 x.f3.f1] := ⟨[.bool x.f0], [.string x.f1, .string x.f2, .int .u64 x.f3.f0, .int .u64 x.f3.f1], rfl, rfl, ⟨[.string x.f1], [.string x.f2, .int .u64 x.f3.f0, .int .u64 x.f3.f1], rfl, rfl, ⟨[.string x.f2], [.int .u64 x.f3.f0, .int .u64 x.f3.f1], rfl, rfl, (kU128_mkM w base ok x.f3 )⟩⟩⟩
theorem kLeaf_mkF (W : World) (ok : Nat → Prop) (x : SLeaf) : Kd.FK kLeaf W ok x [.bool x.f0, .string x.f1, .string x.f2, .int .u64 x.f3.f0, .int .u64 x.f3.f1] := fun W2 _ => kLeaf_mk W2 x
def rd_TLeaf (xs : List SLeaf) (i : Int) : SLeaf := xs.getD i.toNat zLeaf
theorem at_TLeaf {w : World} {A : Option Addr} {n : Nat} {xs : List SLeaf} (h : Kd.C kLeaf w A n xs) (i : Int) (h0 : 0 ≤ i) (h1 : i < n) : ∃ ad , A = some ad ∧ w.cell? (ad.add (i.toNat * 5)) = some (.bool (rd_TLeaf xs i).f0) ∧ w.cell? ⟨(ad.add (i.toNat * 5)).block, (ad.add (i.toNat * 5)).off + 1, none⟩ = some (.string (rd_TLeaf xs i).f1) ∧ w.cell? ⟨(ad.add (i.toNat * 5)).block, (ad.add (i.toNat * 5)).off + 2, none⟩ = some (.string (rd_TLeaf xs i).f2) ∧ w.cell? ⟨(ad.add (i.toNat * 5)).block, (ad.add (i.toNat * 5)).off + 3, none⟩ = some (.int .u64 (rd_TLeaf xs i).f3.f0) ∧ w.cell? ⟨(ad.add (i.toNat * 5)).block, (ad.add (i.toNat * 5)).off + 4, none⟩ = some (.int .u64 (rd_TLeaf xs i).f3.f1) := by
  obtain ⟨ad, c, e, _, hK, hc0⟩ := Kd.C_get h zLeaf i h0 h1
  have hc : ∀ j u, c[j]? = some u → w.cell? (ad.add (i.toNat * 5 + j)) = some u := hc0
  obtain rfl := kLeaf_open hK
  exact ⟨ad, e, hc 0 _ rfl, by rw [← add_field _ _ 1 (by omega)]; exact hc 1 _ rfl, by rw [← add_field _ _ 2 (by omega)]; exact hc 2 _ rfl, by rw [← add_field _ _ 3 (by omega)]; exact hc 3 _ rfl, by rw [← add_field _ _ 4 (by omega)]; exact hc 4 _ rfl⟩

/-! #### struct type 61 -/
structure SProof where
  f0 : Int
  f1 : (List SNode)
def zProof : SProof := ⟨(0 : Int), ([] : List SNode)⟩
def kProof : Kd SProof := Kd.iso (Kd.pair (Kd.int .u64) (Kd.slice 26 kNode)) (fun x : SProof => (x.f0, x.f1))
theorem kProof_open {w : World} {x : SProof} {cs : List Value} (h : kProof.K w x cs) : ∃ A1 c1, cs = [.int .u64 x.f0, .slice A1 x.f1.length c1] ∧ x.f1.length ≤ c1 ∧ kNode.C w A1 x.f1.length x.f1 := by
  obtain ⟨_, _, rfl, rfl, ⟨A1, c1, rfl, l1, g1⟩⟩ := h
  exact ⟨A1, c1, rfl, l1, g1⟩
theorem kProof_openM {w : World} {base : Nat} {ok : Nat → Prop} {x : SProof} {cs : List Value} (h : kProof.M w base ok x cs) : ∃ v1, cs = [.int .u64 x.f0, v1] ∧ kNode.R 26 w base ok v1 x.f1 := by
  obtain ⟨_, _, rfl, rfl, ⟨v1, rfl, g1⟩⟩ := h
  exact ⟨v1, rfl, g1⟩
theorem kProof_mk (w : World) (x : SProof) {A1 : Option Addr} {c1 : Nat} (l1 : x.f1.length ≤ c1) (g1 : kNode.C w A1 x.f1.length x.f1) : kProof.K w x [.int .u64 x.f0, .slice A1 x.f1.length c1] := ⟨[.int .u64 x.f0], [.slice A1 x.f1.length c1], rfl, rfl, ⟨A1, c1, rfl, l1, g1⟩⟩
theorem kProof_mkM (w : World) (base : Nat) (ok : Nat → Prop) (x : SProof) {v1 : Value} (g1 : kNode.R 26 w base ok v1 x.f1) : kProof.M w base ok x [.int .u64 x.f0, v1] := ⟨[.int .u64 x.f0], [v1], rfl, rfl, ⟨v1, rfl, g1⟩⟩
theorem kProof_openF {W : World} {ok : Nat → Prop} {x : SProof} {cs : List Value} (h : Kd.FK kProof W ok x cs) : ∃ A1 c1, cs = [.int .u64 x.f0, .slice A1 x.f1.length c1] ∧ x.f1.length ≤ c1 ∧ Kd.F kNode W ok A1 x.f1.length x.f1 := by
  obtain ⟨A1, c1, rfl, l1, _⟩ := kProof_open (Kd.FK_now h)
  exact ⟨A1, c1, rfl, l1, (fun W' hW => by obtain ⟨A1_, c1_, he, l1_, g1_⟩ := kProof_open (h W' hW); injection (Option.some.inj (show some (Value.slice A1 x.f1.length c1) = some (Value.slice A1_ x.f1.length c1_) from congrArg (fun l => l[1]?) he)) with ha_ _ _; rw [ha_]; exact g1_)⟩
theorem kProof_mkF (W : World) (ok : Nat → Prop) (x : SProof) {A1 : Option Addr} {c1 : Nat} (l1 : x.f1.length ≤ c1) (g1 : Kd.F kNode W ok A1 x.f1.length x.f1) : Kd.FK kProof W ok x [.int .u64 x.f0, .slice A1 x.f1.length c1] := fun W2 hW => kProof_mk W2 x l1 (g1 W2 hW)
def rd_TProof (xs : List SProof) (i : Int) : SProof := xs.getD i.toNat zProof
theorem at_TProof {w : World} {A : Option Addr} {n : Nat} {xs : List SProof} (h : Kd.C kProof w A n xs) (i : Int) (h0 : 0 ≤ i) (h1 : i < n) : ∃ ad A1 c1, A = some ad ∧ w.cell? (ad.add (i.toNat * 2)) = some (.int .u64 (rd_TProof xs i).f0) ∧ w.cell? ⟨(ad.add (i.toNat * 2)).block, (ad.add (i.toNat * 2)).off + 1, none⟩ = some (.slice A1 (rd_TProof xs i).f1.length c1) ∧ (rd_TProof xs i).f1.length ≤ c1 ∧ kNode.C w A1 (rd_TProof xs i).f1.length (rd_TProof xs i).f1 := by
  obtain ⟨ad, c, e, _, hK, hc0⟩ := Kd.C_get h zProof i h0 h1
  have hc : ∀ j u, c[j]? = some u → w.cell? (ad.add (i.toNat * 2 + j)) = some u := hc0
  obtain ⟨A1, c1, rfl, l1, g1⟩ := kProof_open hK
  exact ⟨ad, A1, c1, e, hc 0 _ rfl, by rw [← add_field _ _ 1 (by omega)]; exact hc 1 _ rfl, l1, g1⟩

/-! #### struct type 63 -/
structure SEntry where
  f0 : SLeaf
  f1 : SProof
def zEntry : SEntry := ⟨zLeaf, zProof⟩
def kEntry : Kd SEntry := Kd.iso (Kd.pair kLeaf kProof) (fun x : SEntry => (x.f0, x.f1))
theorem kEntry_open {w : World} {x : SEntry} {cs : List Value} (h : kEntry.K w x cs) : ∃ A6 c6, cs = [.bool x.f0.f0, .string x.f0.f1, .string x.f0.f2, .int .u64 x.f0.f3.f0, .int .u64 x.f0.f3.f1, .int .u64 x.f1.f0, .slice A6 x.f1.f1.length c6] ∧ x.f1.f1.length ≤ c6 ∧ kNode.C w A6 x.f1.f1.length x.f1.f1 := by
  obtain ⟨_, _, rfl, s0, s5⟩ := h
  obtain rfl := kLeaf_open s0
  obtain ⟨A6, c6, rfl, l6, g6⟩ := kProof_open s5
  exact ⟨A6, c6, rfl, l6, g6⟩
theorem kEntry_openM {w : World} {base : Nat} {ok : Nat → Prop} {x : SEntry} {cs : List Value} (h : kEntry.M w base ok x cs) : ∃ v6, cs = [.bool x.f0.f0, .string x.f0.f1, .string x.f0.f2, .int .u64 x.f0.f3.f0, .int .u64 x.f0.f3.f1, .int .u64 x.f1.f0, v6] ∧ kNode.R 26 w base ok v6 x.f1.f1 := by
  obtain ⟨_, _, rfl, s0, s5⟩ := h
  obtain rfl := kLeaf_openM s0
  obtain ⟨v6, rfl, g6⟩ := kProof_openM s5
  exact ⟨v6, rfl, g6⟩
theorem kEntry_mk (w : World) (x : SEntry) {A6 : Option Addr} {c6 : Nat} (l6 : x.f1.f1.length ≤ c6) (g6 : kNode.C w A6 x.f1.f1.length x.f1.f1) : kEntry.K w x [.bool x.f0.f0, .string x.f0.f1, .string x.f0.f2, .int .u64 x.f0.f3.f0, .int .u64 x.f0.f3.f1, .int .u64 x.f1.f0, .slice A6 x.f1.f1.length c6] := ⟨[.bool x.f0.f0, .string x.f0.f1, .string x.f0.f2, .int .u64 x.f0.f3.f0, .int .u64 x.f0.f3.f1], [.int .u64 x.f1.f0, .slice A6 x.f1.f1.length c6], rfl, (kLeaf_mk w x.f0 ), (kProof_mk w x.f1 l6 g6)⟩
theorem kEntry_mkM (w : World) (base : Nat) (ok : Nat → Prop) (x : SEntry) {v6 : Value} (g6 : kNode.R 26 w base ok v6 x.f1.f1) : kEntry.M w base ok x [.bool x.f0.f0, .string x.f0.f1, .string x.f0.f2, .int .u64 x.f0.f3.f0, .int .u64 x.f0.f3.f1, .int .u64 x.f1.f0, v6] := ⟨[.bool x.f0.f0, .string x.f0.f1, .string x.f0.f2, .int .u64 x.f0.f3.f0, .int .u64 x.f0.f3.f1], [.int .u64 x.f1.f0, v6], rfl, (kLeaf_mkM w base ok x.f0 ), (kProof_mkM w base ok x.f1 g6)⟩
theorem kEntry_openF {W : World} {ok : Nat → Prop} {x : SEntry} {cs : List Value} (h : Kd.FK kEntry W ok x cs) : ∃ A6 c6, cs = [.bool x.f0.f0, .string x.f0.f1, .string x.f0.f2, .int .u64 x.f0.f3.f0, .int .u64 x.f0.f3.f1, .int .u64 x.f1.f0, .slice A6 x.f1.f1.length c6] ∧ x.f1.f1.length ≤ c6 ∧ Kd.F kNode W ok A6 x.f1.f1.length x.f1.f1 := by
  obtain ⟨A6, c6, rfl, l6, _⟩ := kEntry_open (Kd.FK_now h)
  exact ⟨A6, c6, rfl, l6, (fun W' hW => by obtain ⟨A6_, c6_, he, l6_, g6_⟩ := kEntry_open (h W' hW); injection (Option.some.inj (show some (Value.slice A6 x.f1.f1.length c6) = some (Value.slice A6_ x.f1.f1.length c6_) from congrArg (fun l => l[6]?) he)) with ha_ _ _; rw [ha_]; exact g6_)⟩
theorem kEntry_mkF (W : World) (ok : Nat → Prop) (x : SEntry) {A6 : Option Addr} {c6 : Nat} (l6 : x.f1.f1.length ≤ c6) (g6 : Kd.F kNode W ok A6 x.f1.f1.length x.f1.f1) : Kd.FK kEntry W ok x [.bool x.f0.f0, .string x.f0.f1, .string x.f0.f2, .int .u64 x.f0.f3.f0, .int .u64 x.f0.f3.f1, .int .u64 x.f1.f0, .slice A6 x.f1.f1.length c6] := fun W2 hW => kEntry_mk W2 x l6 (g6 W2 hW)
def rd_TEntry (xs : List SEntry) (i : Int) : SEntry := xs.getD i.toNat zEntry
theorem at_TEntry {w : World} {A : Option Addr} {n : Nat} {xs : List SEntry} (h : Kd.C kEntry w A n xs) (i : Int) (h0 : 0 ≤ i) (h1 : i < n) : ∃ ad A6 c6, A = some ad ∧ w.cell? (ad.add (i.toNat * 7)) = some (.bool (rd_TEntry xs i).f0.f0) ∧ w.cell? ⟨(ad.add (i.toNat * 7)).block, (ad.add (i.toNat * 7)).off + 1, none⟩ = some (.string (rd_TEntry xs i).f0.f1) ∧ w.cell? ⟨(ad.add (i.toNat * 7)).block, (ad.add (i.toNat * 7)).off + 2, none⟩ = some (.string (rd_TEntry xs i).f0.f2) ∧ w.cell? ⟨(ad.add (i.toNat * 7)).block, (ad.add (i.toNat * 7)).off + 3, none⟩ = some (.int .u64 (rd_TEntry xs i).f0.f3.f0) ∧ w.cell? ⟨(ad.add (i.toNat * 7)).block, (ad.add (i.toNat * 7)).off + 4, none⟩ = some (.int .u64 (rd_TEntry xs i).f0.f3.f1) ∧ w.cell? ⟨(ad.add (i.toNat * 7)).block, (ad.add (i.toNat * 7)).off + 5, none⟩ = some (.int .u64 (rd_TEntry xs i).f1.f0) ∧ w.cell? ⟨(ad.add (i.toNat * 7)).block, (ad.add (i.toNat * 7)).off + 6, none⟩ = some (.slice A6 (rd_TEntry xs i).f1.f1.length c6) ∧ (rd_TEntry xs i).f1.f1.length ≤ c6 ∧ kNode.C w A6 (rd_TEntry xs i).f1.f1.length (rd_TEntry xs i).f1.f1 := by
  obtain ⟨ad, c, e, _, hK, hc0⟩ := Kd.C_get h zEntry i h0 h1
  have hc : ∀ j u, c[j]? = some u → w.cell? (ad.add (i.toNat * 7 + j)) = some u := hc0
  obtain ⟨A6, c6, rfl, l6, g6⟩ := kEntry_open hK
  exact ⟨ad, A6, c6, e, hc 0 _ rfl, by rw [← add_field _ _ 1 (by omega)]; exact hc 1 _ rfl, by rw [← add_field _ _ 2 (by omega)]; exact hc 2 _ rfl, by rw [← add_field _ _ 3 (by omega)]; exact hc 3 _ rfl, by rw [← add_field _ _ 4 (by omega)]; exact hc 4 _ rfl, by rw [← add_field _ _ 5 (by omega)]; exact hc 5 _ rfl, by rw [← add_field _ _ 6 (by omega)]; exact hc 6 _ rfl, l6, g6⟩

/-! #### struct type 66 -/
structure SRoot where
  f0 : ByteArray
  f1 : SU128
  f2 : Int
def zRoot : SRoot := ⟨(⟨#[]⟩ : ByteArray), zU128, (0 : Int)⟩
def kRoot : Kd SRoot := Kd.iso (Kd.pair Kd.string (Kd.pair kU128 (Kd.int .i64))) (fun x : SRoot => (x.f0, x.f1, x.f2))
theorem kRoot_open {w : World} {x : SRoot} {cs : List Value} (h : kRoot.K w x cs) : cs = [.string x.f0, .int .u64 x.f1.f0, .int .u64 x.f1.f1, .int .i64 x.f2] := by
  obtain ⟨_, _, rfl, rfl, ⟨_, _, rfl, s1, rfl⟩⟩ := h
  obtain rfl := kU128_open s1
  exact rfl
theorem kRoot_openM {w : World} {base : Nat} {ok : Nat → Prop} {x : SRoot} {cs : List Value} (h : kRoot.M w base ok x cs) : cs = [.string x.f0, .int .u64 x.f1.f0, .int .u64 x.f1.f1, .int .i64 x.f2] := by
  obtain ⟨_, _, rfl, rfl, ⟨_, _, rfl, s1, rfl⟩⟩ := h
  obtain rfl := kU128_openM s1
  exact rfl
theorem kRoot_mk (w : World) (x : SRoot)  : kRoot.K w x [.string x.f0, .int .u64 x.f1.f0, .int .u64 x.f1.f1, .int .i64 x.f2] := ⟨[.string x.f0], [.int .u64 x.f1.f0, .int .u64 x.f1.f1, .int .i64 x.f2], rfl, rfl, ⟨[.int .u64 x.f1.f0, .int .u64 x.f1.f1], [.int .i64 x.f2], rfl, (kU128_mk w x.f1 ), rfl⟩⟩
theorem kRoot_mkM (w : World) (base : Nat) (ok : Nat → Prop) (x : SRoot)  : kRoot.M w base ok x [.string x.f0, .int .u64 x.f1.f0, .int .u64 x.f1.f1, .int .i64 x.f2] := ⟨[.string x.f0], [.int .u64 x.f1.f0, .int .u64 x.f1.f1, .int .i64 x.f2], rfl, rfl, ⟨[.int .u64 x.f1.f0, .int .u64 x.f1.f1], [.int .i64 x.f2], rfl, (kU128_mkM w base ok x.f1 ), rfl⟩⟩
theorem kRoot_mkF (W : World) (ok : Nat → Prop) (x : SRoot) : Kd.FK kRoot W ok x [.string x.f0, .int .u64 x.f1.f0, .int .u64 x.f1.f1, .int .i64 x.f2] := fun W2 _ => kRoot_mk W2 x
def rd_TRoot (xs : List SRoot) (i : Int) : SRoot := xs.getD i.toNat zRoot
theorem at_TRoot {w : World} {A : Option Addr} {n : Nat} {xs : List SRoot} (h : Kd.C kRoot w A n xs) (i : Int) (h0 : 0 ≤ i) (h1 : i < n) : ∃ ad , A = some ad ∧ w.cell? (ad.add (i.toNat * 4)) = some (.string (rd_TRoot xs i).f0) ∧ w.cell? ⟨(ad.add (i.toNat * 4)).block, (ad.add (i.toNat * 4)).off + 1, none⟩ = some (.int .u64 (rd_TRoot xs i).f1.f0) ∧ w.cell? ⟨(ad.add (i.toNat * 4)).block, (ad.add (i.toNat * 4)).off + 2, none⟩ = some (.int .u64 (rd_TRoot xs i).f1.f1) ∧ w.cell? ⟨(ad.add (i.toNat * 4)).block, (ad.add (i.toNat * 4)).off + 3, none⟩ = some (.int .i64 (rd_TRoot xs i).f2) := by
  obtain ⟨ad, c, e, _, hK, hc0⟩ := Kd.C_get h zRoot i h0 h1
  have hc : ∀ j u, c[j]? = some u → w.cell? (ad.add (i.toNat * 4 + j)) = some u := hc0
  obtain rfl := kRoot_open hK
  exact ⟨ad, e, hc 0 _ rfl, by rw [← add_field _ _ 1 (by omega)]; exact hc 1 _ rfl, by rw [← add_field _ _ 2 (by omega)]; exact hc 2 _ rfl, by rw [← add_field _ _ 3 (by omega)]; exact hc 3 _ rfl⟩

/-! #### struct type 50 -/
structure STraceStep where
  f0 : Int
  f1 : Int
  f2 : ByteArray
def zTraceStep : STraceStep := ⟨(0 : Int), (0 : Int), (⟨#[]⟩ : ByteArray)⟩
def kTraceStep : Kd STraceStep := Kd.iso (Kd.pair (Kd.int .i64) (Kd.pair (Kd.int .u64) Kd.string)) (fun x : STraceStep => (x.f0, x.f1, x.f2))
theorem kTraceStep_open {w : World} {x : STraceStep} {cs : List Value} (h : kTraceStep.K w x cs) : cs = [.int .i64 x.f0, .int .u64 x.f1, .string x.f2] := by
  obtain ⟨_, _, rfl, rfl, ⟨_, _, rfl, rfl, rfl⟩⟩ := h
  exact rfl
theorem kTraceStep_openM {w : World} {base : Nat} {ok : Nat → Prop} {x : STraceStep} {cs : List Value} (h : kTraceStep.M w base ok x cs) : cs = [.int .i64 x.f0, .int .u64 x.f1, .string x.f2] := by
  obtain ⟨_, _, rfl, rfl, ⟨_, _, rfl, rfl, rfl⟩⟩ := h
  exact rfl
theorem kTraceStep_mk (w : World) (x : STraceStep)  : kTraceStep.K w x [.int .i64 x.f0, .int .u64 x.f1, .string x.f2] := ⟨[.int .i64 x.f0], [.int .u64 x.f1, .string x.f2], rfl, rfl, ⟨[.int .u64 x.f1], [.string x.f2], rfl, rfl, rfl⟩⟩
theorem kTraceStep_mkM (w : World) (base : Nat) (ok : Nat → Prop) (x : STraceStep)  : kTraceStep.M w base ok x [.int .i64 x.f0, .int .u64 x.f1, .string x.f2] := ⟨[.int .i64 x.f0], [.int .u64 x.f1, .string x.f2], rfl, rfl, ⟨[.int .u64 x.f1], [.string x.f2], rfl, rfl, rfl⟩⟩
theorem kTraceStep_mkF (W : World) (ok : Nat → Prop) (x : STraceStep) : Kd.FK kTraceStep W ok x [.int .i64 x.f0, .int .u64 x.f1, .string x.f2] := fun W2 _ => kTraceStep_mk W2 x
def rd_TTraceStep (xs : List STraceStep) (i : Int) : STraceStep := xs.getD i.toNat zTraceStep
theorem at_TTraceStep {w : World} {A : Option Addr} {n : Nat} {xs : List STraceStep} (h : Kd.C kTraceStep w A n xs) (i : Int) (h0 : 0 ≤ i) (h1 : i < n) : ∃ ad , A = some ad ∧ w.cell? (ad.add (i.toNat * 3)) = some (.int .i64 (rd_TTraceStep xs i).f0) ∧ w.cell? ⟨(ad.add (i.toNat * 3)).block, (ad.add (i.toNat * 3)).off + 1, none⟩ = some (.int .u64 (rd_TTraceStep xs i).f1) ∧ w.cell? ⟨(ad.add (i.toNat * 3)).block, (ad.add (i.toNat * 3)).off + 2, none⟩ = some (.string (rd_TTraceStep xs i).f2) := by
  obtain ⟨ad, c, e, _, hK, hc0⟩ := Kd.C_get h zTraceStep i h0 h1
  have hc : ∀ j u, c[j]? = some u → w.cell? (ad.add (i.toNat * 3 + j)) = some u := hc0
  obtain rfl := kTraceStep_open hK
  exact ⟨ad, e, hc 0 _ rfl, by rw [← add_field _ _ 1 (by omega)]; exact hc 1 _ rfl, by rw [← add_field _ _ 2 (by omega)]; exact hc 2 _ rfl⟩

end Go.Proofs.YtlmmpncdemblbaaDoor.P

namespace Go.Proofs.YtlmmpncdemblbaaDoor.P
open Go.RowKit Go.Proofs.YtlmmpncdemblbaaDoorW.PrintWords Go.Proofs.YtlmmpncdemblbaaDoorW.PrintLast Go.Proofs.YtlmmpncdemblbaaDoorW.PrintMore
set_option linter.unusedVariables false
set_option linter.unusedSimpArgs false

def wfU128 (x : SU128) : Prop := (Lit.int .u64 x.f0).wf = true ∧ (Lit.int .u64 x.f1).wf = true
theorem rdU128 : Rd Tryd.prog 24 kU128 wfU128 :=
  Rd.struct (fun x : SU128 => (x.f0, x.f1)) (fun a => ⟨a.1, a.2⟩) (fun _ => rfl) Tryd.underlying24 (by kernel_rfl)
    (RdF.cons rfl (by kernel_rfl) (Rd.int .u64 Tryd.underlying22) (RdF.one rfl (by kernel_rfl) (Rd.int .u64 Tryd.underlying22))) (fun a h => h)
def wfNode (x : SNode) : Prop := x.f0.size ≤ 140737488355328 ∧ wfU128 x.f1
theorem rdNode : Rd Tryd.prog 26 kNode wfNode :=
  Rd.struct (fun x : SNode => (x.f0, x.f1)) (fun a => ⟨a.1, a.2⟩) (fun _ => rfl) Tryd.underlying26 (by kernel_rfl)
    (RdF.cons rfl (by kernel_rfl) (Rd.string Tryd.underlying9) (RdF.one rfl (by kernel_rfl) rdU128)) (fun a h => h)
def wfLeaf (x : SLeaf) : Prop := True ∧ x.f1.size ≤ 140737488355328 ∧ x.f2.size ≤ 140737488355328 ∧ wfU128 x.f3
theorem rdLeaf : Rd Tryd.prog 59 kLeaf wfLeaf :=
  Rd.struct (fun x : SLeaf => (x.f0, x.f1, x.f2, x.f3)) (fun a => ⟨a.1, a.2.1, a.2.2.1, a.2.2.2⟩) (fun _ => rfl) Tryd.underlying59 (by kernel_rfl)
    (RdF.cons rfl (by kernel_rfl) (Rd.bool Tryd.underlying4) (RdF.cons rfl (by kernel_rfl) (Rd.string Tryd.underlying9) (RdF.cons rfl (by kernel_rfl) (Rd.string Tryd.underlying9) (RdF.one rfl (by kernel_rfl) rdU128)))) (fun a h => h)
def wfProof (x : SProof) : Prop := (Lit.int .u64 x.f0).wf = true ∧ (x.f1.length ≤ 140737488355328 ∧ ∀ q0 ∈ x.f1, wfNode q0)
theorem rdProof : Rd Tryd.prog 61 kProof wfProof :=
  Rd.struct (fun x : SProof => (x.f0, x.f1)) (fun a => ⟨a.1, a.2⟩) (fun _ => rfl) Tryd.underlying61 (by kernel_rfl)
    (RdF.cons rfl (by kernel_rfl) (Rd.int .u64 Tryd.underlying22) (RdF.one rfl (by kernel_rfl) (Rd.slice Tryd.underlying27 (by kernel_rfl) (of_decide_eq_true (by kernel_rfl)) rdNode))) (fun a h => h)
def wfEntry (x : SEntry) : Prop := wfLeaf x.f0 ∧ wfProof x.f1
theorem rdEntry : Rd Tryd.prog 63 kEntry wfEntry :=
  Rd.struct (fun x : SEntry => (x.f0, x.f1)) (fun a => ⟨a.1, a.2⟩) (fun _ => rfl) Tryd.underlying63 (by kernel_rfl)
    (RdF.cons rfl (by kernel_rfl) rdLeaf (RdF.one rfl (by kernel_rfl) rdProof)) (fun a h => h)
def wfTraceStep (x : STraceStep) : Prop := (Lit.int .i64 x.f0).wf = true ∧ (Lit.int .u64 x.f1).wf = true ∧ x.f2.size ≤ 140737488355328
theorem rdTraceStep : Rd Tryd.prog 50 kTraceStep wfTraceStep :=
  Rd.struct (fun x : STraceStep => (x.f0, x.f1, x.f2)) (fun a => ⟨a.1, a.2.1, a.2.2⟩) (fun _ => rfl) Tryd.underlying50 (by kernel_rfl)
    (RdF.cons rfl (by kernel_rfl) (Rd.int .i64 Tryd.underlying3) (RdF.cons rfl (by kernel_rfl) (Rd.int .u64 Tryd.underlying22) (RdF.one rfl (by kernel_rfl) (Rd.string Tryd.underlying9)))) (fun a h => h)
end Go.Proofs.YtlmmpncdemblbaaDoor.P

namespace Go.Proofs.YtlmmpncdemblbaaDoor.P
open Go.RowKit Go.Proofs.YtlmmpncdemblbaaDoorW.PrintWords Go.Proofs.YtlmmpncdemblbaaDoorW.PrintLast Go.Proofs.YtlmmpncdemblbaaDoorW.PrintMore
attribute [local go_sem] max2_int min2_int max_two min_two max_three min_three max_four min_four   -- for this text's walks alone
set_option linter.unusedVariables false
set_option linter.unusedSimpArgs false

end Go.Proofs.YtlmmpncdemblbaaDoor.P

namespace Go.Proofs.YtlmmpncdemblbaaDoor.P
open Go.RowKit Go.Proofs.YtlmmpncdemblbaaDoorW.PrintWords Go.Proofs.YtlmmpncdemblbaaDoorW.PrintLast Go.Proofs.YtlmmpncdemblbaaDoorW.PrintMore
set_option linter.unusedVariables false
set_option linter.unusedSimpArgs false
set_option linter.unnecessarySimpa false
/-! The reference's climb. -/
theorem rightS_mod (p : Int) (hp : 0 ≤ p) (h64 : p < 18446744073709551616) (k : Nat) : rightS p k = decide (p / 2 ^ k % 2 = 0) := by
  have h1 : 0 ≤ p / 2 ^ k := Int.ediv_nonneg hp (Int.le_of_lt (Int.pow_pos (by decide)))
  have h2 : p / 2 ^ k < 18446744073709551616 := Int.lt_of_le_of_lt (Int.ediv_le_self _ hp) h64
  unfold rightS
  rw [Lib.u64_and1 _ h1 h2, Bool.eq_iff_iff, beq_iff_eq, decide_eq_true_eq]
theorem refAll_loop (w : Int) (l : List SNode) (hl : l.length ≤ 9223372036854775807) : ∀ d i : Nat, i + d = l.length → Ev (fun k => paymasterref14_all.l0 k w l (i : Int)) (if (l.drop i).all (nodeOf w) then (decide (1 ≤ w) && decide (w ≤ 32)) else false) := by
  intro d
  induction d with
  | zero =>
    intro i hi
    refine Ev.step (f := fun _ => some (decide (1 ≤ w) && decide (w ≤ 32))) (fun k => ?_) (ev_eq (Ev.now _) ?_)
    · simp only [paymasterref14_all.l0]; rw [if_neg (by omega)]
      by_cases h1 : w ≥ 1
      · rw [if_pos h1]; have h1' : 1 ≤ w := h1; simp [h1']
      · rw [if_neg h1]; have h1' : ¬ 1 ≤ w := h1; simp [h1']
    · rw [List.drop_of_length_le (by omega)]; rfl
  | succ d ih =>
    intro i hi
    have hlt : i < l.length := by omega
    rw [List.drop_eq_getElem_cons hlt, List.all_cons]
    cases hb : nodeOf w l[i] with
    | false =>
      refine Ev.step (f := fun _ => some false) (fun k => ?_) (ev_eq (Ev.now false) (by simp))
      simp only [paymasterref14_all.l0]; rw [if_pos (by omega), if_pos (by omega), rdNode_nat l i hlt, ref14Of_eq, hb]; rfl
    | true =>
      refine Ev.step (f := fun k => paymasterref14_all.l0 k w l ((i + 1 : Nat) : Int)) (fun k => ?_) (ev_eq (ih (i + 1) (by omega)) (by simp))
      simp only [paymasterref14_all.l0]; rw [if_pos (by omega), if_pos (by omega), rdNode_nat l i hlt, ref14Of_eq, hb, wrap64_id (by omega) (by omega)]; rfl
theorem refAll_ev (w : Int) (l : List SNode) (hl : l.length ≤ 9223372036854775807) : Ev (fun k => paymasterref14_all.f k w l) (if l.all (nodeOf w) then (decide (1 ≤ w) && decide (w ≤ 32)) else false) := refAll_loop w l hl l.length 0 (by omega)
/-- The reference's climb under way. -/
structure RClim (w : World) (st r2 : SNode) (W : World) : Prop where
  h1 : W.heap[w.heap.size]? = some (.cells (nodeA st) 26 (0, 0))
  h2 : W.heap[w.heap.size + 1]? = some (.cells (nodeA r2) 26 (0, 0))
  hB : Below w.heap.size w W
theorem RClim.below {w W W' : World} {st r2 : SNode} (h : RClim w st r2 W) (hb : Below W.heap.size W W') : RClim w st r2 W' :=
  ⟨blk_below h.h1 hb, blk_below h.h2 hb, h.hB.trans (hb.mono h.hB.size)⟩
theorem RClim.put {w W : World} {st r2 : SNode} (h : RClim w st r2 W) (x : SNode) :
    RClim w st x (((W.setCell ⟨w.heap.size + 1, 0, none⟩ (.string x.f0)).setCell ⟨w.heap.size + 1, 1, none⟩ (.int .u64 x.f1.f0)).setCell ⟨w.heap.size + 1, 2, none⟩ (.int .u64 x.f1.f1)) :=
  ⟨far3 h.h1 (by omega) _ _ _, put3 h.h2 x, below_set (below_set (below_set h.hB (by (try dsimp only); omega)) (by (try dsimp only); omega)) (by (try dsimp only); omega)⟩
theorem RClim.step {w W : World} {st r2 : SNode} (h : RClim w st r2 W) (x : SNode) :
    RClim w x r2 (((W.setCell ⟨w.heap.size, 0, none⟩ (.string x.f0)).setCell ⟨w.heap.size, 1, none⟩ (.int .u64 x.f1.f0)).setCell ⟨w.heap.size, 2, none⟩ (.int .u64 x.f1.f1)) :=
  ⟨put3 h.h1 x, far3 h.h2 (by omega) _ _ _, below_set (below_set (below_set h.hB (by (try dsimp only); omega)) (by (try dsimp only); omega)) (by (try dsimp only); omega)⟩
theorem refclimb_results (tmps : Array Value) (W : World) (g : Nat) (n : SNode) (e : Value) (h8 : tmps.getD 8 undef = .pointer (some ⟨g, 0, none⟩)) (h9 : tmps.getD 9 undef = e) (hg : W.heap[g]? = some (.cells (nodeA n) 26 (0, 0))) :
    (results Tryd.f15 tmps).run Tryd.prog W = .ok (.tuple #[nodeV n, e]) W := by
  have h8' : tmps[8]?.getD undef = .pointer (some ⟨g, 0, none⟩) := by simpa using h8
  have h9' : tmps[9]?.getD undef = e := by simpa using h9
  have hr : Tryd.f15.results = #[.cell 8 26, .tmp 9] := rfl
  have h1 := run_loadVar_row W g 26 26 (nodeA n) (0, 0) _ hg Tryd.underlying26 rfl (by kernel_rfl)
  simp [results, hr, h8', h9', asAddr, h1]
/-- A code's end that is no panic. -/
def NormQ (R : Act → World → Prop) (e : Exit) (a : Act) (w : World) : Prop := match e with | .normal => R a w | _ => False
set_option maxRecDepth 100000 in
set_option maxHeartbeats 4000000 in
theorem refclimb.calls (wd : Int) (n : SNode) (p : Int) (A : Option Addr) (c : Nat) (l : List SNode) (w : World) (hK : Laid w) (hr : Kd.C kNode w A l.length l) (hc : l.length ≤ c) (hp : 0 ≤ p ∧ p < 18446744073709551616) (un : OkU n.f1) (ul : ∀ x ∈ l, OkU x.f1) :
    Calls Tryd.prog 15 #[.int .i64 wd, nodeV n, .int .u64 p, .slice A l.length c] w fun e w' => e = .returned (.tuple #[nodeV (nodeJ (climbI wd n p l)), .int .i64 (climbI wd n p l).2.2.2]) ∧ Below w.heap.size w w' := by
  have HR := Aside0.mk hr
  have HK := Aside0.mk hK
  have UN := Aside0.mk un
  have UL := Aside0.mk ul
  have HCC := Aside0.mk hc
  clear hr hK un ul hc
  go_enter Tryd.func15, Tryd.ntmps15
  go_wp2_with fail
  refine (paymasterref14_Of.calls wd n.f0 n.f1.f0 n.f1.f1 (nodeOf wd n) _ (ref14Of_eq wd n)).mono ?_
  rintro e w1 ⟨rfl, hb⟩
  have hC : w1.heap[w.heap.size]? = some (.cells (nodeA n) 26 (0, 0)) := blk_below (blk_alloc (blk_new w _) _) hb
  have hD : w1.heap[w.heap.size + 1]? = some (.cells (nodeA ⟨⟨#[]⟩, ⟨0, 0⟩⟩) 26 (0, 0)) := by
    have := blk_new (w.alloc (.cells (nodeA n) 26)) (.cells (nodeA ⟨⟨#[]⟩, ⟨0, 0⟩⟩) 26)
    rw [World.size_alloc] at this
    exact blk_below this hb
  have hB : Below w.heap.size w w1 := (below_alloc (below_alloc (Below.refl _ _) _) _).trans (hb.mono (by simp; omega))
  have HC := Aside0.mk hC
  have HD := Aside0.mk hD
  have HB := Aside0.mk hB
  clear hb hC hD hB
  cases hof : nodeOf wd n with
  | false =>
    have HI := Aside0.mk (show climbI wd n p l = (⟨#[]⟩, 0, 0, 70) by unfold climbI; rw [if_neg (by rw [hof]; simp)])
    have HRC := Aside0.mk (show RClim w n ⟨⟨#[]⟩, ⟨0, 0⟩⟩ w1 from ⟨HC.out, HD.out, HB.out⟩)
    have cr0 : w1.cell? ⟨w.heap.size + 1, 0, none⟩ = some (.string ⟨#[]⟩) := blk_cell HD.out 0
    have cr1 : w1.cell? ⟨w.heap.size + 1, 1, none⟩ = some (.int .u64 0) := blk_cell HD.out 1
    have cr2 : w1.cell? ⟨w.heap.size + 1, 2, none⟩ = some (.int .u64 0) := blk_cell HD.out 2
    have fr : ∀ i, w1.frozen? ⟨w.heap.size + 1, i, none⟩ = false := fun i => blk_frozen HD.out i
    clear HC HD HB
    go_wp2
    rw [HI.out]
    exact bodyPost_ret (refclimb_results _ _ _ ⟨⟨#[]⟩, ⟨0, 0⟩⟩ _ rfl rfl (HRC.out.put ⟨⟨#[]⟩, ⟨0, 0⟩⟩).h2) rfl ⟨rfl, (HRC.out.put ⟨⟨#[]⟩, ⟨0, 0⟩⟩).hB⟩
  | true =>
    have hmx : l.length ≤ 9223372036854775807 := Kd.C_max HR.out
    obtain ⟨ka, hka⟩ := refAll_ev wd l hmx
    have hka := hka ka (Nat.le_refl _)
    rw [show (if l.all (nodeOf wd) then (decide (1 ≤ wd) && decide (wd ≤ 32)) else false) = l.all (nodeOf wd) by
      obtain ⟨h1, h2, _⟩ := nodeOf_w hof
      cases l.all (nodeOf wd) <;> simp [h1, h2]] at hka
    have HKA := Aside0.mk hka
    clear hka hmx
    go_wp2_with fail
    refine (paymasterref14_all.calls ka wd A c l _ _ (Kd.C_below HR.out HB.out) HCC.out HKA.out).mono ?_
    rintro e w2 ⟨rfl, hb⟩
    have HC2 := Aside0.mk (blk_below HC.out hb)
    have HD2 := Aside0.mk (blk_below HD.out hb)
    have HB2 := Aside0.mk (HB.out.trans (hb.mono HB.out.size))
    clear hb HC HD
    cases hal : l.all (nodeOf wd) with
    | false =>
      have HI := Aside0.mk (show climbI wd n p l = (⟨#[]⟩, 0, 0, 70) by unfold climbI; rw [if_neg (by rw [hal]; simp)])
      have HRC := Aside0.mk (show RClim w n ⟨⟨#[]⟩, ⟨0, 0⟩⟩ w2 from ⟨HC2.out, HD2.out, HB2.out⟩)
      have cr0 : w2.cell? ⟨w.heap.size + 1, 0, none⟩ = some (.string ⟨#[]⟩) := blk_cell HD2.out 0
      have cr1 : w2.cell? ⟨w.heap.size + 1, 1, none⟩ = some (.int .u64 0) := blk_cell HD2.out 1
      have cr2 : w2.cell? ⟨w.heap.size + 1, 2, none⟩ = some (.int .u64 0) := blk_cell HD2.out 2
      have fr : ∀ i, w2.frozen? ⟨w.heap.size + 1, i, none⟩ = false := fun i => blk_frozen HD2.out i
      clear HC2 HD2 HB2
      go_wp2
      rw [HI.out]
      exact bodyPost_ret (refclimb_results _ _ _ ⟨⟨#[]⟩, ⟨0, 0⟩⟩ _ rfl rfl (HRC.out.put ⟨⟨#[]⟩, ⟨0, 0⟩⟩).h2) rfl ⟨rfl, (HRC.out.put ⟨⟨#[]⟩, ⟨0, 0⟩⟩).hB⟩
    | true =>
      by_cases h63 : 63 < l.length
      · have b1 : decide (63 < (l.length : Int)) = true := decide_eq_true (by omega)
        have HI := Aside0.mk (show climbI wd n p l = (⟨#[]⟩, 0, 0, 2) by unfold climbI; rw [if_pos ⟨hof, hal⟩, if_pos h63])
        have HRC := Aside0.mk (show RClim w n ⟨⟨#[]⟩, ⟨0, 0⟩⟩ w2 from ⟨HC2.out, HD2.out, HB2.out⟩)
        have cr0 : w2.cell? ⟨w.heap.size + 1, 0, none⟩ = some (.string ⟨#[]⟩) := blk_cell HD2.out 0
        have cr1 : w2.cell? ⟨w.heap.size + 1, 1, none⟩ = some (.int .u64 0) := blk_cell HD2.out 1
        have cr2 : w2.cell? ⟨w.heap.size + 1, 2, none⟩ = some (.int .u64 0) := blk_cell HD2.out 2
        have fr : ∀ i, w2.frozen? ⟨w.heap.size + 1, i, none⟩ = false := fun i => blk_frozen HD2.out i
        clear HC2 HD2 HB2
        go_wp2
        rw [HI.out]
        exact bodyPost_ret (refclimb_results _ _ _ ⟨⟨#[]⟩, ⟨0, 0⟩⟩ _ rfl rfl (HRC.out.put ⟨⟨#[]⟩, ⟨0, 0⟩⟩).h2) rfl ⟨rfl, (HRC.out.put ⟨⟨#[]⟩, ⟨0, 0⟩⟩).hB⟩
      · have b1 : decide (63 < (l.length : Int)) = false := decide_eq_false (by omega)
        have HI := Aside0.mk (show climbI wd n p l = climbL wd n (turnsTo p l l.length) by unfold climbI; rw [if_pos ⟨hof, hal⟩, if_neg h63])
        have HRC := Aside0.mk (show RClim w n ⟨⟨#[]⟩, ⟨0, 0⟩⟩ w2 from ⟨HC2.out, HD2.out, HB2.out⟩)
        have HP := Aside0.mk hp
        have H63 := Aside0.mk h63
        clear HC2 HD2 HB2 HB HKA hof hal hp h63
        go_wp2
        clear b1
        obtain ⟨B1, hB1⟩ : ∃ B1, w.heap.size = B1 := ⟨_, rfl⟩
        rw [hB1]
        have HB1 := Aside0.mk hB1
        clear hB1
        go_loopw [2, 10] (fun v2 v10 wr => ∃ (k : Nat) (st : SNode) (q : Int), k ≤ l.length ∧ Aside0 (q = p / 2 ^ k) ∧ (0 ≤ q ∧ q < 18446744073709551616) ∧ v2 = .int .u64 q ∧ v10 = .int .i64 k ∧ Aside0 (upTo wd n (turnsTo p l k) = some st) ∧ Aside0 (OkU st.f1) ∧ Aside0 (RClim w st ⟨⟨#[]⟩, ⟨0, 0⟩⟩ wr)) (fun _ v10 _ => l.length - (intOf v10).toNat)
        case atStart => exact ⟨0, n, p, Nat.zero_le _, ⟨by simp⟩, HP.out, rfl, rfl, ⟨rfl⟩, UN, HRC⟩
        case round =>
          obtain ⟨k, st, q, hk, HQ, ⟨hq0, hq1⟩, rfl, rfl, HU, HOK, HC⟩ := hrel
          have hk63 : (k : Int) ≤ 63 := by have := H63.out; omega
          by_cases hlt : k < l.length
          · have b1 : decide ((k : Int) < (l.length : Int)) = true := decide_eq_true (by omega)
            have p1 : 0 ≤ (k : Int) := by omega
            have p2 : (k : Int) < (l.length : Int) := by omega
            obtain ⟨ad, e, hx0, hx1, hx2⟩ := at_TNode (Kd.C_below HR.out HC.out.hB) (k : Int) p1 p2
            rw [rd_TNode_at l k hlt, Int.toNat_natCast] at hx0 hx1 hx2
            obtain ⟨x, hx⟩ : ∃ x, x = l[k] := ⟨_, rfl⟩
            rw [← hx] at hx0 hx1 hx2
            have HX := Aside0.mk hx
            clear hx
            cases e
            have cn0 : wr.cell? ⟨B1, 0, none⟩ = some (.string st.f0) := by rw [← HB1.out]; exact blk_cell HC.out.h1 0
            have cn1 : wr.cell? ⟨B1, 1, none⟩ = some (.int .u64 st.f1.f0) := by rw [← HB1.out]; exact blk_cell HC.out.h1 1
            have cn2 : wr.cell? ⟨B1, 2, none⟩ = some (.int .u64 st.f1.f1) := by rw [← HB1.out]; exact blk_cell HC.out.h1 2
            have hlw : B1 < wr.heap.size := by rw [← HB1.out]; exact blk_lt HC.out.h1
            have q3 : B1 ≠ wr.heap.size := by omega
            have q4 : B1 ≠ wr.heap.size + 1 := by omega
            have hla : ad.block < wr.heap.size := nodes_block (Kd.C_below HR.out HC.out.hB) (by omega)
            have eb : ∀ j, (ad.add j).block = ad.block := fun j => by unfold Addr.add; split <;> rfl
            have q1 : (ad.add (k * 3)).block ≠ wr.heap.size := by rw [eb]; omega
            have q2 : (ad.add (k * 3)).block ≠ wr.heap.size + 1 := by rw [eb]; omega
            have g0 : ∀ o, (wr.alloc o).cell? (ad.add (k * 3)) = some (.string x.f0) := fun o => ((below_alloc (Below.refl wr.heap.size wr) o).cell (by rw [eb]; exact hla)).trans hx0
            have f0 : ∀ o o', ((wr.alloc o).alloc o').cell? (ad.add (k * 3)) = some (.string x.f0) := fun o o' => ((below_alloc (below_alloc (Below.refl wr.heap.size wr) o) o').cell (by rw [eb]; exact hla)).trans hx0
            have g1 : ∀ o, (wr.alloc o).cell? (⟨(ad.add (k * 3)).block, (ad.add (k * 3)).off + 1, none⟩) = some (.int .u64 x.f1.f0) := fun o => ((below_alloc (Below.refl wr.heap.size wr) o).cell (by dsimp only; rw [eb]; exact hla)).trans hx1
            have f1 : ∀ o o', ((wr.alloc o).alloc o').cell? (⟨(ad.add (k * 3)).block, (ad.add (k * 3)).off + 1, none⟩) = some (.int .u64 x.f1.f0) := fun o o' => ((below_alloc (below_alloc (Below.refl wr.heap.size wr) o) o').cell (by dsimp only; rw [eb]; exact hla)).trans hx1
            have g2 : ∀ o, (wr.alloc o).cell? (⟨(ad.add (k * 3)).block, (ad.add (k * 3)).off + 2, none⟩) = some (.int .u64 x.f1.f1) := fun o => ((below_alloc (Below.refl wr.heap.size wr) o).cell (by dsimp only; rw [eb]; exact hla)).trans hx2
            have f2 : ∀ o o', ((wr.alloc o).alloc o').cell? (⟨(ad.add (k * 3)).block, (ad.add (k * 3)).off + 2, none⟩) = some (.int .u64 x.f1.f1) := fun o o' => ((below_alloc (below_alloc (Below.refl wr.heap.size wr) o) o').cell (by dsimp only; rw [eb]; exact hla)).trans hx2
            clear eb
            go_upto_region 8 with (fail)
            have HOX := Aside0.mk (UL.out x (by rw [HX.out]; exact List.getElem_mem _))
            refine wp_mono (Q := NormQ fun a' W' => ∃ b12 b13, a' = ({ tmps := #[.int .i64 wd, nodeV n, .int .u64 q, .slice (some ad) l.length c, undef, .pointer (some ⟨B1, 0, none⟩), undef, undef, .pointer (some ⟨B1 + 1, 0, none⟩), u9, .int .i64 (k : Int), .pointer (some ⟨b12, 0, none⟩), .pointer (some ⟨b13, 0, none⟩), u13, u14, .int .i64 wd, .agg #[.string n.f0, .int .u64 n.f1.f0, .int .u64 n.f1.f1], .bool true, .bool false, .bool false, .int .i64 wd, .slice (some ad) l.length c, .bool true, .bool false, .bool false, undef, .slice (some ad) l.length c, .int .i64 (l.length : Int), .bool false, undef, .int .i64 (k : Int), .slice (some ad) l.length c, .int .i64 (l.length : Int), .bool true, u34, u35, .agg #[.string st.f0, .int .u64 st.f1.f0, .int .u64 st.f1.f1], .slice (some ad) l.length c, .int .i64 (k : Int), .pointer (some (ad.add (k * 3))), .agg #[.string x.f0, .int .u64 x.f1.f0, .int .u64 x.f1.f1], u41, u42, u43, u44, u45, u46, u47, u48, u49, u50, u51, u52, u53, u54, u55, u56, u57, u58, u59, undef], defers := [] } : Act) ∧ Two wr b12 b13 st x W') ?r8 ?k8
            case r8 =>
              clear HU HOK HI HK UN UL HRC HP H63 HQ HOX HC HX HB1 hq0 hq1
              go_region_with (fail)
              all_goals
                refine ⟨_, _, rfl, ?_⟩
                with_reducible first | exact climb_twoA wr st x | exact climb_twoB wr st x
            case k8 =>
            clear cn0 cn1 cn2 hlw q1 q2 q3 q4 hx0 hx1 hx2 hla g0 g1 g2 f0 f1 f2
            intro e a' W' hN
            cases e with
            | normal => ?_
            | _ => exact hN.elim
            obtain ⟨b12, b13, rfl, hT⟩ := hN
            have HT := Aside0.mk hT
            clear hT
            dsimp only
            by_cases hr : q % 2 = 0
            · have b2 : (q % 2 == 1) = false := by simp; omega
              have hC5 := HC.out.below HT.out.hB
              have HC5 := Aside0.mk hC5
              have g1 : W'.cell? ⟨b12, 0, none⟩ = some (.string st.f0) := blk_cell HT.out.h12 0
              have g2 : W'.cell? ⟨b12, 1, none⟩ = some (.int .u64 st.f1.f0) := blk_cell HT.out.h12 1
              have g3 : W'.cell? ⟨b12, 2, none⟩ = some (.int .u64 st.f1.f1) := blk_cell HT.out.h12 2
              have g4 : W'.cell? ⟨b13, 0, none⟩ = some (.string x.f0) := blk_cell HT.out.h13 0
              have g5 : W'.cell? ⟨b13, 1, none⟩ = some (.int .u64 x.f1.f0) := blk_cell HT.out.h13 1
              have g6 : W'.cell? ⟨b13, 2, none⟩ = some (.int .u64 x.f1.f1) := blk_cell HT.out.h13 2
              clear hC5
              rcases hj : joinI wd st x with ⟨r1, r2, r3, r4⟩
              have hs : stepI wd st (x, true) = (r1, r2, r3, r4) := hj
              have hok2 := joinI_ok wd st x HOK.out HOX.out
              obtain ⟨kk, hkk⟩ := (refJoin_ev wd st x HOK.out HOX.out)
              have HJ := Aside0.mk (hkk kk (Nat.le_refl _))
              have HS2 := Aside0.mk hs
              rw [hj] at HJ hok2
              have HOK2 := Aside0.mk hok2
              have HRS := Aside0.mk (show turnsTo p l (k + 1) = turnsTo p l k ++ [(x, true)] by rw [turnsTo_succ p l k hlt, HX.out, rightS_mod p HP.out.1 HP.out.2 k, ← HQ.out]; rw [decide_eq_true hr])
              have HQ2 := Aside0.mk (show q / 2 = p / 2 ^ (k + 1) by rw [HQ.out, Int.pow_succ, Int.ediv_ediv_of_nonneg (Int.le_of_lt (Int.pow_pos (by decide)))])
              clear hkk hj hs hok2
              go_wp2_with fail
              refine (paymasterref14_Join.calls kk wd st.f0 st.f1.f0 st.f1.f1 x.f0 x.f1.f0 x.f1.f1 r1 r2 r3 r4 _ HJ.out).mono ?_
              rintro e w5 ⟨rfl, hb5⟩
              clear g1 g2 g3 g4 g5 g6
              have hC6 := HC5.out.below hb5
              have HC6 := Aside0.mk hC6
              have hlz := blk_lt hC6.h2
              have q3 : B1 ≠ w5.heap.size := by have := HB1.out; omega
              have q4 : B1 + 1 ≠ w5.heap.size := by have := HB1.out; omega
              have z3 : B1 < w5.heap.size := by have := HB1.out; omega
              have z4 : B1 + 1 < w5.heap.size := by have := HB1.out; omega
              clear hb5 hlz
              by_cases h0 : r4 = 0
              · subst h0
                have cn0 : w5.cell? ⟨B1, 0, none⟩ = some (.string st.f0) := by rw [← HB1.out]; exact blk_cell hC6.h1 0
                have cn1 : w5.cell? ⟨B1, 1, none⟩ = some (.int .u64 st.f1.f0) := by rw [← HB1.out]; exact blk_cell hC6.h1 1
                have cn2 : w5.cell? ⟨B1, 2, none⟩ = some (.int .u64 st.f1.f1) := by rw [← HB1.out]; exact blk_cell hC6.h1 2
                have fn : ∀ i, w5.frozen? ⟨B1, i, none⟩ = false := fun i => by rw [← HB1.out]; exact blk_frozen hC6.h1 i
                clear hC6
                go_wp2
                go_roundw
                case rel =>
                  refine ⟨k + 1, nodeJ (r1, r2, r3, 0), q / 2, hlt, HQ2, ⟨by omega, by omega⟩, rfl, by go_num, ?_, HOK2, ?_⟩
                  · have := upTo_snoc wd (x, true) _ _ _ HU.out (by rw [HS2.out])
                    rw [HS2.out, ← HRS.out] at this
                    exact ⟨this⟩
                  · have := (HC6.out.step (nodeJ (r1, r2, r3, 0))).below (below_alloc (Below.refl _ _) (.cells #[.string r1, .int .u64 r2, .int .u64 r3] 26))
                    rw [HB1.out] at this
                    exact ⟨this⟩
                case measure => simp [intOf]; omega
              · have b1 : (r4 != 0) = true := by simp [h0]
                have cr0 : w5.cell? ⟨B1 + 1, 0, none⟩ = some (.string ⟨#[]⟩) := by rw [← HB1.out]; exact blk_cell hC6.h2 0
                have cr1 : w5.cell? ⟨B1 + 1, 1, none⟩ = some (.int .u64 0) := by rw [← HB1.out]; exact blk_cell hC6.h2 1
                have cr2 : w5.cell? ⟨B1 + 1, 2, none⟩ = some (.int .u64 0) := by rw [← HB1.out]; exact blk_cell hC6.h2 2
                have fr : ∀ i, w5.frozen? ⟨B1 + 1, i, none⟩ = false := fun i => by rw [← HB1.out]; exact blk_frozen hC6.h2 i
                have HFI := Aside0.mk (show climbI wd n p l = (⟨#[]⟩, 0, 0, r4) by
                  obtain ⟨rest, hrest⟩ := turnsTo_pre p l (k + 1) (l.length - (k + 1))
                  rw [show k + 1 + (l.length - (k + 1)) = l.length by omega, HRS.out, List.append_assoc] at hrest
                  rw [HI.out, hrest, climbL_up wd _ _ _ _ HU.out]
                  show climbL wd st ((x, true) :: rest) = _
                  unfold climbL; rw [HS2.out, if_neg h0])
                clear hC6
                go_wp2
                rw [HFI.out]
                have hend := (HC6.out.put ⟨⟨#[]⟩, ⟨0, 0⟩⟩).below (below_alloc (Below.refl _ _) (.cells #[.string r1, .int .u64 r2, .int .u64 r3] 26))
                rw [HB1.out] at hend
                exact bodyPost_ret (refclimb_results _ _ _ ⟨⟨#[]⟩, ⟨0, 0⟩⟩ _ rfl rfl (HB1.out ▸ hend.h2)) rfl ⟨rfl, hend.hB⟩
            · have b2 : (q % 2 == 1) = true := by simp; omega
              have g1 : W'.cell? ⟨b12, 0, none⟩ = some (.string st.f0) := blk_cell HT.out.h12 0
              have g2 : W'.cell? ⟨b12, 1, none⟩ = some (.int .u64 st.f1.f0) := blk_cell HT.out.h12 1
              have g3 : W'.cell? ⟨b12, 2, none⟩ = some (.int .u64 st.f1.f1) := blk_cell HT.out.h12 2
              have g4 : W'.cell? ⟨b13, 0, none⟩ = some (.string x.f0) := blk_cell HT.out.h13 0
              have g5 : W'.cell? ⟨b13, 1, none⟩ = some (.int .u64 x.f1.f0) := blk_cell HT.out.h13 1
              have g6 : W'.cell? ⟨b13, 2, none⟩ = some (.int .u64 x.f1.f1) := blk_cell HT.out.h13 2
              have f12 : ∀ i, W'.frozen? ⟨b12, i, none⟩ = false := fun i => blk_frozen HT.out.h12 i
              have f13 : ∀ i, W'.frozen? ⟨b13, i, none⟩ = false := fun i => blk_frozen HT.out.h13 i
              have u5 : b12 ≠ b13 := HT.out.ne
              have u6 : b13 ≠ b12 := Ne.symm HT.out.ne
              have hC5 := HC.out.below (HT.out.put x st).hB
              have HC5 := Aside0.mk hC5
              clear hC5
              rcases hj : joinI wd x st with ⟨r1, r2, r3, r4⟩
              have hs : stepI wd st (x, false) = (r1, r2, r3, r4) := hj
              have hok2 := joinI_ok wd x st HOX.out HOK.out
              obtain ⟨kk, hkk⟩ := (refJoin_ev wd x st HOX.out HOK.out)
              have HJ := Aside0.mk (hkk kk (Nat.le_refl _))
              have HS2 := Aside0.mk hs
              rw [hj] at HJ hok2
              have HOK2 := Aside0.mk hok2
              have HRS := Aside0.mk (show turnsTo p l (k + 1) = turnsTo p l k ++ [(x, false)] by rw [turnsTo_succ p l k hlt, HX.out, rightS_mod p HP.out.1 HP.out.2 k, ← HQ.out]; rw [decide_eq_false hr])
              have HQ2 := Aside0.mk (show q / 2 = p / 2 ^ (k + 1) by rw [HQ.out, Int.pow_succ, Int.ediv_ediv_of_nonneg (Int.le_of_lt (Int.pow_pos (by decide)))])
              clear hkk hj hs hok2
              go_wp2_with fail
              refine (paymasterref14_Join.calls kk wd x.f0 x.f1.f0 x.f1.f1 st.f0 st.f1.f0 st.f1.f1 r1 r2 r3 r4 _ HJ.out).mono ?_
              rintro e w5 ⟨rfl, hb5⟩
              clear g1 g2 g3 g4 g5 g6 f12 f13 u5 u6
              have hC6 := HC5.out.below hb5
              have HC6 := Aside0.mk hC6
              have hlz := blk_lt hC6.h2
              have q3 : B1 ≠ w5.heap.size := by have := HB1.out; omega
              have q4 : B1 + 1 ≠ w5.heap.size := by have := HB1.out; omega
              have z3 : B1 < w5.heap.size := by have := HB1.out; omega
              have z4 : B1 + 1 < w5.heap.size := by have := HB1.out; omega
              clear hb5 hlz
              by_cases h0 : r4 = 0
              · subst h0
                have cn0 : w5.cell? ⟨B1, 0, none⟩ = some (.string st.f0) := by rw [← HB1.out]; exact blk_cell hC6.h1 0
                have cn1 : w5.cell? ⟨B1, 1, none⟩ = some (.int .u64 st.f1.f0) := by rw [← HB1.out]; exact blk_cell hC6.h1 1
                have cn2 : w5.cell? ⟨B1, 2, none⟩ = some (.int .u64 st.f1.f1) := by rw [← HB1.out]; exact blk_cell hC6.h1 2
                have fn : ∀ i, w5.frozen? ⟨B1, i, none⟩ = false := fun i => by rw [← HB1.out]; exact blk_frozen hC6.h1 i
                clear hC6
                go_wp2
                go_roundw
                case rel =>
                  refine ⟨k + 1, nodeJ (r1, r2, r3, 0), q / 2, hlt, HQ2, ⟨by omega, by omega⟩, rfl, by go_num, ?_, HOK2, ?_⟩
                  · have := upTo_snoc wd (x, false) _ _ _ HU.out (by rw [HS2.out])
                    rw [HS2.out, ← HRS.out] at this
                    exact ⟨this⟩
                  · have := (HC6.out.step (nodeJ (r1, r2, r3, 0))).below (below_alloc (Below.refl _ _) (.cells #[.string r1, .int .u64 r2, .int .u64 r3] 26))
                    rw [HB1.out] at this
                    exact ⟨this⟩
                case measure => simp [intOf]; omega
              · have b1 : (r4 != 0) = true := by simp [h0]
                have cr0 : w5.cell? ⟨B1 + 1, 0, none⟩ = some (.string ⟨#[]⟩) := by rw [← HB1.out]; exact blk_cell hC6.h2 0
                have cr1 : w5.cell? ⟨B1 + 1, 1, none⟩ = some (.int .u64 0) := by rw [← HB1.out]; exact blk_cell hC6.h2 1
                have cr2 : w5.cell? ⟨B1 + 1, 2, none⟩ = some (.int .u64 0) := by rw [← HB1.out]; exact blk_cell hC6.h2 2
                have fr : ∀ i, w5.frozen? ⟨B1 + 1, i, none⟩ = false := fun i => by rw [← HB1.out]; exact blk_frozen hC6.h2 i
                have HFI := Aside0.mk (show climbI wd n p l = (⟨#[]⟩, 0, 0, r4) by
                  obtain ⟨rest, hrest⟩ := turnsTo_pre p l (k + 1) (l.length - (k + 1))
                  rw [show k + 1 + (l.length - (k + 1)) = l.length by omega, HRS.out, List.append_assoc] at hrest
                  rw [HI.out, hrest, climbL_up wd _ _ _ _ HU.out]
                  show climbL wd st ((x, false) :: rest) = _
                  unfold climbL; rw [HS2.out, if_neg h0])
                clear hC6
                go_wp2
                rw [HFI.out]
                have hend := (HC6.out.put ⟨⟨#[]⟩, ⟨0, 0⟩⟩).below (below_alloc (Below.refl _ _) (.cells #[.string r1, .int .u64 r2, .int .u64 r3] 26))
                rw [HB1.out] at hend
                exact bodyPost_ret (refclimb_results _ _ _ ⟨⟨#[]⟩, ⟨0, 0⟩⟩ _ rfl rfl (HB1.out ▸ hend.h2)) rfl ⟨rfl, hend.hB⟩
          · have hkl : k = l.length := by omega
            subst hkl
            have b1 : decide ((l.length : Int) < (l.length : Int)) = false := decide_eq_false (by omega)
            have HU2 := Aside0.mk (show climbI wd n p l = (st.f0, st.f1.f0, st.f1.f1, 0) by
              rw [HI.out, show turnsTo p l l.length = turnsTo p l l.length ++ [] by simp, climbL_up wd [] _ _ _ HU.out]; rfl)
            have cn0 : wr.cell? ⟨B1, 0, none⟩ = some (.string st.f0) := by rw [← HB1.out]; exact blk_cell HC.out.h1 0
            have cn1 : wr.cell? ⟨B1, 1, none⟩ = some (.int .u64 st.f1.f0) := by rw [← HB1.out]; exact blk_cell HC.out.h1 1
            have cn2 : wr.cell? ⟨B1, 2, none⟩ = some (.int .u64 st.f1.f1) := by rw [← HB1.out]; exact blk_cell HC.out.h1 2
            have cr0 : wr.cell? ⟨B1 + 1, 0, none⟩ = some (.string ⟨#[]⟩) := by rw [← HB1.out]; exact blk_cell HC.out.h2 0
            have cr1 : wr.cell? ⟨B1 + 1, 1, none⟩ = some (.int .u64 0) := by rw [← HB1.out]; exact blk_cell HC.out.h2 1
            have cr2 : wr.cell? ⟨B1 + 1, 2, none⟩ = some (.int .u64 0) := by rw [← HB1.out]; exact blk_cell HC.out.h2 2
            have fr : ∀ i, wr.frozen? ⟨B1 + 1, i, none⟩ = false := fun i => by rw [← HB1.out]; exact blk_frozen HC.out.h2 i
            go_wp2
            rw [HU2.out]
            have hend := HC.out.put st
            rw [HB1.out] at hend
            exact bodyPost_ret (refclimb_results _ _ _ st _ rfl rfl (HB1.out ▸ hend.h2)) rfl ⟨rfl, hend.hB⟩
def paymasterref14_Climb.f (x0 : Int) (x1 : ByteArray) (x2 x3 p : Int) (l : List SNode) : Option (ByteArray × Int × Int × Int) :=
  if (0 ≤ p ∧ p < 18446744073709551616) ∧ ((0 ≤ x2 ∧ x2 < 18446744073709551616) ∧ (0 ≤ x3 ∧ x3 < 18446744073709551616)) ∧ ∀ x ∈ l, (0 ≤ x.f1.f0 ∧ x.f1.f0 < 18446744073709551616) ∧ (0 ≤ x.f1.f1 ∧ x.f1.f1 < 18446744073709551616) then some (climbI x0 ⟨x1, ⟨x2, x3⟩⟩ p l) else none
theorem paymasterref14_Climb.calls (x0 : Int) (x1 : ByteArray) (x2 x3 p : Int) (A : Option Addr) (c : Nat) (l : List SNode) (r1 : ByteArray) (r2 r3 r4 : Int) (w : World) (hK : Laid w) (hr : Kd.C kNode w A l.length l) (hc : l.length ≤ c) (h : paymasterref14_Climb.f x0 x1 x2 x3 p l = some (r1, r2, r3, r4)) :
    Calls Tryd.prog 15 #[.int .i64 x0, .agg #[.string x1, .int .u64 x2, .int .u64 x3], .int .u64 p, .slice A l.length c] w fun e w' => e = .returned (.tuple #[.agg #[.string r1, .int .u64 r2, .int .u64 r3], .int .i64 r4]) ∧ Below w.heap.size w w' := by
  unfold paymasterref14_Climb.f at h
  split at h
  · rename_i hh
    have h2 := Option.some.inj h
    refine (refclimb.calls x0 ⟨x1, ⟨x2, x3⟩⟩ p A c l w hK hr hc hh.1 ⟨hh.2.1.1, hh.2.1.2⟩ (fun x hx => ⟨(hh.2.2 x hx).1, (hh.2.2 x hx).2⟩)).mono ?_
    rintro e w' ⟨rfl, hb⟩
    rw [h2]
    exact ⟨rfl, hb⟩
  · cases h

end Go.Proofs.YtlmmpncdemblbaaDoor.P

namespace Go.Proofs.YtlmmpncdemblbaaDoor.P
open Go.RowKit Go.Proofs.YtlmmpncdemblbaaDoorW.PrintWords Go.Proofs.YtlmmpncdemblbaaDoorW.PrintLast Go.Proofs.YtlmmpncdemblbaaDoorW.PrintMore
attribute [local go_sem] max2_int min2_int max_two min_two max_three min_three max_four min_four   -- for this text's walks alone
set_option linter.unusedVariables false
set_option linter.unusedSimpArgs false

attribute [local go_sem high] eqANode
-- EXTERN: node_Climb

-- EXTERN: paymasterref14_Climb

/-! ### paymasterlaw14_NodeClimbs: function 3 -/
def paymasterlaw14_NodeClimbs.j0 : Nat → Int → Int → List (SNode) → Bool → ByteArray → Int → Int → Option (Bool)
  | 0, _, _, _, _, _, _, _ => none
  | k + 1, x0, x2, x3, x21, x102000, x102001, x102002 => if x21 = true then (some true) else ((some (([] : List (SNode)) : List (SNode))).bind fun y103 => (if y103.length + x3.length < 4398046511104 then ((some (y103 ++ x3 : List (SNode))).bind fun y106 => ((node_Climb.f x0 x102000 x102001 x102002 x2 y106).bind fun bt109 => ((paymasterref14_Climb.f x0 x102000 x102001 x102002 x2 x3).bind fun bt114 => (if (bt109.1.toList == bt114.1.toList && ((bt109.2.1 == bt114.2.1 && (bt109.2.2.1 == bt114.2.2.1)))) = true then (if bt109.2.2.2 = bt114.2.2.2 then ((paymasterref14_Same.f k y106 x3).bind fun t119 => (some t119)) else (some false)) else (some false))))) else (none)))
def paymasterlaw14_NodeClimbs.f (k : Nat) (a0 : Int) (a1_0 : ByteArray) (a1_1 : Int) (a1_2 : Int) (a2 : Int) (l3 : List (SNode)) : Option (Bool) := (paymasterlaw14_Great.f k l3).bind fun t102 => (if t102 = true then (paymasterlaw14_NodeClimbs.j0 k a0 a2 l3 true a1_0 a1_1 a1_2) else (paymasterlaw14_NodeClimbs.j0 k a0 a2 l3 (decide ((a1_0.size : Int) > 60)) a1_0 a1_1 a1_2))
theorem paymasterlaw14_NodeClimbs.mono_l : ∀ k, (∀ y0 y1 y2 y3 y4 y5 y6, LeO (paymasterlaw14_NodeClimbs.j0 k y0 y1 y2 y3 y4 y5 y6) (paymasterlaw14_NodeClimbs.j0 (k + 1) y0 y1 y2 y3 y4 y5 y6))
  | 0 => fun _ _ _ _ _ _ _ r h => by simp [paymasterlaw14_NodeClimbs.j0] at h
  | k + 1 => by
    have ih0 := paymasterlaw14_NodeClimbs.mono_l k
    · intro y0 y1 y2 y3 y4 y5 y6
      unfold paymasterlaw14_NodeClimbs.j0
      repeat' first
      | (with_reducible exact ih0 _ _ _ _ _ _ _)
      | (with_reducible exact paymasterlaw14_Great.mono _ _)
      | (with_reducible exact paymasterref14_Same.mono _ _ _)
      | (with_reducible exact LeO.refl _)
      | (with_reducible exact LeO.none _)
      | (with_reducible refine LeO.ite ?_ ?_)
      | (with_reducible refine LeO.bind ?_ (fun _ => ?_))
      | exact ih0 _ _ _ _ _ _ _
      | exact paymasterlaw14_Great.mono _ _
      | exact paymasterref14_Same.mono _ _ _
      | exact LeO.none _
      | refine LeO.ite ?_ ?_
      | refine LeO.bind ?_ (fun _ => ?_)
theorem paymasterlaw14_NodeClimbs.mono : ∀ a0 a1 a2 a3 a4 a5 k, LeO (paymasterlaw14_NodeClimbs.f k a0 a1 a2 a3 a4 a5) (paymasterlaw14_NodeClimbs.f (k + 1) a0 a1 a2 a3 a4 a5) := by
  intro a0 a1 a2 a3 a4 a5 k
  have ih0 := paymasterlaw14_NodeClimbs.mono_l k
  unfold paymasterlaw14_NodeClimbs.f
  repeat' first
      | (with_reducible exact ih0 _ _ _ _ _ _ _)
      | (with_reducible exact paymasterlaw14_Great.mono _ _)
      | (with_reducible exact paymasterref14_Same.mono _ _ _)
      | (with_reducible exact LeO.refl _)
      | (with_reducible exact LeO.none _)
      | (with_reducible refine LeO.ite ?_ ?_)
      | (with_reducible refine LeO.bind ?_ (fun _ => ?_))
      | exact ih0 _ _ _ _ _ _ _
      | exact paymasterlaw14_Great.mono _ _
      | exact paymasterref14_Same.mono _ _ _
      | exact LeO.none _
      | refine LeO.ite ?_ ?_
      | refine LeO.bind ?_ (fun _ => ?_)
set_option maxHeartbeats 8000000 in
set_option maxRecDepth 100000 in
theorem paymasterlaw14_NodeClimbs.calls (k : Nat) (a0 : Int) (a1_0 : ByteArray) (a1_1 : Int) (a1_2 : Int) (a2 : Int) (A3 : Option Addr) (c3 : Nat) (l3 : List (SNode)) (r : Bool) (w : World) (hK : Laid w) (hr3 : Kd.C kNode w A3 l3.length l3) (hc3 : l3.length ≤ c3) (h : paymasterlaw14_NodeClimbs.f k a0 a1_0 a1_1 a1_2 a2 l3 = some r) :
    Calls Tryd.prog 3 #[.int .i64 a0, .agg #[.string a1_0, .int .u64 a1_1, .int .u64 a1_2], .int .u64 a2, .slice A3 l3.length c3] w fun e w' => e = .returned (.bool r) ∧ Below w.heap.size w w' := by
  have hu26 := Tryd.underlying26
  have HR3 := Aside0.mk hr3
  have HC3 := Aside0.mk hc3
  clear hr3 hc3
  have HB := Aside0.mk (Below.refl w.heap.size w)
  have HLD := Aside0.mk hK
  clear hK
  have H : ((paymasterlaw14_Great.f k l3).bind fun t102 => (if t102 = true then (paymasterlaw14_NodeClimbs.j0 k a0 a2 l3 true a1_0 a1_1 a1_2) else (paymasterlaw14_NodeClimbs.j0 k a0 a2 l3 (decide ((a1_0.size : Int) > 60)) a1_0 a1_1 a1_2))) = some r := h
  clear h
  have HC5 := Aside0.mk H
  clear H
  go_enter Tryd.func3, Tryd.ntmps3
  go_upto_region 1 with (first | ((with_reducible refine gate_dst (N := 5) rfl ?_); (try (refine gate_guard (by rfl) ?_; dsimp only)); refine box_event ?hg (N := 5) ?hd (cs := #[.string a1_0, .int .u64 a1_1, .int .u64 a1_2]) (t := 26) ?hr ?_; (case hd => rfl); (case hg => rfl); (case hr => first | (go_simp; done) | (go_simp; rfl)); intro gb101 hg w6 hbox hb; have n0_ := Aside0.mk (below_step (by repeat (first | (with_reducible first | exact HB.out | apply below_alloc | apply pw_below_drewN | apply below_drew1) | exact HB.out)) hb); have n1_ := Aside0.mk (hbox); have n2_ := Aside0.mk ((by rw [hg]; exact (below_size (by repeat (first | (with_reducible first | exact HB.out | apply below_alloc | apply pw_below_drewN | apply below_drew1) | exact HB.out))) : w.heap.size ≤ gb101)); have n3_ := Aside0.mk ((by rw [hg]; exact (below_size (by repeat (first | (with_reducible first | exact HB.out | apply below_alloc | apply pw_below_drewN | apply below_drew1) | exact HB.out))) : w.heap.size ≤ gb101)); clear HB; have HB := n0_; have BK101 := n1_; have GW101 := n2_; have GE101 := n3_; clear n0_ n1_ n2_ n3_; clear hb hbox hg))
  (try simp only [Act.put, List.setIfInBounds_toArray, List.set_cons_zero, List.set_cons_succ])
  go_cut [21] (fun v21 wc => ∃ (kq : Nat) (x21_4 : Bool), v21 = .bool x21_4 ∧ Aside0 (paymasterlaw14_NodeClimbs.j0 kq a0 a2 l3 x21_4 a1_0 a1_1 a1_2 = some r) ∧ Aside0 (kq ≤ k) ∧ Aside0 (wc.heap[gb101]? = some (.cells #[.string a1_0, .int .u64 a1_1, .int .u64 a1_2] 26 (0, 0))) ∧ Aside0 (Below w.heap.size w wc))
  case first =>
    have H := HC5.out
    clear HC5
    replace H := Option.bind_eq_some_iff.mp H
    obtain ⟨t102, A70, H⟩ := H
    replace H : (if t102 = true then (paymasterlaw14_NodeClimbs.j0 k a0 a2 l3 true a1_0 a1_1 a1_2) else (paymasterlaw14_NodeClimbs.j0 k a0 a2 l3 (decide ((a1_0.size : Int) > 60)) a1_0 a1_1 a1_2)) = some r := H
    have A7 := Aside0.mk A70
    clear A70
    by_cases c8 : t102 = true
    · subst c8
      have H1 : (paymasterlaw14_NodeClimbs.j0 k a0 a2 l3 true a1_0 a1_1 a1_2) = some r := by rw [if_pos rfl] at H; exact H
      clear H
      have H := H1
      clear H1
      have H' := Aside0.mk H
      clear H
      go_wp2_with (first | ((with_reducible refine gate_callee (f := 13) rfl ?_); refine goesL_ (some 15) rfl rfl Tryd.func13 (by kernel_rfl) rfl #[.slice A3 l3.length c3] rfl (by (try simp only [List.map_toArray, List.map_cons, List.map_nil]); first | done | rfl | (simp only [List.length_drop, List.length_take]; rfl)) ?_; (with_reducible refine (paymasterlaw14_Great.calls k _ _ l3 true _ ?side1 ?side2 A7.out).mono ?_); (case side1 => repeat (first | exact (Kd.C_below HR3.out HB.out) | (with_reducible refine Kd.C_alloc ?_ _) | (with_reducible refine Kd.C_drewN ?_ _) | (with_reducible refine Kd.C_drew ?_))); (case side2 => exact HC3.out); rintro e w' ⟨rfl, ⟨nd, rfl⟩⟩; refine ⟨_, rfl, ?_⟩))
      go_meet
      case rel => exact ⟨_, (true), (by first | rfl | (simp; done) | (simp [*]; done)), H', ⟨by first | omega | exact Nat.le_refl _⟩, ⟨by (with_reducible repeat (first | refine blk_drewN ?_ _ | refine blk_drew ?_ | refine blk_alloc ?_ _)); exact BK101.out⟩, ⟨by repeat (first | (with_reducible first | exact HB.out | apply below_alloc | apply pw_below_drewN | apply below_drew1 | refine below_set ?_ GE101.out) | exact HB.out)⟩⟩
    · replace c8 := Bool.eq_false_iff.mpr c8
      subst c8
      have H1 : (paymasterlaw14_NodeClimbs.j0 k a0 a2 l3 (decide ((a1_0.size : Int) > 60)) a1_0 a1_1 a1_2) = some r := by rw [if_neg (show ¬ (false = true) by decide)] at H; exact H
      clear H
      have H := H1
      clear H1
      have H' := Aside0.mk H
      clear H
      go_wp2_with (first | ((with_reducible refine gate_callee (f := 13) rfl ?_); refine goesL_ (some 15) rfl rfl Tryd.func13 (by kernel_rfl) rfl #[.slice A3 l3.length c3] rfl (by (try simp only [List.map_toArray, List.map_cons, List.map_nil]); first | done | rfl | (simp only [List.length_drop, List.length_take]; rfl)) ?_; (with_reducible refine (paymasterlaw14_Great.calls k _ _ l3 false _ ?side1 ?side2 A7.out).mono ?_); (case side1 => repeat (first | exact (Kd.C_below HR3.out HB.out) | (with_reducible refine Kd.C_alloc ?_ _) | (with_reducible refine Kd.C_drewN ?_ _) | (with_reducible refine Kd.C_drew ?_))); (case side2 => exact HC3.out); rintro e w' ⟨rfl, ⟨nd, rfl⟩⟩; refine ⟨_, rfl, ?_⟩; have hcz9_0 : w6.cell? ⟨gb101, 0, none⟩ = some (.string a1_0) := (blk_cell BK101.out 0).trans rfl; have hcz9_1 : w6.cell? ⟨gb101, 1, none⟩ = some (.int .u64 a1_1) := (blk_cell BK101.out 1).trans rfl; have hcz9_2 : w6.cell? ⟨gb101, 2, none⟩ = some (.int .u64 a1_2) := (blk_cell BK101.out 2).trans rfl; have hfz9_0 := blk_frozen BK101.out 0; have hfz9_1 := blk_frozen BK101.out 1; have hfz9_2 := blk_frozen BK101.out 2))
      go_meet
      case rel => exact ⟨_, (decide ((a1_0.size : Int) > 60)), (by first | rfl | (simp; done) | (simp [*]; done)), H', ⟨by first | omega | exact Nat.le_refl _⟩, ⟨by (with_reducible repeat (first | refine blk_drewN ?_ _ | refine blk_drew ?_ | refine blk_alloc ?_ _)); exact BK101.out⟩, ⟨by repeat (first | (with_reducible first | exact HB.out | apply below_alloc | apply pw_below_drewN | apply below_drew1 | refine below_set ?_ GE101.out) | exact HB.out)⟩⟩
  case rest =>
    clear HC5
    try clear c1
    try clear p2
    try clear c3
    try clear c8
    try clear hcz9_0
    try clear hcz9_1
    try clear hcz9_2
    try clear hfz9_0
    try clear hfz9_1
    try clear hfz9_2
    obtain ⟨kq, x21_4, rfl, HA, HJ4, BK101, HB⟩ := hcut
    cases kq with
    | zero => exact absurd HA.out (by simp [paymasterlaw14_NodeClimbs.j0])
    | succ kj4 =>
      have H := HA.out
      clear HA
      simp only [paymasterlaw14_NodeClimbs.j0] at H
      by_cases c10 : x21_4 = true
      · subst c10
        have H1 : (some true) = some r := by rw [if_pos rfl] at H; exact H
        clear H
        have H := H1
        clear H1
        obtain rfl := Option.some.inj H
        go_wp2
        go_ret
        exact ⟨by first | rfl | (simp [errW_none, errW_some] <;> rfl) | (simp [*, errW_none, errW_some] <;> rfl), by repeat (first | (with_reducible first | exact HB.out | apply below_alloc | apply pw_below_drewN | apply below_drew1 | refine below_set ?_ GE101.out) | exact HB.out)⟩
      · replace c10 := Bool.eq_false_iff.mpr c10
        subst c10
        have H1 : ((some (([] : List (SNode)) : List (SNode))).bind fun y103 => (if y103.length + l3.length < 4398046511104 then ((some (y103 ++ l3 : List (SNode))).bind fun y106 => ((node_Climb.f a0 a1_0 a1_1 a1_2 a2 y106).bind fun bt109 => ((paymasterref14_Climb.f a0 a1_0 a1_1 a1_2 a2 l3).bind fun bt114 => (if (bt109.1.toList == bt114.1.toList && ((bt109.2.1 == bt114.2.1 && (bt109.2.2.1 == bt114.2.2.1)))) = true then (if bt109.2.2.2 = bt114.2.2.2 then ((paymasterref14_Same.f kj4 y106 l3).bind fun t119 => (some t119)) else (some false)) else (some false))))) else (none))) = some r := by rw [if_neg (show ¬ (false = true) by decide)] at H; exact H
        clear H
        have H := H1
        clear H1
        obtain ⟨y103, hy103⟩ : ∃ y_ : List (SNode), y_ = (([] : List (SNode))) := ⟨_, rfl⟩
        replace H : (if y103.length + l3.length < 4398046511104 then ((some (y103 ++ l3 : List (SNode))).bind fun y106 => ((node_Climb.f a0 a1_0 a1_1 a1_2 a2 y106).bind fun bt109 => ((paymasterref14_Climb.f a0 a1_0 a1_1 a1_2 a2 l3).bind fun bt114 => (if (bt109.1.toList == bt114.1.toList && ((bt109.2.1 == bt114.2.1 && (bt109.2.2.1 == bt114.2.2.1)))) = true then (if bt109.2.2.2 = bt114.2.2.2 then ((paymasterref14_Same.f kj4 y106 l3).bind fun t119 => (some t119)) else (some false)) else (some false))))) else (none)) = some r := by first | (rw [hy103]; with_reducible exact H) | (have H2_ := (Option.bind_some _ _).symm.trans H; rw [hy103]; with_reducible exact H2_) | (have H2_ := (Option.bind_some _ _).symm.trans H; with_reducible exact H2_) | with_reducible exact H | (rw [hy103]; exact H) | exact H
        have Ny103 := Aside0.mk hy103
        clear hy103
        by_cases c11 : y103.length + l3.length < 4398046511104
        · rw [if_pos c11] at H
          have LMc11 := Aside0.mk c11
          clear c11
          obtain ⟨y106, hy106⟩ : ∃ y_ : List (SNode), y_ = (y103 ++ l3) := ⟨_, rfl⟩
          replace H : ((node_Climb.f a0 a1_0 a1_1 a1_2 a2 y106).bind fun bt109 => ((paymasterref14_Climb.f a0 a1_0 a1_1 a1_2 a2 l3).bind fun bt114 => (if (bt109.1.toList == bt114.1.toList && ((bt109.2.1 == bt114.2.1 && (bt109.2.2.1 == bt114.2.2.1)))) = true then (if bt109.2.2.2 = bt114.2.2.2 then ((paymasterref14_Same.f kj4 y106 l3).bind fun t119 => (some t119)) else (some false)) else (some false)))) = some r := by first | (rw [hy106]; with_reducible exact H) | (have H2_ := (Option.bind_some _ _).symm.trans H; rw [hy106]; with_reducible exact H2_) | (have H2_ := (Option.bind_some _ _).symm.trans H; with_reducible exact H2_) | with_reducible exact H | (rw [hy106]; exact H) | exact H
          have Ny106 := Aside0.mk hy106
          clear hy106
          replace H := Option.bind_eq_some_iff.mp H
          obtain ⟨⟨t109, t110, t111, t112⟩, A120, H⟩ := H
          replace H : ((paymasterref14_Climb.f a0 a1_0 a1_1 a1_2 a2 l3).bind fun bt114 => (if (t109.toList == bt114.1.toList && ((t110 == bt114.2.1 && (t111 == bt114.2.2.1)))) = true then (if t112 = bt114.2.2.2 then ((paymasterref14_Same.f kj4 y106 l3).bind fun t119 => (some t119)) else (some false)) else (some false))) = some r := H
          have A12 := Aside0.mk A120
          clear A120
          replace H := Option.bind_eq_some_iff.mp H
          obtain ⟨⟨t114, t115, t116, t117⟩, A130, H⟩ := H
          replace H : (if (t109.toList == t114.toList && ((t110 == t115 && (t111 == t116)))) = true then (if t112 = t117 then ((paymasterref14_Same.f kj4 y106 l3).bind fun t119 => (some t119)) else (some false)) else (some false)) = some r := H
          have A13 := Aside0.mk A130
          clear A130
          by_cases c14 : (t109.toList == t114.toList && ((t110 == t115 && (t111 == t116)))) = true
          · rw [if_pos c14] at H
            have c14b0 : (t109.toList == t114.toList && ((t110 == t115 && (t111 == t116)))) = true := c14
            (try (have c14b1 : decide (t109.toList = t114.toList && ((t110 == t115 && (t111 == t116)))) = true := by simpa using c14))
            (try (have c14b2 : (t109.toList == t114.toList && ((t110 == t115 && (t111 == t116)))) = true := by simpa using c14))
            clear c14
            by_cases c15 : t112 = t117
            · rw [if_pos c15] at H
              have c15b0 : (t112 == t117) = true := beq_iff_eq.mpr c15
              have c15b1 : (t112 != t117) = false := bne_eq_false_iff_eq.mpr c15
              clear c15
              replace H := Option.bind_eq_some_iff.mp H
              obtain ⟨t119, A160, H⟩ := H
              replace H : (some t119) = some r := H
              have A16 := Aside0.mk A160
              clear A160
              obtain rfl := Option.some.inj H
              go_wp2_with (first | ((with_reducible refine gate_dst (N := 22) rfl ?_); (try (refine gate_guard (by rfl) ?_; dsimp only)); refine Kd.R_lit kNode _ 26 ?hg (N := 22) ?hd (xs := ([] : List (SNode))) (inner := []) (ok := fun _ => True) (okp := fun _ => True) ?hr ?hp (fun _ hk => hk) trivial (Below.refl _ _) (Nat.le_refl _) (by simp) ?_; (case hd => rfl); (case hg => rfl); (case hr => first | (go_simp; done) | (go_simp; rfl)); (case hp => exact (Reps.none _ _)); intro v104 w17 ho18 hb hg_ hnew_; clear hg_ hnew_; (first | rw [← Ny103.out] at ho18 | (simp only [Int.reduceToNat] at ho18; rw [← Ny103.out] at ho18)); have n0_ := Aside0.mk (Kd.R_lower (Kd.R_newB ho18 (g := gb101) (o := .cells #[.string a1_0, .int .u64 a1_1, .int .u64 a1_2] 26 (0, 0)) (by (with_reducible repeat (first | refine blk_drewN ?_ _ | refine blk_drew ?_ | refine blk_alloc ?_ _)); exact BK101.out)) (below_size (by repeat (first | (with_reducible first | exact HB.out | apply below_alloc | apply pw_below_drewN | apply below_drew1 | refine below_set ?_ GE101.out) | exact HB.out)))); have n1_ := Aside0.mk (blk_below (g := gb101) (o := .cells #[.string a1_0, .int .u64 a1_1, .int .u64 a1_2] 26 (0, 0)) (by (with_reducible repeat (first | refine blk_drewN ?_ _ | refine blk_drew ?_ | refine blk_alloc ?_ _)); exact BK101.out) hb); have n2_ := Aside0.mk (below_step (by repeat (first | (with_reducible first | exact HB.out | apply below_alloc | apply pw_below_drewN | apply below_drew1 | refine below_set ?_ GE101.out) | exact HB.out)) hb); clear BK101; clear HB; have HO105 := n0_; have BK101 := n1_; have HB := n2_; clear n0_ n1_ n2_; clear hb ho18) | ((with_reducible refine gate_builtin (b := .append) (xs := #[.tmp 22, .tmp 23]) rfl ?_); (try (refine gate_guard (by rfl) ?_; dsimp only)); at_builtin; refine Kd.R_append_rows kNode (w0 := w) w.heap.size rfl (.tmp 22) (.tmp 23) 27 26 (.agg #[(.string ⟨#[]⟩), (.int .u64 0), (.int .u64 0)]) 32 rfl Tryd.underlying27 infoNode rfl (by decide) (by omega) v104 y103 l3 _ _ _ (fun k_ => k_ ≠ gb101) (fun _ => False) rfl rfl ?aO ?aR (fun _ _ h => h) (fun _ h => h.elim) ?aF ?aB ?aS ?aL ?_; (case aR => repeat (first | exact (Kd.C_below HR3.out HB.out) | (with_reducible refine Kd.C_alloc ?_ _) | (with_reducible refine Kd.C_drewN ?_ _) | (with_reducible refine Kd.C_drew ?_))); (case aB => exact (by repeat (first | (with_reducible first | exact HB.out | apply below_alloc | apply pw_below_drewN | apply below_drew1 | refine below_set ?_ GE101.out) | exact HB.out))); (case aF => exact (fun k_ hk => Kd.freshB (g := gb101) (o := .cells #[.string a1_0, .int .u64 a1_1, .int .u64 a1_2] 26 (0, 0)) (by (with_reducible repeat (first | refine blk_drewN ?_ _ | refine blk_drew ?_ | refine blk_alloc ?_ _)); exact BK101.out) k_ hk)); (case aO => exact (by (with_reducible repeat (first | apply Kd.R_alloc | apply Kd.R_drewN | apply Kd.R_drew)); exact Kd.R_mono HO105.out (fun _ hk => hk.2))); (case aS => exact (below_size (by repeat (first | (with_reducible first | exact HB.out | apply below_alloc | apply pw_below_drewN | apply below_drew1 | refine below_set ?_ GE101.out) | exact HB.out)))); (case aL => have := LMc11.out; omega); intro v107 w19 ho hb hg hat; rw [← Ny106.out] at ho; have n0_ := Aside0.mk (blk_grown (g := gb101) (o := .cells #[.string a1_0, .int .u64 a1_1, .int .u64 a1_2] 26 (0, 0)) (by (with_reducible repeat (first | refine blk_drewN ?_ _ | refine blk_drew ?_ | refine blk_alloc ?_ _)); exact BK101.out) hg (Kd.R_away HO105.out (fun _ hk => hk.2))); have n1_ := Aside0.mk (hb); have n2_ := Aside0.mk (ho); clear BK101; clear HB; clear HO105; have BK101 := n0_; have HB := n1_; have HO108 := n2_; clear n0_ n1_ n2_; clear ho hb hg hat; have hcz20_0 : w19.cell? ⟨gb101, 0, none⟩ = some (.string a1_0) := (blk_cell BK101.out 0).trans rfl; have hcz20_1 : w19.cell? ⟨gb101, 1, none⟩ = some (.int .u64 a1_1) := (blk_cell BK101.out 1).trans rfl; have hcz20_2 : w19.cell? ⟨gb101, 2, none⟩ = some (.int .u64 a1_2) := (blk_cell BK101.out 2).trans rfl; have hfz20_0 := blk_frozen BK101.out 0; have hfz20_1 := blk_frozen BK101.out 1; have hfz20_2 := blk_frozen BK101.out 2; obtain ⟨Ao21, co21, eo21⟩ := Kd.R_slice HO108.out; subst eo21) | ((with_reducible refine gate_callee (f := 14) rfl ?_); refine goesL_ (some 30) rfl rfl Tryd.func14 (by kernel_rfl) rfl #[.int .i64 a0, .agg #[.string a1_0, .int .u64 a1_1, .int .u64 a1_2], .int .u64 a2, .slice Ao21 y106.length co21] rfl (by (try simp only [List.map_toArray, List.map_cons, List.map_nil]); first | done | rfl | (simp only [List.length_drop, List.length_take]; rfl)) ?_; (with_reducible refine (node_Climb.calls a0 a1_0 a1_1 a1_2 a2 _ _ y106 t109 t110 t111 t112 _ ?side1 ?side2 ?side3 A12.out).mono ?_); (case side1 => exact Laid.below HLD.out (by repeat (first | (with_reducible first | exact HB.out | apply below_alloc | apply pw_below_drewN | apply below_drew1 | refine below_set ?_ GE101.out) | exact HB.out))); (case side2 => repeat (first | exact (Kd.R_reads' HO108.out).2.2 | (with_reducible refine Kd.C_alloc ?_ _) | (with_reducible refine Kd.C_drewN ?_ _) | (with_reducible refine Kd.C_drew ?_))); (case side3 => exact (Kd.R_reads' HO108.out).2.1); rintro e w22 ⟨rfl, hb⟩; refine ⟨_, rfl, ?_⟩; have n0_ := Aside0.mk (Kd.R_below (by (with_reducible repeat (first | apply Kd.R_alloc | apply Kd.R_drewN | apply Kd.R_drew)); exact HO108.out) hb); have n1_ := Aside0.mk (blk_below (g := gb101) (o := .cells #[.string a1_0, .int .u64 a1_1, .int .u64 a1_2] 26 (0, 0)) (by (with_reducible repeat (first | refine blk_drewN ?_ _ | refine blk_drew ?_ | refine blk_alloc ?_ _)); exact BK101.out) hb); have n2_ := Aside0.mk (below_step (by repeat (first | (with_reducible first | exact HB.out | apply below_alloc | apply pw_below_drewN | apply below_drew1 | refine below_set ?_ GE101.out) | exact HB.out)) hb); clear HO108; clear BK101; clear HB; have HO108 := n0_; have BK101 := n1_; have HB := n2_; clear n0_ n1_ n2_; (try clear hb); (try clear hb2); (try clear hk); (try clear hi)) | ((with_reducible refine gate_dst (N := 10) rfl ?_); (try (refine gate_guard (by rfl) ?_; dsimp only)); refine box_event ?hg (N := 10) ?hd (cs := #[.string (⟨#[]⟩ : ByteArray), .int .u64 0, .int .u64 0]) (t := 26) ?hr ?_; (case hd => rfl); (case hg => rfl); (case hr => first | (go_simp; done) | (go_simp; rfl)); intro gb113 hg w23 hbox hb; have n0_ := Aside0.mk (Kd.R_below (Kd.R_elderB (by (with_reducible repeat (first | apply Kd.R_alloc | apply Kd.R_drewN | apply Kd.R_drew)); exact HO108.out) gb113 (Nat.le_of_eq hg.symm)) hb); have n1_ := Aside0.mk (blk_below (g := gb101) (o := .cells #[.string a1_0, .int .u64 a1_1, .int .u64 a1_2] 26 (0, 0)) (by (with_reducible repeat (first | refine blk_drewN ?_ _ | refine blk_drew ?_ | refine blk_alloc ?_ _)); exact BK101.out) hb); have n2_ := Aside0.mk (below_step (by repeat (first | (with_reducible first | exact HB.out | apply below_alloc | apply pw_below_drewN | apply below_drew1 | refine below_set ?_ GE101.out) | exact HB.out)) hb); have n3_ := Aside0.mk (hbox); have n4_ := Aside0.mk ((by rw [hg]; exact (below_size (by repeat (first | (with_reducible first | exact HB.out | apply below_alloc | apply pw_below_drewN | apply below_drew1 | refine below_set ?_ GE101.out) | exact HB.out))) : w.heap.size ≤ gb113)); have n5_ := Aside0.mk ((by rw [hg]; exact (below_size (by repeat (first | (with_reducible first | exact HB.out | apply below_alloc | apply pw_below_drewN | apply below_drew1 | refine below_set ?_ GE101.out) | exact HB.out))) : w.heap.size ≤ gb113)); have n6_ := Aside0.mk ((by rw [hg]; exact Nat.ne_of_lt (blk_lt (g := gb101) (o := .cells #[.string a1_0, .int .u64 a1_1, .int .u64 a1_2] 26 (0, 0)) (by (with_reducible repeat (first | refine blk_drewN ?_ _ | refine blk_drew ?_ | refine blk_alloc ?_ _)); exact BK101.out)) : gb101 ≠ gb113)); have n7_ := Aside0.mk ((by rw [hg]; exact Nat.ne_of_gt (blk_lt (g := gb101) (o := .cells #[.string a1_0, .int .u64 a1_1, .int .u64 a1_2] 26 (0, 0)) (by (with_reducible repeat (first | refine blk_drewN ?_ _ | refine blk_drew ?_ | refine blk_alloc ?_ _)); exact BK101.out)) : gb113 ≠ gb101)); clear HO108; clear BK101; clear HB; have HO108 := n0_; have BK101 := n1_; have HB := n2_; have BK113 := n3_; have GW113 := n4_; have GE113 := n5_; have NB101_113 := n6_; have NB113_101 := n7_; clear n0_ n1_ n2_ n3_ n4_ n5_ n6_ n7_; clear hb hbox hg; have hnb24 := NB113_101.out; have hnc24 := NB101_113.out; have hcz25_0 : w23.cell? ⟨gb113, 0, none⟩ = some (.string (⟨#[]⟩ : ByteArray)) := (blk_cell BK113.out 0).trans rfl; have hcz25_1 : w23.cell? ⟨gb113, 1, none⟩ = some (.int .u64 0) := (blk_cell BK113.out 1).trans rfl; have hcz25_2 : w23.cell? ⟨gb113, 2, none⟩ = some (.int .u64 0) := (blk_cell BK113.out 2).trans rfl; have hfz25_0 := blk_frozen BK113.out 0; have hfz25_1 := blk_frozen BK113.out 1; have hfz25_2 := blk_frozen BK113.out 2; have hcz26_0 : w23.cell? ⟨gb101, 0, none⟩ = some (.string a1_0) := (blk_cell BK101.out 0).trans rfl; have hcz26_1 : w23.cell? ⟨gb101, 1, none⟩ = some (.int .u64 a1_1) := (blk_cell BK101.out 1).trans rfl; have hcz26_2 : w23.cell? ⟨gb101, 2, none⟩ = some (.int .u64 a1_2) := (blk_cell BK101.out 2).trans rfl; have hfz26_0 := blk_frozen BK101.out 0; have hfz26_1 := blk_frozen BK101.out 1; have hfz26_2 := blk_frozen BK101.out 2) | ((with_reducible refine gate_callee (f := 15) rfl ?_); refine goesL_ (some 38) rfl rfl Tryd.func15 (by kernel_rfl) rfl #[.int .i64 a0, .agg #[.string a1_0, .int .u64 a1_1, .int .u64 a1_2], .int .u64 a2, .slice A3 l3.length c3] rfl (by (try simp only [List.map_toArray, List.map_cons, List.map_nil]); first | done | rfl | (simp only [List.length_drop, List.length_take]; rfl)) ?_; (with_reducible refine (paymasterref14_Climb.calls a0 a1_0 a1_1 a1_2 a2 _ _ l3 t114 t115 t116 t117 _ ?side1 ?side2 ?side3 A13.out).mono ?_); (case side1 => exact Laid.below HLD.out (by repeat (first | (with_reducible first | exact HB.out | apply below_alloc | apply pw_below_drewN | apply below_drew1 | refine below_set ?_ GE101.out | refine below_set ?_ GE113.out) | exact HB.out))); (case side2 => exact Kd.C_below HR3.out (by repeat (first | (with_reducible first | exact HB.out | apply below_alloc | apply pw_below_drewN | apply below_drew1 | refine below_set ?_ GE101.out | refine below_set ?_ GE113.out) | exact HB.out))); (case side3 => exact HC3.out); rintro e w27 ⟨rfl, hb⟩; refine ⟨_, rfl, ?_⟩; have n0_ := Aside0.mk (Kd.R_below (by (with_reducible repeat (first | apply Kd.R_alloc | apply Kd.R_drewN | apply Kd.R_drew)); exact (Kd.R_mono (Kd.R_far (p := ⟨gb113, 2, none⟩) (Kd.R_far (p := ⟨gb113, 1, none⟩) (Kd.R_far (p := ⟨gb113, 0, none⟩) (Kd.R_mono HO108.out (fun k_ hk => (⟨hk, hk.2⟩ : _ ∧ k_ ≠ gb113))) (fun _ hk => hk.2) (.string t109)) (fun _ hk => hk.2) (.int .u64 t110)) (fun _ hk => hk.2) (.int .u64 t111)) (fun _ h_ => h_.1))) hb); have n1_ := Aside0.mk (blk_below (g := gb101) (o := .cells #[.string a1_0, .int .u64 a1_1, .int .u64 a1_2] 26 (0, 0)) (by (with_reducible repeat (first | refine blk_drewN ?_ _ | refine blk_drew ?_ | refine blk_alloc ?_ _)); refine blk_far ?_ NB101_113.out _; (with_reducible repeat (first | refine blk_drewN ?_ _ | refine blk_drew ?_ | refine blk_alloc ?_ _)); refine blk_far ?_ NB101_113.out _; (with_reducible repeat (first | refine blk_drewN ?_ _ | refine blk_drew ?_ | refine blk_alloc ?_ _)); refine blk_far ?_ NB101_113.out _; (with_reducible repeat (first | refine blk_drewN ?_ _ | refine blk_drew ?_ | refine blk_alloc ?_ _)); exact BK101.out) hb); have n2_ := Aside0.mk (blk_below (g := gb113) (o := .cells #[.string t109, .int .u64 t110, .int .u64 t111] 26 (0, 0)) (by (with_reducible repeat (first | refine blk_drewN ?_ _ | refine blk_drew ?_ | refine blk_alloc ?_ _)); refine blk_put (cs := #[.string t109, .int .u64 t110, .int .u64 0]) ?_ 2 _ rfl; (with_reducible repeat (first | refine blk_drewN ?_ _ | refine blk_drew ?_ | refine blk_alloc ?_ _)); refine blk_put (cs := #[.string t109, .int .u64 0, .int .u64 0]) ?_ 1 _ rfl; (with_reducible repeat (first | refine blk_drewN ?_ _ | refine blk_drew ?_ | refine blk_alloc ?_ _)); refine blk_put (cs := #[.string (⟨#[]⟩ : ByteArray), .int .u64 0, .int .u64 0]) ?_ 0 _ rfl; (with_reducible repeat (first | refine blk_drewN ?_ _ | refine blk_drew ?_ | refine blk_alloc ?_ _)); exact BK113.out) hb); have n3_ := Aside0.mk (below_step (by repeat (first | (with_reducible first | exact HB.out | apply below_alloc | apply pw_below_drewN | apply below_drew1 | refine below_set ?_ GE101.out | refine below_set ?_ GE113.out) | exact HB.out)) hb); clear HO108; clear BK101; clear BK113; clear HB; have HO108 := n0_; have BK101 := n1_; have BK113 := n2_; have HB := n3_; clear n0_ n1_ n2_ n3_; (try clear hb); (try clear hb2); (try clear hk); (try clear hi)) | ((with_reducible refine gate_dst (N := 12) rfl ?_); (try (refine gate_guard (by rfl) ?_; dsimp only)); refine box_event ?hg (N := 12) ?hd (cs := #[.string (⟨#[]⟩ : ByteArray), .int .u64 0, .int .u64 0]) (t := 26) ?hr ?_; (case hd => rfl); (case hg => rfl); (case hr => first | (go_simp; done) | (go_simp; rfl)); intro gb118 hg w28 hbox hb; have n0_ := Aside0.mk (Kd.R_below (Kd.R_elderB (by (with_reducible repeat (first | apply Kd.R_alloc | apply Kd.R_drewN | apply Kd.R_drew)); exact HO108.out) gb118 (Nat.le_of_eq hg.symm)) hb); have n1_ := Aside0.mk (blk_below (g := gb101) (o := .cells #[.string a1_0, .int .u64 a1_1, .int .u64 a1_2] 26 (0, 0)) (by (with_reducible repeat (first | refine blk_drewN ?_ _ | refine blk_drew ?_ | refine blk_alloc ?_ _)); exact BK101.out) hb); have n2_ := Aside0.mk (blk_below (g := gb113) (o := .cells #[.string t109, .int .u64 t110, .int .u64 t111] 26 (0, 0)) (by (with_reducible repeat (first | refine blk_drewN ?_ _ | refine blk_drew ?_ | refine blk_alloc ?_ _)); exact BK113.out) hb); have n3_ := Aside0.mk (below_step (by repeat (first | (with_reducible first | exact HB.out | apply below_alloc | apply pw_below_drewN | apply below_drew1 | refine below_set ?_ GE101.out | refine below_set ?_ GE113.out) | exact HB.out)) hb); have n4_ := Aside0.mk (hbox); have n5_ := Aside0.mk ((by rw [hg]; exact (below_size (by repeat (first | (with_reducible first | exact HB.out | apply below_alloc | apply pw_below_drewN | apply below_drew1 | refine below_set ?_ GE101.out | refine below_set ?_ GE113.out) | exact HB.out))) : w.heap.size ≤ gb118)); have n6_ := Aside0.mk ((by rw [hg]; exact (below_size (by repeat (first | (with_reducible first | exact HB.out | apply below_alloc | apply pw_below_drewN | apply below_drew1 | refine below_set ?_ GE101.out | refine below_set ?_ GE113.out) | exact HB.out))) : w.heap.size ≤ gb118)); have n7_ := Aside0.mk ((by rw [hg]; exact Nat.ne_of_lt (blk_lt (g := gb101) (o := .cells #[.string a1_0, .int .u64 a1_1, .int .u64 a1_2] 26 (0, 0)) (by (with_reducible repeat (first | refine blk_drewN ?_ _ | refine blk_drew ?_ | refine blk_alloc ?_ _)); exact BK101.out)) : gb101 ≠ gb118)); have n8_ := Aside0.mk ((by rw [hg]; exact Nat.ne_of_gt (blk_lt (g := gb101) (o := .cells #[.string a1_0, .int .u64 a1_1, .int .u64 a1_2] 26 (0, 0)) (by (with_reducible repeat (first | refine blk_drewN ?_ _ | refine blk_drew ?_ | refine blk_alloc ?_ _)); exact BK101.out)) : gb118 ≠ gb101)); have n9_ := Aside0.mk ((by rw [hg]; exact Nat.ne_of_lt (blk_lt (g := gb113) (o := .cells #[.string t109, .int .u64 t110, .int .u64 t111] 26 (0, 0)) (by (with_reducible repeat (first | refine blk_drewN ?_ _ | refine blk_drew ?_ | refine blk_alloc ?_ _)); exact BK113.out)) : gb113 ≠ gb118)); have n10_ := Aside0.mk ((by rw [hg]; exact Nat.ne_of_gt (blk_lt (g := gb113) (o := .cells #[.string t109, .int .u64 t110, .int .u64 t111] 26 (0, 0)) (by (with_reducible repeat (first | refine blk_drewN ?_ _ | refine blk_drew ?_ | refine blk_alloc ?_ _)); exact BK113.out)) : gb118 ≠ gb113)); clear HO108; clear BK101; clear BK113; clear HB; have HO108 := n0_; have BK101 := n1_; have BK113 := n2_; have HB := n3_; have BK118 := n4_; have GW118 := n5_; have GE118 := n6_; have NB101_118 := n7_; have NB118_101 := n8_; have NB113_118 := n9_; have NB118_113 := n10_; clear n0_ n1_ n2_ n3_ n4_ n5_ n6_ n7_ n8_ n9_ n10_; clear hb hbox hg; have hnb29 := NB118_101.out; have hnc29 := NB101_118.out; have hnb30 := NB118_113.out; have hnc30 := NB113_118.out; have hcz31_0 : w28.cell? ⟨gb118, 0, none⟩ = some (.string (⟨#[]⟩ : ByteArray)) := (blk_cell BK118.out 0).trans rfl; have hcz31_1 : w28.cell? ⟨gb118, 1, none⟩ = some (.int .u64 0) := (blk_cell BK118.out 1).trans rfl; have hcz31_2 : w28.cell? ⟨gb118, 2, none⟩ = some (.int .u64 0) := (blk_cell BK118.out 2).trans rfl; have hfz31_0 := blk_frozen BK118.out 0; have hfz31_1 := blk_frozen BK118.out 1; have hfz31_2 := blk_frozen BK118.out 2; have hcz32_0 : w28.cell? ⟨gb113, 0, none⟩ = some (.string t109) := (blk_cell BK113.out 0).trans rfl; have hcz32_1 : w28.cell? ⟨gb113, 1, none⟩ = some (.int .u64 t110) := (blk_cell BK113.out 1).trans rfl; have hcz32_2 : w28.cell? ⟨gb113, 2, none⟩ = some (.int .u64 t111) := (blk_cell BK113.out 2).trans rfl; have hfz32_0 := blk_frozen BK113.out 0; have hfz32_1 := blk_frozen BK113.out 1; have hfz32_2 := blk_frozen BK113.out 2) | (go_at_call 16; (with_reducible refine (paymasterref14_Same.calls kj4 _ _ y106 _ _ l3 t119 _ ?side1 ?side2 ?side3 ?side4 A16.out).mono ?_); (case side1 => refine (Kd.R_reads' (e := 26) (base := w.heap.size) (ok := fun k_ => ((k_ ≠ gb101 ∧ k_ ≠ gb113) ∧ k_ ≠ gb118)) (n := y106.length) (c := co21) ?_).2.2; exact (by (with_reducible repeat (first | apply Kd.R_alloc | apply Kd.R_drewN | apply Kd.R_drew)); exact (Kd.R_mono (Kd.R_far (p := ⟨gb118, 2, none⟩) (Kd.R_far (p := ⟨gb118, 1, none⟩) (Kd.R_far (p := ⟨gb118, 0, none⟩) (Kd.R_mono HO108.out (fun k_ hk => (⟨hk, hk.2⟩ : _ ∧ k_ ≠ gb118))) (fun _ hk => hk.2) (.string t114)) (fun _ hk => hk.2) (.int .u64 t115)) (fun _ hk => hk.2) (.int .u64 t116)) (fun _ h_ => h_.1)))); (case side2 => exact (Kd.R_reads' HO108.out).2.1); (case side3 => exact Kd.C_below HR3.out (by repeat (first | (with_reducible first | exact HB.out | apply below_alloc | apply pw_below_drewN | apply below_drew1 | refine below_set ?_ GE101.out | refine below_set ?_ GE113.out | refine below_set ?_ GE118.out) | exact HB.out))); (case side4 => exact HC3.out); rintro e w' ⟨rfl, ⟨nd, rfl⟩⟩))
              go_ret
              exact ⟨by first | rfl | (simp [errW_none, errW_some] <;> rfl) | (simp [*, errW_none, errW_some] <;> rfl), by repeat (first | (with_reducible first | exact HB.out | apply below_alloc | apply pw_below_drewN | apply below_drew1 | refine below_set ?_ GE101.out | refine below_set ?_ GE113.out | refine below_set ?_ GE118.out) | exact HB.out)⟩
            · rw [if_neg c15] at H
              have c15b0 : (t112 == t117) = false := beq_eq_false_iff_ne.mpr c15
              have c15b1 : (t112 != t117) = true := bne_iff_ne.mpr c15
              obtain rfl := Option.some.inj H
              go_wp2_with (first | ((with_reducible refine gate_dst (N := 22) rfl ?_); (try (refine gate_guard (by rfl) ?_; dsimp only)); refine Kd.R_lit kNode _ 26 ?hg (N := 22) ?hd (xs := ([] : List (SNode))) (inner := []) (ok := fun _ => True) (okp := fun _ => True) ?hr ?hp (fun _ hk => hk) trivial (Below.refl _ _) (Nat.le_refl _) (by simp) ?_; (case hd => rfl); (case hg => rfl); (case hr => first | (go_simp; done) | (go_simp; rfl)); (case hp => exact (Reps.none _ _)); intro v104 w33 ho34 hb hg_ hnew_; clear hg_ hnew_; (first | rw [← Ny103.out] at ho34 | (simp only [Int.reduceToNat] at ho34; rw [← Ny103.out] at ho34)); have n0_ := Aside0.mk (Kd.R_lower (Kd.R_newB ho34 (g := gb101) (o := .cells #[.string a1_0, .int .u64 a1_1, .int .u64 a1_2] 26 (0, 0)) (by (with_reducible repeat (first | refine blk_drewN ?_ _ | refine blk_drew ?_ | refine blk_alloc ?_ _)); exact BK101.out)) (below_size (by repeat (first | (with_reducible first | exact HB.out | apply below_alloc | apply pw_below_drewN | apply below_drew1 | refine below_set ?_ GE101.out) | exact HB.out)))); have n1_ := Aside0.mk (blk_below (g := gb101) (o := .cells #[.string a1_0, .int .u64 a1_1, .int .u64 a1_2] 26 (0, 0)) (by (with_reducible repeat (first | refine blk_drewN ?_ _ | refine blk_drew ?_ | refine blk_alloc ?_ _)); exact BK101.out) hb); have n2_ := Aside0.mk (below_step (by repeat (first | (with_reducible first | exact HB.out | apply below_alloc | apply pw_below_drewN | apply below_drew1 | refine below_set ?_ GE101.out) | exact HB.out)) hb); clear BK101; clear HB; have HO105 := n0_; have BK101 := n1_; have HB := n2_; clear n0_ n1_ n2_; clear hb ho34) | ((with_reducible refine gate_builtin (b := .append) (xs := #[.tmp 22, .tmp 23]) rfl ?_); (try (refine gate_guard (by rfl) ?_; dsimp only)); at_builtin; refine Kd.R_append_rows kNode (w0 := w) w.heap.size rfl (.tmp 22) (.tmp 23) 27 26 (.agg #[(.string ⟨#[]⟩), (.int .u64 0), (.int .u64 0)]) 32 rfl Tryd.underlying27 infoNode rfl (by decide) (by omega) v104 y103 l3 _ _ _ (fun k_ => k_ ≠ gb101) (fun _ => False) rfl rfl ?aO ?aR (fun _ _ h => h) (fun _ h => h.elim) ?aF ?aB ?aS ?aL ?_; (case aR => repeat (first | exact (Kd.C_below HR3.out HB.out) | (with_reducible refine Kd.C_alloc ?_ _) | (with_reducible refine Kd.C_drewN ?_ _) | (with_reducible refine Kd.C_drew ?_))); (case aB => exact (by repeat (first | (with_reducible first | exact HB.out | apply below_alloc | apply pw_below_drewN | apply below_drew1 | refine below_set ?_ GE101.out) | exact HB.out))); (case aF => exact (fun k_ hk => Kd.freshB (g := gb101) (o := .cells #[.string a1_0, .int .u64 a1_1, .int .u64 a1_2] 26 (0, 0)) (by (with_reducible repeat (first | refine blk_drewN ?_ _ | refine blk_drew ?_ | refine blk_alloc ?_ _)); exact BK101.out) k_ hk)); (case aO => exact (by (with_reducible repeat (first | apply Kd.R_alloc | apply Kd.R_drewN | apply Kd.R_drew)); exact Kd.R_mono HO105.out (fun _ hk => hk.2))); (case aS => exact (below_size (by repeat (first | (with_reducible first | exact HB.out | apply below_alloc | apply pw_below_drewN | apply below_drew1 | refine below_set ?_ GE101.out) | exact HB.out)))); (case aL => have := LMc11.out; omega); intro v107 w35 ho hb hg hat; rw [← Ny106.out] at ho; have n0_ := Aside0.mk (blk_grown (g := gb101) (o := .cells #[.string a1_0, .int .u64 a1_1, .int .u64 a1_2] 26 (0, 0)) (by (with_reducible repeat (first | refine blk_drewN ?_ _ | refine blk_drew ?_ | refine blk_alloc ?_ _)); exact BK101.out) hg (Kd.R_away HO105.out (fun _ hk => hk.2))); have n1_ := Aside0.mk (hb); have n2_ := Aside0.mk (ho); clear BK101; clear HB; clear HO105; have BK101 := n0_; have HB := n1_; have HO108 := n2_; clear n0_ n1_ n2_; clear ho hb hg hat; have hcz36_0 : w35.cell? ⟨gb101, 0, none⟩ = some (.string a1_0) := (blk_cell BK101.out 0).trans rfl; have hcz36_1 : w35.cell? ⟨gb101, 1, none⟩ = some (.int .u64 a1_1) := (blk_cell BK101.out 1).trans rfl; have hcz36_2 : w35.cell? ⟨gb101, 2, none⟩ = some (.int .u64 a1_2) := (blk_cell BK101.out 2).trans rfl; have hfz36_0 := blk_frozen BK101.out 0; have hfz36_1 := blk_frozen BK101.out 1; have hfz36_2 := blk_frozen BK101.out 2; obtain ⟨Ao37, co37, eo37⟩ := Kd.R_slice HO108.out; subst eo37) | ((with_reducible refine gate_callee (f := 14) rfl ?_); refine goesL_ (some 30) rfl rfl Tryd.func14 (by kernel_rfl) rfl #[.int .i64 a0, .agg #[.string a1_0, .int .u64 a1_1, .int .u64 a1_2], .int .u64 a2, .slice Ao37 y106.length co37] rfl (by (try simp only [List.map_toArray, List.map_cons, List.map_nil]); first | done | rfl | (simp only [List.length_drop, List.length_take]; rfl)) ?_; (with_reducible refine (node_Climb.calls a0 a1_0 a1_1 a1_2 a2 _ _ y106 t109 t110 t111 t112 _ ?side1 ?side2 ?side3 A12.out).mono ?_); (case side1 => exact Laid.below HLD.out (by repeat (first | (with_reducible first | exact HB.out | apply below_alloc | apply pw_below_drewN | apply below_drew1 | refine below_set ?_ GE101.out) | exact HB.out))); (case side2 => repeat (first | exact (Kd.R_reads' HO108.out).2.2 | (with_reducible refine Kd.C_alloc ?_ _) | (with_reducible refine Kd.C_drewN ?_ _) | (with_reducible refine Kd.C_drew ?_))); (case side3 => exact (Kd.R_reads' HO108.out).2.1); rintro e w38 ⟨rfl, hb⟩; refine ⟨_, rfl, ?_⟩; have n0_ := Aside0.mk (Kd.R_below (by (with_reducible repeat (first | apply Kd.R_alloc | apply Kd.R_drewN | apply Kd.R_drew)); exact HO108.out) hb); have n1_ := Aside0.mk (blk_below (g := gb101) (o := .cells #[.string a1_0, .int .u64 a1_1, .int .u64 a1_2] 26 (0, 0)) (by (with_reducible repeat (first | refine blk_drewN ?_ _ | refine blk_drew ?_ | refine blk_alloc ?_ _)); exact BK101.out) hb); have n2_ := Aside0.mk (below_step (by repeat (first | (with_reducible first | exact HB.out | apply below_alloc | apply pw_below_drewN | apply below_drew1 | refine below_set ?_ GE101.out) | exact HB.out)) hb); clear HO108; clear BK101; clear HB; have HO108 := n0_; have BK101 := n1_; have HB := n2_; clear n0_ n1_ n2_; (try clear hb); (try clear hb2); (try clear hk); (try clear hi)) | ((with_reducible refine gate_dst (N := 10) rfl ?_); (try (refine gate_guard (by rfl) ?_; dsimp only)); refine box_event ?hg (N := 10) ?hd (cs := #[.string (⟨#[]⟩ : ByteArray), .int .u64 0, .int .u64 0]) (t := 26) ?hr ?_; (case hd => rfl); (case hg => rfl); (case hr => first | (go_simp; done) | (go_simp; rfl)); intro gb113 hg w39 hbox hb; have n0_ := Aside0.mk (Kd.R_below (Kd.R_elderB (by (with_reducible repeat (first | apply Kd.R_alloc | apply Kd.R_drewN | apply Kd.R_drew)); exact HO108.out) gb113 (Nat.le_of_eq hg.symm)) hb); have n1_ := Aside0.mk (blk_below (g := gb101) (o := .cells #[.string a1_0, .int .u64 a1_1, .int .u64 a1_2] 26 (0, 0)) (by (with_reducible repeat (first | refine blk_drewN ?_ _ | refine blk_drew ?_ | refine blk_alloc ?_ _)); exact BK101.out) hb); have n2_ := Aside0.mk (below_step (by repeat (first | (with_reducible first | exact HB.out | apply below_alloc | apply pw_below_drewN | apply below_drew1 | refine below_set ?_ GE101.out) | exact HB.out)) hb); have n3_ := Aside0.mk (hbox); have n4_ := Aside0.mk ((by rw [hg]; exact (below_size (by repeat (first | (with_reducible first | exact HB.out | apply below_alloc | apply pw_below_drewN | apply below_drew1 | refine below_set ?_ GE101.out) | exact HB.out))) : w.heap.size ≤ gb113)); have n5_ := Aside0.mk ((by rw [hg]; exact (below_size (by repeat (first | (with_reducible first | exact HB.out | apply below_alloc | apply pw_below_drewN | apply below_drew1 | refine below_set ?_ GE101.out) | exact HB.out))) : w.heap.size ≤ gb113)); have n6_ := Aside0.mk ((by rw [hg]; exact Nat.ne_of_lt (blk_lt (g := gb101) (o := .cells #[.string a1_0, .int .u64 a1_1, .int .u64 a1_2] 26 (0, 0)) (by (with_reducible repeat (first | refine blk_drewN ?_ _ | refine blk_drew ?_ | refine blk_alloc ?_ _)); exact BK101.out)) : gb101 ≠ gb113)); have n7_ := Aside0.mk ((by rw [hg]; exact Nat.ne_of_gt (blk_lt (g := gb101) (o := .cells #[.string a1_0, .int .u64 a1_1, .int .u64 a1_2] 26 (0, 0)) (by (with_reducible repeat (first | refine blk_drewN ?_ _ | refine blk_drew ?_ | refine blk_alloc ?_ _)); exact BK101.out)) : gb113 ≠ gb101)); clear HO108; clear BK101; clear HB; have HO108 := n0_; have BK101 := n1_; have HB := n2_; have BK113 := n3_; have GW113 := n4_; have GE113 := n5_; have NB101_113 := n6_; have NB113_101 := n7_; clear n0_ n1_ n2_ n3_ n4_ n5_ n6_ n7_; clear hb hbox hg; have hnb40 := NB113_101.out; have hnc40 := NB101_113.out; have hcz41_0 : w39.cell? ⟨gb113, 0, none⟩ = some (.string (⟨#[]⟩ : ByteArray)) := (blk_cell BK113.out 0).trans rfl; have hcz41_1 : w39.cell? ⟨gb113, 1, none⟩ = some (.int .u64 0) := (blk_cell BK113.out 1).trans rfl; have hcz41_2 : w39.cell? ⟨gb113, 2, none⟩ = some (.int .u64 0) := (blk_cell BK113.out 2).trans rfl; have hfz41_0 := blk_frozen BK113.out 0; have hfz41_1 := blk_frozen BK113.out 1; have hfz41_2 := blk_frozen BK113.out 2; have hcz42_0 : w39.cell? ⟨gb101, 0, none⟩ = some (.string a1_0) := (blk_cell BK101.out 0).trans rfl; have hcz42_1 : w39.cell? ⟨gb101, 1, none⟩ = some (.int .u64 a1_1) := (blk_cell BK101.out 1).trans rfl; have hcz42_2 : w39.cell? ⟨gb101, 2, none⟩ = some (.int .u64 a1_2) := (blk_cell BK101.out 2).trans rfl; have hfz42_0 := blk_frozen BK101.out 0; have hfz42_1 := blk_frozen BK101.out 1; have hfz42_2 := blk_frozen BK101.out 2) | ((with_reducible refine gate_callee (f := 15) rfl ?_); refine goesL_ (some 38) rfl rfl Tryd.func15 (by kernel_rfl) rfl #[.int .i64 a0, .agg #[.string a1_0, .int .u64 a1_1, .int .u64 a1_2], .int .u64 a2, .slice A3 l3.length c3] rfl (by (try simp only [List.map_toArray, List.map_cons, List.map_nil]); first | done | rfl | (simp only [List.length_drop, List.length_take]; rfl)) ?_; (with_reducible refine (paymasterref14_Climb.calls a0 a1_0 a1_1 a1_2 a2 _ _ l3 t114 t115 t116 t117 _ ?side1 ?side2 ?side3 A13.out).mono ?_); (case side1 => exact Laid.below HLD.out (by repeat (first | (with_reducible first | exact HB.out | apply below_alloc | apply pw_below_drewN | apply below_drew1 | refine below_set ?_ GE101.out | refine below_set ?_ GE113.out) | exact HB.out))); (case side2 => exact Kd.C_below HR3.out (by repeat (first | (with_reducible first | exact HB.out | apply below_alloc | apply pw_below_drewN | apply below_drew1 | refine below_set ?_ GE101.out | refine below_set ?_ GE113.out) | exact HB.out))); (case side3 => exact HC3.out); rintro e w43 ⟨rfl, hb⟩; refine ⟨_, rfl, ?_⟩; have n0_ := Aside0.mk (Kd.R_below (by (with_reducible repeat (first | apply Kd.R_alloc | apply Kd.R_drewN | apply Kd.R_drew)); exact (Kd.R_mono (Kd.R_far (p := ⟨gb113, 2, none⟩) (Kd.R_far (p := ⟨gb113, 1, none⟩) (Kd.R_far (p := ⟨gb113, 0, none⟩) (Kd.R_mono HO108.out (fun k_ hk => (⟨hk, hk.2⟩ : _ ∧ k_ ≠ gb113))) (fun _ hk => hk.2) (.string t109)) (fun _ hk => hk.2) (.int .u64 t110)) (fun _ hk => hk.2) (.int .u64 t111)) (fun _ h_ => h_.1))) hb); have n1_ := Aside0.mk (blk_below (g := gb101) (o := .cells #[.string a1_0, .int .u64 a1_1, .int .u64 a1_2] 26 (0, 0)) (by (with_reducible repeat (first | refine blk_drewN ?_ _ | refine blk_drew ?_ | refine blk_alloc ?_ _)); refine blk_far ?_ NB101_113.out _; (with_reducible repeat (first | refine blk_drewN ?_ _ | refine blk_drew ?_ | refine blk_alloc ?_ _)); refine blk_far ?_ NB101_113.out _; (with_reducible repeat (first | refine blk_drewN ?_ _ | refine blk_drew ?_ | refine blk_alloc ?_ _)); refine blk_far ?_ NB101_113.out _; (with_reducible repeat (first | refine blk_drewN ?_ _ | refine blk_drew ?_ | refine blk_alloc ?_ _)); exact BK101.out) hb); have n2_ := Aside0.mk (blk_below (g := gb113) (o := .cells #[.string t109, .int .u64 t110, .int .u64 t111] 26 (0, 0)) (by (with_reducible repeat (first | refine blk_drewN ?_ _ | refine blk_drew ?_ | refine blk_alloc ?_ _)); refine blk_put (cs := #[.string t109, .int .u64 t110, .int .u64 0]) ?_ 2 _ rfl; (with_reducible repeat (first | refine blk_drewN ?_ _ | refine blk_drew ?_ | refine blk_alloc ?_ _)); refine blk_put (cs := #[.string t109, .int .u64 0, .int .u64 0]) ?_ 1 _ rfl; (with_reducible repeat (first | refine blk_drewN ?_ _ | refine blk_drew ?_ | refine blk_alloc ?_ _)); refine blk_put (cs := #[.string (⟨#[]⟩ : ByteArray), .int .u64 0, .int .u64 0]) ?_ 0 _ rfl; (with_reducible repeat (first | refine blk_drewN ?_ _ | refine blk_drew ?_ | refine blk_alloc ?_ _)); exact BK113.out) hb); have n3_ := Aside0.mk (below_step (by repeat (first | (with_reducible first | exact HB.out | apply below_alloc | apply pw_below_drewN | apply below_drew1 | refine below_set ?_ GE101.out | refine below_set ?_ GE113.out) | exact HB.out)) hb); clear HO108; clear BK101; clear BK113; clear HB; have HO108 := n0_; have BK101 := n1_; have BK113 := n2_; have HB := n3_; clear n0_ n1_ n2_ n3_; (try clear hb); (try clear hb2); (try clear hk); (try clear hi)) | ((with_reducible refine gate_dst (N := 12) rfl ?_); (try (refine gate_guard (by rfl) ?_; dsimp only)); refine box_event ?hg (N := 12) ?hd (cs := #[.string (⟨#[]⟩ : ByteArray), .int .u64 0, .int .u64 0]) (t := 26) ?hr ?_; (case hd => rfl); (case hg => rfl); (case hr => first | (go_simp; done) | (go_simp; rfl)); intro gb118 hg w44 hbox hb; have n0_ := Aside0.mk (Kd.R_below (Kd.R_elderB (by (with_reducible repeat (first | apply Kd.R_alloc | apply Kd.R_drewN | apply Kd.R_drew)); exact HO108.out) gb118 (Nat.le_of_eq hg.symm)) hb); have n1_ := Aside0.mk (blk_below (g := gb101) (o := .cells #[.string a1_0, .int .u64 a1_1, .int .u64 a1_2] 26 (0, 0)) (by (with_reducible repeat (first | refine blk_drewN ?_ _ | refine blk_drew ?_ | refine blk_alloc ?_ _)); exact BK101.out) hb); have n2_ := Aside0.mk (blk_below (g := gb113) (o := .cells #[.string t109, .int .u64 t110, .int .u64 t111] 26 (0, 0)) (by (with_reducible repeat (first | refine blk_drewN ?_ _ | refine blk_drew ?_ | refine blk_alloc ?_ _)); exact BK113.out) hb); have n3_ := Aside0.mk (below_step (by repeat (first | (with_reducible first | exact HB.out | apply below_alloc | apply pw_below_drewN | apply below_drew1 | refine below_set ?_ GE101.out | refine below_set ?_ GE113.out) | exact HB.out)) hb); have n4_ := Aside0.mk (hbox); have n5_ := Aside0.mk ((by rw [hg]; exact (below_size (by repeat (first | (with_reducible first | exact HB.out | apply below_alloc | apply pw_below_drewN | apply below_drew1 | refine below_set ?_ GE101.out | refine below_set ?_ GE113.out) | exact HB.out))) : w.heap.size ≤ gb118)); have n6_ := Aside0.mk ((by rw [hg]; exact (below_size (by repeat (first | (with_reducible first | exact HB.out | apply below_alloc | apply pw_below_drewN | apply below_drew1 | refine below_set ?_ GE101.out | refine below_set ?_ GE113.out) | exact HB.out))) : w.heap.size ≤ gb118)); have n7_ := Aside0.mk ((by rw [hg]; exact Nat.ne_of_lt (blk_lt (g := gb101) (o := .cells #[.string a1_0, .int .u64 a1_1, .int .u64 a1_2] 26 (0, 0)) (by (with_reducible repeat (first | refine blk_drewN ?_ _ | refine blk_drew ?_ | refine blk_alloc ?_ _)); exact BK101.out)) : gb101 ≠ gb118)); have n8_ := Aside0.mk ((by rw [hg]; exact Nat.ne_of_gt (blk_lt (g := gb101) (o := .cells #[.string a1_0, .int .u64 a1_1, .int .u64 a1_2] 26 (0, 0)) (by (with_reducible repeat (first | refine blk_drewN ?_ _ | refine blk_drew ?_ | refine blk_alloc ?_ _)); exact BK101.out)) : gb118 ≠ gb101)); have n9_ := Aside0.mk ((by rw [hg]; exact Nat.ne_of_lt (blk_lt (g := gb113) (o := .cells #[.string t109, .int .u64 t110, .int .u64 t111] 26 (0, 0)) (by (with_reducible repeat (first | refine blk_drewN ?_ _ | refine blk_drew ?_ | refine blk_alloc ?_ _)); exact BK113.out)) : gb113 ≠ gb118)); have n10_ := Aside0.mk ((by rw [hg]; exact Nat.ne_of_gt (blk_lt (g := gb113) (o := .cells #[.string t109, .int .u64 t110, .int .u64 t111] 26 (0, 0)) (by (with_reducible repeat (first | refine blk_drewN ?_ _ | refine blk_drew ?_ | refine blk_alloc ?_ _)); exact BK113.out)) : gb118 ≠ gb113)); clear HO108; clear BK101; clear BK113; clear HB; have HO108 := n0_; have BK101 := n1_; have BK113 := n2_; have HB := n3_; have BK118 := n4_; have GW118 := n5_; have GE118 := n6_; have NB101_118 := n7_; have NB118_101 := n8_; have NB113_118 := n9_; have NB118_113 := n10_; clear n0_ n1_ n2_ n3_ n4_ n5_ n6_ n7_ n8_ n9_ n10_; clear hb hbox hg; have hnb45 := NB118_101.out; have hnc45 := NB101_118.out; have hnb46 := NB118_113.out; have hnc46 := NB113_118.out; have hcz47_0 : w44.cell? ⟨gb118, 0, none⟩ = some (.string (⟨#[]⟩ : ByteArray)) := (blk_cell BK118.out 0).trans rfl; have hcz47_1 : w44.cell? ⟨gb118, 1, none⟩ = some (.int .u64 0) := (blk_cell BK118.out 1).trans rfl; have hcz47_2 : w44.cell? ⟨gb118, 2, none⟩ = some (.int .u64 0) := (blk_cell BK118.out 2).trans rfl; have hfz47_0 := blk_frozen BK118.out 0; have hfz47_1 := blk_frozen BK118.out 1; have hfz47_2 := blk_frozen BK118.out 2; have hcz48_0 : w44.cell? ⟨gb113, 0, none⟩ = some (.string t109) := (blk_cell BK113.out 0).trans rfl; have hcz48_1 : w44.cell? ⟨gb113, 1, none⟩ = some (.int .u64 t110) := (blk_cell BK113.out 1).trans rfl; have hcz48_2 : w44.cell? ⟨gb113, 2, none⟩ = some (.int .u64 t111) := (blk_cell BK113.out 2).trans rfl; have hfz48_0 := blk_frozen BK113.out 0; have hfz48_1 := blk_frozen BK113.out 1; have hfz48_2 := blk_frozen BK113.out 2))
              go_ret
              exact ⟨by first | rfl | (simp [errW_none, errW_some] <;> rfl) | (simp [*, errW_none, errW_some] <;> rfl), by repeat (first | (with_reducible first | exact HB.out | apply below_alloc | apply pw_below_drewN | apply below_drew1 | refine below_set ?_ GE101.out | refine below_set ?_ GE113.out | refine below_set ?_ GE118.out) | exact HB.out)⟩
          · rw [if_neg c14] at H
            have c14b0 : (t109.toList == t114.toList && ((t110 == t115 && (t111 == t116)))) = false := by simpa using c14
            (try (have c14b1 : decide (t109.toList = t114.toList && ((t110 == t115 && (t111 == t116)))) = false := by simpa using c14))
            (try (have c14b2 : (t109.toList == t114.toList && ((t110 == t115 && (t111 == t116)))) = false := by simpa using c14))
            (try (have c14b3 : ¬ (t109.toList = t114.toList && ((t110 == t115 && (t111 == t116)))) := by simpa using c14))
            clear c14
            obtain rfl := Option.some.inj H
            go_wp2_with (first | ((with_reducible refine gate_dst (N := 22) rfl ?_); (try (refine gate_guard (by rfl) ?_; dsimp only)); refine Kd.R_lit kNode _ 26 ?hg (N := 22) ?hd (xs := ([] : List (SNode))) (inner := []) (ok := fun _ => True) (okp := fun _ => True) ?hr ?hp (fun _ hk => hk) trivial (Below.refl _ _) (Nat.le_refl _) (by simp) ?_; (case hd => rfl); (case hg => rfl); (case hr => first | (go_simp; done) | (go_simp; rfl)); (case hp => exact (Reps.none _ _)); intro v104 w49 ho50 hb hg_ hnew_; clear hg_ hnew_; (first | rw [← Ny103.out] at ho50 | (simp only [Int.reduceToNat] at ho50; rw [← Ny103.out] at ho50)); have n0_ := Aside0.mk (Kd.R_lower (Kd.R_newB ho50 (g := gb101) (o := .cells #[.string a1_0, .int .u64 a1_1, .int .u64 a1_2] 26 (0, 0)) (by (with_reducible repeat (first | refine blk_drewN ?_ _ | refine blk_drew ?_ | refine blk_alloc ?_ _)); exact BK101.out)) (below_size (by repeat (first | (with_reducible first | exact HB.out | apply below_alloc | apply pw_below_drewN | apply below_drew1 | refine below_set ?_ GE101.out) | exact HB.out)))); have n1_ := Aside0.mk (blk_below (g := gb101) (o := .cells #[.string a1_0, .int .u64 a1_1, .int .u64 a1_2] 26 (0, 0)) (by (with_reducible repeat (first | refine blk_drewN ?_ _ | refine blk_drew ?_ | refine blk_alloc ?_ _)); exact BK101.out) hb); have n2_ := Aside0.mk (below_step (by repeat (first | (with_reducible first | exact HB.out | apply below_alloc | apply pw_below_drewN | apply below_drew1 | refine below_set ?_ GE101.out) | exact HB.out)) hb); clear BK101; clear HB; have HO105 := n0_; have BK101 := n1_; have HB := n2_; clear n0_ n1_ n2_; clear hb ho50) | ((with_reducible refine gate_builtin (b := .append) (xs := #[.tmp 22, .tmp 23]) rfl ?_); (try (refine gate_guard (by rfl) ?_; dsimp only)); at_builtin; refine Kd.R_append_rows kNode (w0 := w) w.heap.size rfl (.tmp 22) (.tmp 23) 27 26 (.agg #[(.string ⟨#[]⟩), (.int .u64 0), (.int .u64 0)]) 32 rfl Tryd.underlying27 infoNode rfl (by decide) (by omega) v104 y103 l3 _ _ _ (fun k_ => k_ ≠ gb101) (fun _ => False) rfl rfl ?aO ?aR (fun _ _ h => h) (fun _ h => h.elim) ?aF ?aB ?aS ?aL ?_; (case aR => repeat (first | exact (Kd.C_below HR3.out HB.out) | (with_reducible refine Kd.C_alloc ?_ _) | (with_reducible refine Kd.C_drewN ?_ _) | (with_reducible refine Kd.C_drew ?_))); (case aB => exact (by repeat (first | (with_reducible first | exact HB.out | apply below_alloc | apply pw_below_drewN | apply below_drew1 | refine below_set ?_ GE101.out) | exact HB.out))); (case aF => exact (fun k_ hk => Kd.freshB (g := gb101) (o := .cells #[.string a1_0, .int .u64 a1_1, .int .u64 a1_2] 26 (0, 0)) (by (with_reducible repeat (first | refine blk_drewN ?_ _ | refine blk_drew ?_ | refine blk_alloc ?_ _)); exact BK101.out) k_ hk)); (case aO => exact (by (with_reducible repeat (first | apply Kd.R_alloc | apply Kd.R_drewN | apply Kd.R_drew)); exact Kd.R_mono HO105.out (fun _ hk => hk.2))); (case aS => exact (below_size (by repeat (first | (with_reducible first | exact HB.out | apply below_alloc | apply pw_below_drewN | apply below_drew1 | refine below_set ?_ GE101.out) | exact HB.out)))); (case aL => have := LMc11.out; omega); intro v107 w51 ho hb hg hat; rw [← Ny106.out] at ho; have n0_ := Aside0.mk (blk_grown (g := gb101) (o := .cells #[.string a1_0, .int .u64 a1_1, .int .u64 a1_2] 26 (0, 0)) (by (with_reducible repeat (first | refine blk_drewN ?_ _ | refine blk_drew ?_ | refine blk_alloc ?_ _)); exact BK101.out) hg (Kd.R_away HO105.out (fun _ hk => hk.2))); have n1_ := Aside0.mk (hb); have n2_ := Aside0.mk (ho); clear BK101; clear HB; clear HO105; have BK101 := n0_; have HB := n1_; have HO108 := n2_; clear n0_ n1_ n2_; clear ho hb hg hat; have hcz52_0 : w51.cell? ⟨gb101, 0, none⟩ = some (.string a1_0) := (blk_cell BK101.out 0).trans rfl; have hcz52_1 : w51.cell? ⟨gb101, 1, none⟩ = some (.int .u64 a1_1) := (blk_cell BK101.out 1).trans rfl; have hcz52_2 : w51.cell? ⟨gb101, 2, none⟩ = some (.int .u64 a1_2) := (blk_cell BK101.out 2).trans rfl; have hfz52_0 := blk_frozen BK101.out 0; have hfz52_1 := blk_frozen BK101.out 1; have hfz52_2 := blk_frozen BK101.out 2; obtain ⟨Ao53, co53, eo53⟩ := Kd.R_slice HO108.out; subst eo53) | ((with_reducible refine gate_callee (f := 14) rfl ?_); refine goesL_ (some 30) rfl rfl Tryd.func14 (by kernel_rfl) rfl #[.int .i64 a0, .agg #[.string a1_0, .int .u64 a1_1, .int .u64 a1_2], .int .u64 a2, .slice Ao53 y106.length co53] rfl (by (try simp only [List.map_toArray, List.map_cons, List.map_nil]); first | done | rfl | (simp only [List.length_drop, List.length_take]; rfl)) ?_; (with_reducible refine (node_Climb.calls a0 a1_0 a1_1 a1_2 a2 _ _ y106 t109 t110 t111 t112 _ ?side1 ?side2 ?side3 A12.out).mono ?_); (case side1 => exact Laid.below HLD.out (by repeat (first | (with_reducible first | exact HB.out | apply below_alloc | apply pw_below_drewN | apply below_drew1 | refine below_set ?_ GE101.out) | exact HB.out))); (case side2 => repeat (first | exact (Kd.R_reads' HO108.out).2.2 | (with_reducible refine Kd.C_alloc ?_ _) | (with_reducible refine Kd.C_drewN ?_ _) | (with_reducible refine Kd.C_drew ?_))); (case side3 => exact (Kd.R_reads' HO108.out).2.1); rintro e w54 ⟨rfl, hb⟩; refine ⟨_, rfl, ?_⟩; have n0_ := Aside0.mk (Kd.R_below (by (with_reducible repeat (first | apply Kd.R_alloc | apply Kd.R_drewN | apply Kd.R_drew)); exact HO108.out) hb); have n1_ := Aside0.mk (blk_below (g := gb101) (o := .cells #[.string a1_0, .int .u64 a1_1, .int .u64 a1_2] 26 (0, 0)) (by (with_reducible repeat (first | refine blk_drewN ?_ _ | refine blk_drew ?_ | refine blk_alloc ?_ _)); exact BK101.out) hb); have n2_ := Aside0.mk (below_step (by repeat (first | (with_reducible first | exact HB.out | apply below_alloc | apply pw_below_drewN | apply below_drew1 | refine below_set ?_ GE101.out) | exact HB.out)) hb); clear HO108; clear BK101; clear HB; have HO108 := n0_; have BK101 := n1_; have HB := n2_; clear n0_ n1_ n2_; (try clear hb); (try clear hb2); (try clear hk); (try clear hi)) | ((with_reducible refine gate_dst (N := 10) rfl ?_); (try (refine gate_guard (by rfl) ?_; dsimp only)); refine box_event ?hg (N := 10) ?hd (cs := #[.string (⟨#[]⟩ : ByteArray), .int .u64 0, .int .u64 0]) (t := 26) ?hr ?_; (case hd => rfl); (case hg => rfl); (case hr => first | (go_simp; done) | (go_simp; rfl)); intro gb113 hg w55 hbox hb; have n0_ := Aside0.mk (Kd.R_below (Kd.R_elderB (by (with_reducible repeat (first | apply Kd.R_alloc | apply Kd.R_drewN | apply Kd.R_drew)); exact HO108.out) gb113 (Nat.le_of_eq hg.symm)) hb); have n1_ := Aside0.mk (blk_below (g := gb101) (o := .cells #[.string a1_0, .int .u64 a1_1, .int .u64 a1_2] 26 (0, 0)) (by (with_reducible repeat (first | refine blk_drewN ?_ _ | refine blk_drew ?_ | refine blk_alloc ?_ _)); exact BK101.out) hb); have n2_ := Aside0.mk (below_step (by repeat (first | (with_reducible first | exact HB.out | apply below_alloc | apply pw_below_drewN | apply below_drew1 | refine below_set ?_ GE101.out) | exact HB.out)) hb); have n3_ := Aside0.mk (hbox); have n4_ := Aside0.mk ((by rw [hg]; exact (below_size (by repeat (first | (with_reducible first | exact HB.out | apply below_alloc | apply pw_below_drewN | apply below_drew1 | refine below_set ?_ GE101.out) | exact HB.out))) : w.heap.size ≤ gb113)); have n5_ := Aside0.mk ((by rw [hg]; exact (below_size (by repeat (first | (with_reducible first | exact HB.out | apply below_alloc | apply pw_below_drewN | apply below_drew1 | refine below_set ?_ GE101.out) | exact HB.out))) : w.heap.size ≤ gb113)); have n6_ := Aside0.mk ((by rw [hg]; exact Nat.ne_of_lt (blk_lt (g := gb101) (o := .cells #[.string a1_0, .int .u64 a1_1, .int .u64 a1_2] 26 (0, 0)) (by (with_reducible repeat (first | refine blk_drewN ?_ _ | refine blk_drew ?_ | refine blk_alloc ?_ _)); exact BK101.out)) : gb101 ≠ gb113)); have n7_ := Aside0.mk ((by rw [hg]; exact Nat.ne_of_gt (blk_lt (g := gb101) (o := .cells #[.string a1_0, .int .u64 a1_1, .int .u64 a1_2] 26 (0, 0)) (by (with_reducible repeat (first | refine blk_drewN ?_ _ | refine blk_drew ?_ | refine blk_alloc ?_ _)); exact BK101.out)) : gb113 ≠ gb101)); clear HO108; clear BK101; clear HB; have HO108 := n0_; have BK101 := n1_; have HB := n2_; have BK113 := n3_; have GW113 := n4_; have GE113 := n5_; have NB101_113 := n6_; have NB113_101 := n7_; clear n0_ n1_ n2_ n3_ n4_ n5_ n6_ n7_; clear hb hbox hg; have hnb56 := NB113_101.out; have hnc56 := NB101_113.out; have hcz57_0 : w55.cell? ⟨gb113, 0, none⟩ = some (.string (⟨#[]⟩ : ByteArray)) := (blk_cell BK113.out 0).trans rfl; have hcz57_1 : w55.cell? ⟨gb113, 1, none⟩ = some (.int .u64 0) := (blk_cell BK113.out 1).trans rfl; have hcz57_2 : w55.cell? ⟨gb113, 2, none⟩ = some (.int .u64 0) := (blk_cell BK113.out 2).trans rfl; have hfz57_0 := blk_frozen BK113.out 0; have hfz57_1 := blk_frozen BK113.out 1; have hfz57_2 := blk_frozen BK113.out 2; have hcz58_0 : w55.cell? ⟨gb101, 0, none⟩ = some (.string a1_0) := (blk_cell BK101.out 0).trans rfl; have hcz58_1 : w55.cell? ⟨gb101, 1, none⟩ = some (.int .u64 a1_1) := (blk_cell BK101.out 1).trans rfl; have hcz58_2 : w55.cell? ⟨gb101, 2, none⟩ = some (.int .u64 a1_2) := (blk_cell BK101.out 2).trans rfl; have hfz58_0 := blk_frozen BK101.out 0; have hfz58_1 := blk_frozen BK101.out 1; have hfz58_2 := blk_frozen BK101.out 2) | ((with_reducible refine gate_callee (f := 15) rfl ?_); refine goesL_ (some 38) rfl rfl Tryd.func15 (by kernel_rfl) rfl #[.int .i64 a0, .agg #[.string a1_0, .int .u64 a1_1, .int .u64 a1_2], .int .u64 a2, .slice A3 l3.length c3] rfl (by (try simp only [List.map_toArray, List.map_cons, List.map_nil]); first | done | rfl | (simp only [List.length_drop, List.length_take]; rfl)) ?_; (with_reducible refine (paymasterref14_Climb.calls a0 a1_0 a1_1 a1_2 a2 _ _ l3 t114 t115 t116 t117 _ ?side1 ?side2 ?side3 A13.out).mono ?_); (case side1 => exact Laid.below HLD.out (by repeat (first | (with_reducible first | exact HB.out | apply below_alloc | apply pw_below_drewN | apply below_drew1 | refine below_set ?_ GE101.out | refine below_set ?_ GE113.out) | exact HB.out))); (case side2 => exact Kd.C_below HR3.out (by repeat (first | (with_reducible first | exact HB.out | apply below_alloc | apply pw_below_drewN | apply below_drew1 | refine below_set ?_ GE101.out | refine below_set ?_ GE113.out) | exact HB.out))); (case side3 => exact HC3.out); rintro e w59 ⟨rfl, hb⟩; refine ⟨_, rfl, ?_⟩; have n0_ := Aside0.mk (Kd.R_below (by (with_reducible repeat (first | apply Kd.R_alloc | apply Kd.R_drewN | apply Kd.R_drew)); exact (Kd.R_mono (Kd.R_far (p := ⟨gb113, 2, none⟩) (Kd.R_far (p := ⟨gb113, 1, none⟩) (Kd.R_far (p := ⟨gb113, 0, none⟩) (Kd.R_mono HO108.out (fun k_ hk => (⟨hk, hk.2⟩ : _ ∧ k_ ≠ gb113))) (fun _ hk => hk.2) (.string t109)) (fun _ hk => hk.2) (.int .u64 t110)) (fun _ hk => hk.2) (.int .u64 t111)) (fun _ h_ => h_.1))) hb); have n1_ := Aside0.mk (blk_below (g := gb101) (o := .cells #[.string a1_0, .int .u64 a1_1, .int .u64 a1_2] 26 (0, 0)) (by (with_reducible repeat (first | refine blk_drewN ?_ _ | refine blk_drew ?_ | refine blk_alloc ?_ _)); refine blk_far ?_ NB101_113.out _; (with_reducible repeat (first | refine blk_drewN ?_ _ | refine blk_drew ?_ | refine blk_alloc ?_ _)); refine blk_far ?_ NB101_113.out _; (with_reducible repeat (first | refine blk_drewN ?_ _ | refine blk_drew ?_ | refine blk_alloc ?_ _)); refine blk_far ?_ NB101_113.out _; (with_reducible repeat (first | refine blk_drewN ?_ _ | refine blk_drew ?_ | refine blk_alloc ?_ _)); exact BK101.out) hb); have n2_ := Aside0.mk (blk_below (g := gb113) (o := .cells #[.string t109, .int .u64 t110, .int .u64 t111] 26 (0, 0)) (by (with_reducible repeat (first | refine blk_drewN ?_ _ | refine blk_drew ?_ | refine blk_alloc ?_ _)); refine blk_put (cs := #[.string t109, .int .u64 t110, .int .u64 0]) ?_ 2 _ rfl; (with_reducible repeat (first | refine blk_drewN ?_ _ | refine blk_drew ?_ | refine blk_alloc ?_ _)); refine blk_put (cs := #[.string t109, .int .u64 0, .int .u64 0]) ?_ 1 _ rfl; (with_reducible repeat (first | refine blk_drewN ?_ _ | refine blk_drew ?_ | refine blk_alloc ?_ _)); refine blk_put (cs := #[.string (⟨#[]⟩ : ByteArray), .int .u64 0, .int .u64 0]) ?_ 0 _ rfl; (with_reducible repeat (first | refine blk_drewN ?_ _ | refine blk_drew ?_ | refine blk_alloc ?_ _)); exact BK113.out) hb); have n3_ := Aside0.mk (below_step (by repeat (first | (with_reducible first | exact HB.out | apply below_alloc | apply pw_below_drewN | apply below_drew1 | refine below_set ?_ GE101.out | refine below_set ?_ GE113.out) | exact HB.out)) hb); clear HO108; clear BK101; clear BK113; clear HB; have HO108 := n0_; have BK101 := n1_; have BK113 := n2_; have HB := n3_; clear n0_ n1_ n2_ n3_; (try clear hb); (try clear hb2); (try clear hk); (try clear hi)) | ((with_reducible refine gate_dst (N := 12) rfl ?_); (try (refine gate_guard (by rfl) ?_; dsimp only)); refine box_event ?hg (N := 12) ?hd (cs := #[.string (⟨#[]⟩ : ByteArray), .int .u64 0, .int .u64 0]) (t := 26) ?hr ?_; (case hd => rfl); (case hg => rfl); (case hr => first | (go_simp; done) | (go_simp; rfl)); intro gb118 hg w60 hbox hb; have n0_ := Aside0.mk (Kd.R_below (Kd.R_elderB (by (with_reducible repeat (first | apply Kd.R_alloc | apply Kd.R_drewN | apply Kd.R_drew)); exact HO108.out) gb118 (Nat.le_of_eq hg.symm)) hb); have n1_ := Aside0.mk (blk_below (g := gb101) (o := .cells #[.string a1_0, .int .u64 a1_1, .int .u64 a1_2] 26 (0, 0)) (by (with_reducible repeat (first | refine blk_drewN ?_ _ | refine blk_drew ?_ | refine blk_alloc ?_ _)); exact BK101.out) hb); have n2_ := Aside0.mk (blk_below (g := gb113) (o := .cells #[.string t109, .int .u64 t110, .int .u64 t111] 26 (0, 0)) (by (with_reducible repeat (first | refine blk_drewN ?_ _ | refine blk_drew ?_ | refine blk_alloc ?_ _)); exact BK113.out) hb); have n3_ := Aside0.mk (below_step (by repeat (first | (with_reducible first | exact HB.out | apply below_alloc | apply pw_below_drewN | apply below_drew1 | refine below_set ?_ GE101.out | refine below_set ?_ GE113.out) | exact HB.out)) hb); have n4_ := Aside0.mk (hbox); have n5_ := Aside0.mk ((by rw [hg]; exact (below_size (by repeat (first | (with_reducible first | exact HB.out | apply below_alloc | apply pw_below_drewN | apply below_drew1 | refine below_set ?_ GE101.out | refine below_set ?_ GE113.out) | exact HB.out))) : w.heap.size ≤ gb118)); have n6_ := Aside0.mk ((by rw [hg]; exact (below_size (by repeat (first | (with_reducible first | exact HB.out | apply below_alloc | apply pw_below_drewN | apply below_drew1 | refine below_set ?_ GE101.out | refine below_set ?_ GE113.out) | exact HB.out))) : w.heap.size ≤ gb118)); have n7_ := Aside0.mk ((by rw [hg]; exact Nat.ne_of_lt (blk_lt (g := gb101) (o := .cells #[.string a1_0, .int .u64 a1_1, .int .u64 a1_2] 26 (0, 0)) (by (with_reducible repeat (first | refine blk_drewN ?_ _ | refine blk_drew ?_ | refine blk_alloc ?_ _)); exact BK101.out)) : gb101 ≠ gb118)); have n8_ := Aside0.mk ((by rw [hg]; exact Nat.ne_of_gt (blk_lt (g := gb101) (o := .cells #[.string a1_0, .int .u64 a1_1, .int .u64 a1_2] 26 (0, 0)) (by (with_reducible repeat (first | refine blk_drewN ?_ _ | refine blk_drew ?_ | refine blk_alloc ?_ _)); exact BK101.out)) : gb118 ≠ gb101)); have n9_ := Aside0.mk ((by rw [hg]; exact Nat.ne_of_lt (blk_lt (g := gb113) (o := .cells #[.string t109, .int .u64 t110, .int .u64 t111] 26 (0, 0)) (by (with_reducible repeat (first | refine blk_drewN ?_ _ | refine blk_drew ?_ | refine blk_alloc ?_ _)); exact BK113.out)) : gb113 ≠ gb118)); have n10_ := Aside0.mk ((by rw [hg]; exact Nat.ne_of_gt (blk_lt (g := gb113) (o := .cells #[.string t109, .int .u64 t110, .int .u64 t111] 26 (0, 0)) (by (with_reducible repeat (first | refine blk_drewN ?_ _ | refine blk_drew ?_ | refine blk_alloc ?_ _)); exact BK113.out)) : gb118 ≠ gb113)); clear HO108; clear BK101; clear BK113; clear HB; have HO108 := n0_; have BK101 := n1_; have BK113 := n2_; have HB := n3_; have BK118 := n4_; have GW118 := n5_; have GE118 := n6_; have NB101_118 := n7_; have NB118_101 := n8_; have NB113_118 := n9_; have NB118_113 := n10_; clear n0_ n1_ n2_ n3_ n4_ n5_ n6_ n7_ n8_ n9_ n10_; clear hb hbox hg; have hnb61 := NB118_101.out; have hnc61 := NB101_118.out; have hnb62 := NB118_113.out; have hnc62 := NB113_118.out; have hcz63_0 : w60.cell? ⟨gb118, 0, none⟩ = some (.string (⟨#[]⟩ : ByteArray)) := (blk_cell BK118.out 0).trans rfl; have hcz63_1 : w60.cell? ⟨gb118, 1, none⟩ = some (.int .u64 0) := (blk_cell BK118.out 1).trans rfl; have hcz63_2 : w60.cell? ⟨gb118, 2, none⟩ = some (.int .u64 0) := (blk_cell BK118.out 2).trans rfl; have hfz63_0 := blk_frozen BK118.out 0; have hfz63_1 := blk_frozen BK118.out 1; have hfz63_2 := blk_frozen BK118.out 2; have hcz64_0 : w60.cell? ⟨gb113, 0, none⟩ = some (.string t109) := (blk_cell BK113.out 0).trans rfl; have hcz64_1 : w60.cell? ⟨gb113, 1, none⟩ = some (.int .u64 t110) := (blk_cell BK113.out 1).trans rfl; have hcz64_2 : w60.cell? ⟨gb113, 2, none⟩ = some (.int .u64 t111) := (blk_cell BK113.out 2).trans rfl; have hfz64_0 := blk_frozen BK113.out 0; have hfz64_1 := blk_frozen BK113.out 1; have hfz64_2 := blk_frozen BK113.out 2))
            go_ret
            exact ⟨by first | rfl | (simp [errW_none, errW_some] <;> rfl) | (simp [*, errW_none, errW_some] <;> rfl), by repeat (first | (with_reducible first | exact HB.out | apply below_alloc | apply pw_below_drewN | apply below_drew1 | refine below_set ?_ GE101.out | refine below_set ?_ GE113.out | refine below_set ?_ GE118.out) | exact HB.out)⟩
        · rw [if_neg c11] at H
          exact absurd H (by simp)

end Go.Proofs.YtlmmpncdemblbaaDoor.P

namespace Go.Proofs.YtlmmpncdemblbaaDoor.P
open Go.RowKit Go.Proofs.YtlmmpncdemblbaaDoorW.PrintWords Go.Proofs.YtlmmpncdemblbaaDoorW.PrintLast Go.Proofs.YtlmmpncdemblbaaDoorW.PrintMore
set_option linter.unusedVariables false
set_option linter.unusedSimpArgs false
set_option linter.unnecessarySimpa false

/-! When two rows of nodes, two entries, are the same. -/
def eqN (a b : SNode) : Bool := a.f0.toList == b.f0.toList && (a.f1.f0 == b.f1.f0 && a.f1.f1 == b.f1.f1)
theorem eqN_refl (a : SNode) : eqN a a = true := by simp [eqN]
theorem eqN_symm (a b : SNode) : eqN a b = eqN b a := by
  unfold eqN
  rw [Bool.beq_comm (a := a.f0.toList), Bool.beq_comm (a := a.f1.f0), Bool.beq_comm (a := a.f1.f1)]
theorem eqN_not (a b : SNode) : (!(a.f0.toList == b.f0.toList) || ((!(a.f1.f0 == b.f1.f0) || (!(a.f1.f1 == b.f1.f1))))) = !eqN a b := by
  unfold eqN
  cases (a.f0.toList == b.f0.toList) <;> cases (a.f1.f0 == b.f1.f0) <;> cases (a.f1.f1 == b.f1.f1) <;> rfl
def sameL : List SNode → List SNode → Bool
  | [], [] => true
  | a :: l, b :: m => eqN a b && sameL l m
  | _, _ => false
theorem sameL_refl : ∀ l, sameL l l = true
  | [] => rfl
  | a :: l => by rw [sameL, eqN_refl, sameL_refl l]; rfl
theorem sameL_symm : ∀ l m, sameL l m = sameL m l
  | [], [] => rfl
  | [], _ :: _ => rfl
  | _ :: _, [] => rfl
  | a :: l, b :: m => by rw [sameL, sameL, eqN_symm a b, sameL_symm l m]
theorem sameL_len : ∀ l m : List SNode, l.length ≠ m.length → sameL l m = false
  | [], [], h => absurd rfl h
  | [], _ :: _, _ => rfl
  | _ :: _, [], _ => rfl
  | a :: l, b :: m, h => by rw [sameL, sameL_len l m (by simpa using h)]; simp
theorem sameL_drop (l m : List SNode) (i : Nat) (h : i < l.length) (h' : i < m.length) : sameL (l.drop i) (m.drop i) = (eqN l[i] m[i] && sameL (l.drop (i + 1)) (m.drop (i + 1))) := by
  rw [List.drop_eq_getElem_cons h, List.drop_eq_getElem_cons h', sameL]
theorem same14_loop (l m : List SNode) (hl : l.length ≤ 9223372036854775807) (hm : l.length = m.length) : ∀ d i : Nat, i + d = l.length → Ev (fun k => paymasterref14_Same.l0 k l m (i : Int)) (sameL (l.drop i) (m.drop i)) := by
  intro d
  induction d with
  | zero =>
    intro i hi
    refine Ev.step (f := fun _ => some true) (fun k => ?_) (ev_eq (Ev.now true) ?_)
    · rw [paymasterref14_Same.l0, if_neg (by omega)]
    · rw [List.drop_of_length_le (by omega), List.drop_of_length_le (by omega)]; rfl
  | succ d ih =>
    intro i hi
    have h1 : i < l.length := by omega
    have h2 : i < m.length := by omega
    rw [sameL_drop l m i h1 h2]
    cases hb : eqN l[i] m[i] with
    | false =>
      refine Ev.step (f := fun _ => some false) (fun k => ?_) (ev_eq (Ev.now false) (by simp))
      rw [paymasterref14_Same.l0, if_pos (by omega), if_pos (by omega), if_pos (by omega), rdNode_nat l i h1, rdNode_nat m i h2, eqN_not, hb, if_pos (by rfl)]
    | true =>
      refine Ev.step (f := fun k => paymasterref14_Same.l0 k l m ((i + 1 : Nat) : Int)) (fun k => ?_) (ev_eq (ih (i + 1) (by omega)) (by simp))
      rw [paymasterref14_Same.l0, if_pos (by omega), if_pos (by omega), if_pos (by omega), rdNode_nat l i h1, rdNode_nat m i h2, eqN_not, hb, if_neg (by simp), wrap64_id (by omega) (by omega)]; rfl
theorem same14_ev (l m : List SNode) (hl : l.length ≤ 9223372036854775807) : Ev (fun k => paymasterref14_Same.f k l m) (sameL l m) := by
  unfold paymasterref14_Same.f
  by_cases h : l.length = m.length
  · refine Ev.congr (fun k => by rw [if_pos (by omega)]; rfl) (ev_eq (same14_loop l m hl h l.length 0 (by omega)) (by simp))
  · exact Ev.some_ (fun k => by rw [if_neg (by omega), sameL_len l m h])

end Go.Proofs.YtlmmpncdemblbaaDoor.P

namespace Go.Proofs.YtlmmpncdemblbaaDoor.P
open Go.RowKit Go.Proofs.YtlmmpncdemblbaaDoorW.PrintWords Go.Proofs.YtlmmpncdemblbaaDoorW.PrintLast Go.Proofs.YtlmmpncdemblbaaDoorW.PrintMore
set_option linter.unusedVariables false
set_option linter.unusedSimpArgs false
set_option linter.unnecessarySimpa false
theorem pure_NodeClimbs : ∀ (y0 : Int) (y1 : SNode) (y2 : Int) (y3 : (List SNode)), (Lit.int .i64 y0).wf = true → wfNode y1 → (Lit.int .u64 y2).wf = true → (y3.length ≤ 140737488355328 ∧ ∀ q0 ∈ y3, wfNode q0) → ∃ k, paymasterlaw14_NodeClimbs.f k y0 y1.f0 y1.f1.f0 y1.f1.f1 y2 y3 = some true := by
  intro wd n p l _ hn hp hl
  have hp := wf_u64 hp
  have un := (⟨wf_u64 hn.2.1, wf_u64 hn.2.2⟩ : (0 ≤ n.f1.f0 ∧ n.f1.f0 < 18446744073709551616) ∧ (0 ≤ n.f1.f1 ∧ n.f1.f1 < 18446744073709551616))
  have ul : ∀ x ∈ l, (0 ≤ x.f1.f0 ∧ x.f1.f0 < 18446744073709551616) ∧ (0 ≤ x.f1.f1 ∧ x.f1.f1 < 18446744073709551616) := fun x hx => ⟨wf_u64 (hl.2 x hx).2.1, wf_u64 (hl.2 x hx).2.2⟩
  have hl2 : l.length ≤ 9223372036854775807 := by have := hl.1; omega
  have e1 : node_Climb.f wd n.f0 n.f1.f0 n.f1.f1 p l = some (climbI wd n p l) := by unfold node_Climb.f; rw [if_pos ⟨hp.1, un, ul⟩]
  have e2 : paymasterref14_Climb.f wd n.f0 n.f1.f0 n.f1.f1 p l = some (climbI wd n p l) := by unfold paymasterref14_Climb.f; rw [if_pos ⟨hp, un, ul⟩]
  have hj : ∀ b : Bool, (b = true ∨ l.length ≤ 300) → Ev (fun k => paymasterlaw14_NodeClimbs.j0 k wd p l b n.f0 n.f1.f0 n.f1.f1) true := by
    intro b hb
    refine Ev.step (fun k => by rw [paymasterlaw14_NodeClimbs.j0]) ?_
    cases b with
    | true => exact Ev.some_ (fun k => by rw [if_pos rfl])
    | false =>
      have h300 := hb.resolve_left (by decide)
      refine Ev.congr (f := fun k => (paymasterref14_Same.f k l l).bind fun t => some t) (fun k => ?_) ?_
      · rw [if_neg (by decide)]
        simp only [Option.bind_some, List.nil_append, List.length_nil]
        rw [if_pos (by omega), e1, e2]
        simp
      · refine Ev.bind (same14_ev l l hl2) ?_
        rw [sameL_refl]
        exact Ev.now _
  refine Ev.rounds ?_
  unfold paymasterlaw14_NodeClimbs.f
  refine Ev.bind (great14_ev l hl2) ?_
  cases hg : greatN l with
  | true => exact Ev.congr (fun k => by rw [if_pos rfl]) (hj true (.inl rfl))
  | false =>
    have h300 : l.length ≤ 300 := by
      unfold greatN at hg
      simp only [Bool.or_eq_false_iff, decide_eq_false_iff_not] at hg
      omega
    exact Ev.congr (fun k => by rw [if_neg (by decide)]) (hj _ (.inr h300))

end Go.Proofs.YtlmmpncdemblbaaDoor.P

namespace Go.Proofs.YtlmmpncdemblbaaDoor.nodeClimbs
open Go.Proofs.YtlmmpncdemblbaaDoor.P Go.ChangeShapes Go.WideShapes Go.ChangeAt Go.RowKit
open Go.ChangeMaps (open_string shut_string)
open Go.Proofs.YtlmmpncdemblbaaDoorW.PrintWords Go.Proofs.YtlmmpncdemblbaaDoorW.PrintLast Go.Proofs.YtlmmpncdemblbaaDoorW.PrintMore
set_option linter.unusedVariables false
set_option linter.unusedSimpArgs false
theorem own : ownKnob Tryd.prog.godebug = none := by kernel_rfl
theorem laidOut : laidOutB Tryd.prog = true := by kernel_rfl
set_option maxRecDepth 100000 in
theorem lifted (os : Os) (started : os.Started) (H : Type) (enc : TypeId × Value → H) :
    ReturnsInHanded {} Tryd.checked os 3 .any (fun w args => (Rows.nodeClimbsSpec.pre enc Tryd.prog Tryd.f3 [] false w args ∧ laidMetH Tryd.prog Rows.nodeClimbsRow.laid w) ∧ sizedMet enc Tryd.prog Tryd.f3 (OpenSpec.ofChange Rows.nodeClimbsSpec) false w args)
      (Rows.nodeClimbsSpec.post enc Tryd.prog Tryd.f3 false true false false) := by
  refine returnsInHanded_of_change_and (C := Tryd.checked) (X := fun w _ => laidMetH Tryd.prog Rows.nodeClimbsRow.laid w) (fun _ _ _ hh h => h.of_heap hh) own started (by kernel_rfl) Tryd.func3
    (ChangeSpec.witness_at (enc := enc) (C := Tryd.checked) (os := os) (X := fun w _ => laidMetH Tryd.prog Rows.nodeClimbsRow.laid w) false (P.laidWorld os) #[.int .i64 0, .agg #[.string ByteArray.empty, .int .u64 0, .int .u64 0], .int .u64 0, .slice none 0 0] 8 rfl (by kernel_rfl) (by kernel_rfl) (by kernel_rfl) (by kernel_rfl) (by kernel_rfl) (P.laidWorld_met os _)) ?_
  intro W base args ds gs before hval0 hW _ hsz0 hL _
  have hval : ∀ (j : Nat) t v, Tryd.f3.params[j]? = some t → args[j]? = some v → Value.okWide Tryd.prog W .any base t v := hval0
  have hW' := hW
  obtain ⟨p, q, hA0, hV, rfl, hfz, hnd⟩ := hW
  have hA : DataW.TrodAll enc Tryd.prog W 0 (fun _ => true) true Tryd.f3.params.toList args.toList ds p := hA0
  rw [Tryd.params3] at hA hval
  obtain ⟨v0, vs0, d0, ds0, p0, q0, hargs, rfl, rfl, h0, r0⟩ := trodAll_cons hA
  obtain ⟨v1, vs1, d1, ds1, p1, q1, rfl, rfl, rfl, h1, r1⟩ := trodAll_cons r0
  obtain ⟨v2, vs2, d2, ds2, p2, q2, rfl, rfl, rfl, h2, r2⟩ := trodAll_cons r1
  obtain ⟨v3, vs3, d3, ds3, p3, q3, rfl, rfl, rfl, h3, r3⟩ := trodAll_cons r2
  obtain ⟨rfl, rfl, rfl⟩ := trodAll_nil r3
  obtain rfl : args = #[v0, v1, v2, v3] := by cases args; simp_all
  obtain ⟨rfl, rfl⟩ := trodVars_none hV
  have hz0 : Sized Tryd.prog 3 d0 := Sized.each hsz0 (j := 0) rfl rfl
  have hz1 : Sized Tryd.prog 26 d1 := Sized.each hsz0 (j := 1) rfl rfl
  have hz2 : Sized Tryd.prog 22 d2 := Sized.each hsz0 (j := 2) rfl rfl
  have hz3 : Sized Tryd.prog 27 d3 := Sized.each hsz0 (j := 3) rfl rfl
  have k0 := h0
  have lt0 : ∀ x ∈ p0, x.block < W.heap.size := by obtain ⟨m, hm⟩ := k0; exact DataW.trod_lt m _ _ _ hm
  obtain ⟨y0, rfl, rfl, rfl, w0⟩ := open_int Tryd.underlying3 (hval 0 3 v0 rfl rfl) h0
  have k1 := h1
  have lt1 : ∀ x ∈ p1, x.block < W.heap.size := by obtain ⟨m, hm⟩ := k1; exact DataW.trod_lt m _ _ _ hm
  obtain ⟨y1, cs1, rfl, hk1, w1⟩ := rdNode.agg Tryd.underlying26 (hval 1 26 v1 rfl rfl) h1 hz1
  obtain ⟨cl1, rfl⟩ : ∃ l : List Value, cs1 = l.toArray := ⟨cs1.toList, by simp⟩
  simp only [List.toList_toArray] at hk1
  obtain rfl := kNode_open hk1
  have k2 := h2
  have lt2 : ∀ x ∈ p2, x.block < W.heap.size := by obtain ⟨m, hm⟩ := k2; exact DataW.trod_lt m _ _ _ hm
  obtain ⟨y2, rfl, rfl, rfl, w2⟩ := open_int Tryd.underlying22 (hval 2 22 v2 rfl rfl) h2
  have k3 := h3
  have lt3 : ∀ x ∈ p3, x.block < W.heap.size := by obtain ⟨m, hm⟩ := k3; exact DataW.trod_lt m _ _ _ hm
  obtain ⟨a3, len3, cap3, rfl⟩ := okWide_slice Tryd.underlying27 (hval 3 27 v3 rfl rfl)
  obtain ⟨y3, hk3, w3⟩ := (Rd.slice Tryd.underlying27 (by kernel_rfl) (of_decide_eq_true (by kernel_rfl)) rdNode).cell rfl h3 hz3
  obtain ⟨A3, c3, e3, l3, g3⟩ := hk3
  rw [List.cons.injEq] at e3
  obtain ⟨e3, -⟩ := e3
  injection e3 with ea3 el3 ec3
  subst ea3 el3 ec3
  clear hA0 hval0 hsz0
  obtain ⟨k, h⟩ := pure_NodeClimbs y0 y1 y2 y3 w0 w1 w2 w3
  refine (paymasterlaw14_NodeClimbs.calls k y0 y1.f0 y1.f1.f0 y1.f1.f1 y2 _ _ y3 true W (P.laid_of_met hL) g3 l3 h).mono fun e W' ⟨he, bel0⟩ => ?_
  have bel := bel0
  subst he
  exact ⟨_, rfl, _, _, _, [], _, [], hW', trodAll_mk1 (shut_bool Tryd.underlying4 _), (trodAll_cons_mk (Below.trod laidOut (by kernel_rfl) (of_decide_eq_true (by kernel_rfl)) k0 bel lt0) (trodAll_cons_mk (Below.trod laidOut (by kernel_rfl) (of_decide_eq_true (by kernel_rfl)) k1 bel lt1) (trodAll_cons_mk (Below.trod laidOut (by kernel_rfl) (of_decide_eq_true (by kernel_rfl)) k2 bel lt2) (trodAll_cons_mk (Below.trod laidOut (by kernel_rfl) (of_decide_eq_true (by kernel_rfl)) k3 bel lt3) trodAll_mk0)))), rfl, bel.frame _, fun h => by cases h⟩
theorem over : Rows.nodeClimbsRow.holds Tryd.pinned (OpenSpec.ofChange Rows.nodeClimbsSpec) :=
  OpenClaim.holds_of_wide 3 Tryd.f3 rfl rfl rfl rfl rfl rfl rfl ⟨rfl, rfl, rfl, rfl, rfl⟩ rfl rfl rfl rfl rfl (by kernel_rfl) Tryd.func3 (by kernel_rfl)
    (of_decide_eq_true (by kernel_rfl)) (by unfold Func.isWrapper; first | (rw [if_pos (by decide +kernel)]; kernel_rfl) | (rw [if_neg (by decide +kernel)]; exact ⟨rfl, rfl⟩))
    (fun os started H enc _ => lifted os started H enc)
set_option maxRecDepth 100000 in
theorem proved : Rows.NodeClimbsCardSaid :=
  Claim7.holds_tied_plain_at .later [] [.data] true (true, "0d271f63775fa93c7fbc120e8a201296a9c53b9baf3890b1618e34c65d58a738") true
    over (fun _ h => by cases h) (by kernel_rfl) (fun _ h => by cases h) nodeClimbs_row_tie rfl ⟨rfl, rfl⟩ (by kernel_rfl) rfl
    (fun f fn hf hfn => by
      obtain rfl : f = 3 := Option.some.inj ((show Tryd.prog.funcNamed "paymaster/paymasterlaw14.NodeClimbs" = some 3 by kernel_rfl).symm.trans hf) |>.symm
      obtain rfl : fn = Tryd.f3 := (Option.some.inj (Tryd.func3.symm.trans hfn)).symm
      exact ⟨by kernel_rfl, fun j t ht => by
        rw [Tryd.params3] at ht
        have h3 : t ∈ [3, 26, 22, 27] := by
          have := List.mem_of_getElem? (l := [3, 26, 22, 27]) (i := j) (a := t) (by simpa using ht)
          exact this
        simp only [List.mem_cons, List.not_mem_nil, or_false] at h3
        rcases h3 with rfl | rfl | rfl | rfl
        · exact (show Tryd.prog.wantsStandIn 3 = false by kernel_rfl)
        · exact (show Tryd.prog.wantsStandIn 26 = false by kernel_rfl)
        · exact (show Tryd.prog.wantsStandIn 22 = false by kernel_rfl)
        · exact (show Tryd.prog.wantsStandIn 27 = false by kernel_rfl)
      ⟩)
    (by kernel_rfl)
#print axioms proved
end Go.Proofs.YtlmmpncdemblbaaDoor.nodeClimbs
namespace Go.Proofs.YtlmmpncdemblbaaDoor
/-- The row, under a short name, for the claim. -/
theorem nodeClimbs_holds : Rows.NodeClimbsCardSaid := nodeClimbs.proved
end Go.Proofs.YtlmmpncdemblbaaDoor
