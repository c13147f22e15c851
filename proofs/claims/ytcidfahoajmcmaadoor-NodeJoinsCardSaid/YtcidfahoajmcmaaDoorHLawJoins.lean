-- Hand-written contracts of this workplace, filled for this seat by a program.
import Derived.Test.YtcidfahoajmcmaaDoorPx0
import Derived.Test.YtcidfahoajmcmaaDoorPn0
import Derived.Test.YtcidfahoajmcmaaDoorPn1
import Derived.Test.YtcidfahoajmcmaaDoorPn2
import Derived.Test.YtcidfahoajmcmaaDoorPn7
import Derived.Test.YtcidfahoajmcmaaDoorPn8
import Derived.Test.YtcidfahoajmcmaaDoorUJoin
namespace Go.Proofs.YtcidfahoajmcmaaDoor.P
open Go.RowKit Go.Proofs.YtcidfahoajmcmaaDoorW.PrintWords Go.Proofs.YtcidfahoajmcmaaDoorW.PrintLast Go.Proofs.YtcidfahoajmcmaaDoorW.PrintMore
set_option linter.unusedVariables false
set_option linter.unusedSimpArgs false
set_option linter.unnecessarySimpa false

theorem OkU.of {u : SU128} (h0 : 0 ≤ u.f0 ∧ u.f0 < 18446744073709551616) (h1 : 0 ≤ u.f1 ∧ u.f1 < 18446744073709551616) : OkU u := ⟨h0, h1⟩
abbrev nodeA (n : SNode) : Array Value := #[.string n.f0, .int .u64 n.f1.f0, .int .u64 n.f1.f1]
/-- Two nodes that lie in a block, as a row. -/
theorem rowTwo {w : World} {g : Nat} {T : TypeId} {l r : SNode} (h : w.heap[g]? = some (.cells #[.string l.f0, .int .u64 l.f1.f0, .int .u64 l.f1.f1, .string r.f0, .int .u64 r.f1.f0, .int .u64 r.f1.f1] T (0, 0))) : Kd.C kNode w (some ⟨g, 0, none⟩) [l, r].length [l, r] := by
  refine ⟨rfl, by simp, fun _ => ⟨_, rfl, fun j p hj => ?_⟩⟩
  have : j = 0 ∨ j = 1 := by
    have := (List.getElem?_eq_some_iff.1 hj).1
    simp at this; omega
  rcases this with rfl | rfl
  · obtain rfl : l = p := by simpa using hj
    refine ⟨_, rfl, kNode_mk w l, fun i u hu => ?_⟩
    have : i = 0 ∨ i = 1 ∨ i = 2 := by
      have := (List.getElem?_eq_some_iff.1 hu).1
      simp at this; omega
    rcases this with rfl | rfl | rfl <;> (obtain rfl := Option.some.inj hu; exact blk_cell h _)
  · obtain rfl : r = p := by simpa using hj
    refine ⟨_, rfl, kNode_mk w r, fun i u hu => ?_⟩
    have : i = 0 ∨ i = 1 ∨ i = 2 := by
      have := (List.getElem?_eq_some_iff.1 hu).1
      simp at this; omega
    rcases this with rfl | rfl | rfl <;> (obtain rfl := Option.some.inj hu; exact blk_cell h _)
attribute [local go_sem high] eqANode
/-- All boxes. -/
structure AtJ (w w' : World) (l r x y : SNode) (g1 g2 : Nat) : Prop where
  below : Below w.heap.size w w'
  one : w'.heap[w.heap.size]? = some (.cells (nodeA l) 59 (0, 0))
  two : w'.heap[w.heap.size + 1]? = some (.cells (nodeA r) 59 (0, 0))
  xs : w'.heap[g1]? = some (.cells (nodeA x) 59 (0, 0))
  ys : w'.heap[g2]? = some (.cells (nodeA y) 59 (0, 0))
theorem AtJ.of {w W : World} {l r x y : SNode} {g1 g2 : Nat} {C : Prop} (h : C ∧ AtJ w W l r x y g1 g2) : AtJ w W l r x y g1 g2 := h.2
theorem AtJ.drew {w W : World} {l r x y : SNode} {g1 g2 : Nat} (h : AtJ w W l r x y g1 g2) : AtJ w W.drew l r x y g1 g2 := ⟨below_drew h.below, blk_drew h.one, blk_drew h.two, blk_drew h.xs, blk_drew h.ys⟩
theorem AtJ.keep {w W w' : World} {l r x y : SNode} {g1 g2 : Nat} (k : Below W.heap.size W w') (h : AtJ w W l r x y g1 g2) : AtJ w w' l r x y g1 g2 :=
  ⟨h.below.trans (k.mono h.below.size), blk_below h.one k, blk_below h.two k, blk_below h.xs k, blk_below h.ys k⟩
theorem AtJ.cells {w w' : World} {l r x y : SNode} {g1 g2 : Nat} (h : AtJ w w' l r x y g1 g2) :
    ((w'.cell? ⟨w.heap.size, 0, none⟩ = some (.string l.f0) ∧ w'.cell? ⟨w.heap.size, 1, none⟩ = some (.int .u64 l.f1.f0) ∧ w'.cell? ⟨w.heap.size, 2, none⟩ = some (.int .u64 l.f1.f1)) ∧
     (w'.cell? ⟨g1, 0, none⟩ = some (.string x.f0) ∧ w'.cell? ⟨g1, 1, none⟩ = some (.int .u64 x.f1.f0) ∧ w'.cell? ⟨g1, 2, none⟩ = some (.int .u64 x.f1.f1)) ∧
     (w'.cell? ⟨g2, 0, none⟩ = some (.string y.f0) ∧ w'.cell? ⟨g2, 1, none⟩ = some (.int .u64 y.f1.f0) ∧ w'.cell? ⟨g2, 2, none⟩ = some (.int .u64 y.f1.f1))) ∧ AtJ w w' l r x y g1 g2 :=
  ⟨⟨⟨blk_cell h.one 0, blk_cell h.one 1, blk_cell h.one 2⟩, ⟨blk_cell h.xs 0, blk_cell h.xs 1, blk_cell h.xs 2⟩, ⟨blk_cell h.ys 0, blk_cell h.ys 1, blk_cell h.ys 2⟩⟩, h⟩
set_option maxRecDepth 100000 in
set_option maxHeartbeats 4000000 in
theorem lawjoins.calls (a : Int) (l r : SNode) (w : World) (hK : Laid w) (ul : OkU l.f1) (ur : OkU r.f1) :
    Calls Tryd.prog 11 #[.int .i64 a, .agg #[.string l.f0, .int .u64 l.f1.f0, .int .u64 l.f1.f1], .agg #[.string r.f0, .int .u64 r.f1.f0, .int .u64 r.f1.f1]] w fun e w' => e = .returned (.bool true) ∧ Below w.heap.size w w' := by
  have hu := Tryd.underlying59
  obtain ⟨k0, hk0⟩ := (great14_ev [l, r] (by simp)).rounds
  obtain ⟨k1, hk1⟩ := (join_ev a l r ul ur).rounds
  obtain ⟨k2, hk2⟩ := (refJoin_ev a l r ul ur).rounds
  generalize joinI a l r = J at hk1 hk2
  obtain ⟨d, hi, lo, er⟩ := J
  have HK := Aside0.mk hK
  have HK0 := Aside0.mk hk0
  have HK1 := Aside0.mk hk1
  have HK2 := Aside0.mk hk2
  clear hK hk0 hk1 hk2
  go_enter Tryd.func11, Tryd.ntmps11
  go_wp2_with fail
  refine (paymasterlaw14_Great.calls k0 _ 2 [l, r] _ _ (rowTwo (g := w.heap.size + 2) (T := 59) ?hb) (Nat.le_refl _) HK0.out).mono ?_
  case hb =>
    have := blk_new ((w.alloc (.cells #[.string l.f0, .int .u64 l.f1.f0, .int .u64 l.f1.f1] 59)).alloc (.cells #[.string r.f0, .int .u64 r.f1.f0, .int .u64 r.f1.f1] 59)) (.cells #[.string l.f0, .int .u64 l.f1.f0, .int .u64 l.f1.f1, .string r.f0, .int .u64 r.f1.f0, .int .u64 r.f1.f1] 59)
    simpa using this
  rintro e w1 ⟨rfl, ⟨m, rfl⟩⟩
  have hB : Below w.heap.size w ((((w.alloc (.cells #[.string l.f0, .int .u64 l.f1.f0, .int .u64 l.f1.f1] 59)).alloc (.cells #[.string r.f0, .int .u64 r.f1.f0, .int .u64 r.f1.f1] 59)).alloc (.cells #[.string l.f0, .int .u64 l.f1.f0, .int .u64 l.f1.f1, .string r.f0, .int .u64 r.f1.f0, .int .u64 r.f1.f1] 59)).drewN m) :=
    pw_below_drewN (by repeat (first | exact Below.refl _ _ | apply below_alloc)) _
  cases hg : greatN [l, r] with
  | true =>
    go_wp2
    go_ret
    exact ⟨rfl, hB⟩
  | false =>
  clear hg
  have h1 := blk_drewN (blk_alloc (blk_alloc (blk_new w (.cells #[.string l.f0, .int .u64 l.f1.f0, .int .u64 l.f1.f1] 59)) (.cells #[.string r.f0, .int .u64 r.f1.f0, .int .u64 r.f1.f1] 59)) (.cells #[.string l.f0, .int .u64 l.f1.f0, .int .u64 l.f1.f1, .string r.f0, .int .u64 r.f1.f0, .int .u64 r.f1.f1] 59)) m
  have h2 : ((((w.alloc (.cells #[.string l.f0, .int .u64 l.f1.f0, .int .u64 l.f1.f1] 59)).alloc (.cells #[.string r.f0, .int .u64 r.f1.f0, .int .u64 r.f1.f1] 59)).alloc (.cells #[.string l.f0, .int .u64 l.f1.f0, .int .u64 l.f1.f1, .string r.f0, .int .u64 r.f1.f0, .int .u64 r.f1.f1] 59)).drewN m).heap[w.heap.size + 1]? = some (.cells #[.string r.f0, .int .u64 r.f1.f0, .int .u64 r.f1.f1] 59 (0, 0)) := by
    refine blk_drewN (blk_alloc ?_ _) m
    have := blk_new (w.alloc (.cells #[.string l.f0, .int .u64 l.f1.f0, .int .u64 l.f1.f1] 59)) (.cells #[.string r.f0, .int .u64 r.f1.f0, .int .u64 r.f1.f1] 59)
    simpa using this
  generalize (((w.alloc (.cells #[.string l.f0, .int .u64 l.f1.f0, .int .u64 l.f1.f1] 59)).alloc (.cells #[.string r.f0, .int .u64 r.f1.f0, .int .u64 r.f1.f1] 59)).alloc (.cells #[.string l.f0, .int .u64 l.f1.f0, .int .u64 l.f1.f1, .string r.f0, .int .u64 r.f1.f0, .int .u64 r.f1.f1] 59)).drewN m = W at hB h1 h2 ⊢
  have HB := Aside0.mk hB
  have H1 := Aside0.mk h1
  have H2 := Aside0.mk h2
  clear hB h1 h2
  have c0 : W.cell? ⟨w.heap.size, 0, none⟩ = some (.string l.f0) := blk_cell H1.out 0
  have c1 : W.cell? ⟨w.heap.size, 1, none⟩ = some (.int .u64 l.f1.f0) := blk_cell H1.out 1
  have c2 : W.cell? ⟨w.heap.size, 2, none⟩ = some (.int .u64 l.f1.f1) := blk_cell H1.out 2
  have c3 : W.cell? ⟨w.heap.size + 1, 0, none⟩ = some (.string r.f0) := blk_cell H2.out 0
  have c4 : W.cell? ⟨w.heap.size + 1, 1, none⟩ = some (.int .u64 r.f1.f0) := blk_cell H2.out 1
  have c5 : W.cell? ⟨w.heap.size + 1, 2, none⟩ = some (.int .u64 r.f1.f1) := blk_cell H2.out 2
  go_wp2_with fail
  refine (node_Join.calls k1 a _ _ _ _ _ _ d hi lo er _ (HK.out.below HB.out) HK1.out).mono ?_
  rintro e w2 ⟨rfl, hB2⟩
  clear c0 c1 c2 c3 c4 c5
  have HB := Aside0.mk (HB.out.trans (hB2.mono HB.out.size))
  have H1 := Aside0.mk (blk_below H1.out hB2)
  have H2 := Aside0.mk (blk_below H2.out hB2)
  have c0 : w2.cell? ⟨w.heap.size, 0, none⟩ = some (.string l.f0) := blk_cell H1.out 0
  have c1 : w2.cell? ⟨w.heap.size, 1, none⟩ = some (.int .u64 l.f1.f0) := blk_cell H1.out 1
  have c2 : w2.cell? ⟨w.heap.size, 2, none⟩ = some (.int .u64 l.f1.f1) := blk_cell H1.out 2
  have c3 : w2.cell? ⟨w.heap.size + 1, 0, none⟩ = some (.string r.f0) := blk_cell H2.out 0
  have c4 : w2.cell? ⟨w.heap.size + 1, 1, none⟩ = some (.int .u64 r.f1.f0) := blk_cell H2.out 1
  have c5 : w2.cell? ⟨w.heap.size + 1, 2, none⟩ = some (.int .u64 r.f1.f1) := blk_cell H2.out 2
  have l1 : w.heap.size < w2.heap.size := blk_lt H1.out
  have l2 : w.heap.size + 1 < w2.heap.size := blk_lt H2.out
  clear hB2
  go_wp2_with fail
  refine (paymasterref14_Join.calls k2 a _ _ _ _ _ _ d hi lo er _ HK2.out).mono ?_
  rintro e w3 ⟨rfl, hB3⟩
  clear c0 c1 c2 c3 c4 c5 l1 l2
  have hx : w3.heap[w2.heap.size]? = some (.cells (nodeA ⟨d, ⟨hi, lo⟩⟩) 59 (0, 0)) := blk_below (blk_new w2 _) hB3
  have HB := Aside0.mk (show Below w.heap.size w w3 from (below_alloc HB.out _).trans (hB3.mono (by have := HB.out.size; simp; omega)))
  have H1 := Aside0.mk (blk_below (blk_alloc H1.out _) hB3)
  have H2 := Aside0.mk (blk_below (blk_alloc H2.out _) hB3)
  have HX := Aside0.mk hx
  clear hx hB3
  go_upto_region 5 with (fail)
  have hS : AtJ w (w3.alloc (.cells #[.string d, .int .u64 hi, .int .u64 lo] 59)) l r ⟨d, ⟨hi, lo⟩⟩ ⟨d, ⟨hi, lo⟩⟩ w2.heap.size w3.heap.size :=
    ⟨below_alloc HB.out _, blk_alloc H1.out _, blk_alloc H2.out _, blk_alloc HX.out _, blk_new w3 _⟩
  generalize w3.alloc (.cells #[.string d, .int .u64 hi, .int .u64 lo] 59) = W4 at hS ⊢
  generalize w2.heap.size = G1 at hS ⊢
  generalize w3.heap.size = G2 at hS ⊢
  have HS := Aside0.mk hS
  clear hS H1 H2 HX HB
  have ea := node_Of_eq a l
  have eb := ref14Of_eq a l
  have EA := Aside0.mk ea
  have EB := Aside0.mk eb
  clear ea eb
  go_region_held3 (fun w' => ((w'.cell? ⟨w.heap.size, 0, none⟩ = some (.string l.f0) ∧ w'.cell? ⟨w.heap.size, 1, none⟩ = some (.int .u64 l.f1.f0) ∧ w'.cell? ⟨w.heap.size, 2, none⟩ = some (.int .u64 l.f1.f1)) ∧ (w'.cell? ⟨G1, 0, none⟩ = some (.string d) ∧ w'.cell? ⟨G1, 1, none⟩ = some (.int .u64 hi) ∧ w'.cell? ⟨G1, 2, none⟩ = some (.int .u64 lo)) ∧ (w'.cell? ⟨G2, 0, none⟩ = some (.string d) ∧ w'.cell? ⟨G2, 1, none⟩ = some (.int .u64 hi) ∧ w'.cell? ⟨G2, 2, none⟩ = some (.int .u64 lo))) ∧ AtJ w w' l r ⟨d, ⟨hi, lo⟩⟩ ⟨d, ⟨hi, lo⟩⟩ G1 G2) (first | exact HS.out.drew.cells | exact (AtJ.keep (by assumption) (AtJ.of (by assumption))).cells) (first | (go_at_call 34; (with_reducible refine (node_Of.calls a _ _ _ _ _ EA.out).mono ?_); rintro e w' ⟨rfl, hb⟩) | (go_at_call 35; (with_reducible refine (paymasterref14_Of.calls a _ _ _ _ _ EB.out).mono ?_); rintro e w' ⟨rfl, hb⟩))
  all_goals
    go_wp2
    go_ret
    exact ⟨by simp, (AtJ.of (by assumption)).below⟩
def paymasterlaw14_NodeJoins.f (a0 : Int) (a1_0 : ByteArray) (a1_1 a1_2 : Int) (a2_0 : ByteArray) (a2_1 a2_2 : Int) : Option Bool :=
  if ((0 ≤ a1_1 ∧ a1_1 < 18446744073709551616) ∧ (0 ≤ a1_2 ∧ a1_2 < 18446744073709551616)) ∧ ((0 ≤ a2_1 ∧ a2_1 < 18446744073709551616) ∧ (0 ≤ a2_2 ∧ a2_2 < 18446744073709551616)) then some true else none
theorem paymasterlaw14_NodeJoins.calls (a0 : Int) (a1_0 : ByteArray) (a1_1 : Int) (a1_2 : Int) (a2_0 : ByteArray) (a2_1 : Int) (a2_2 : Int) (r : Bool) (w : World) (hK : Laid w) (h : paymasterlaw14_NodeJoins.f a0 a1_0 a1_1 a1_2 a2_0 a2_1 a2_2 = some r) :
    Calls Tryd.prog 11 #[.int .i64 a0, .agg #[.string a1_0, .int .u64 a1_1, .int .u64 a1_2], .agg #[.string a2_0, .int .u64 a2_1, .int .u64 a2_2]] w fun e w' => e = .returned (.bool r) ∧ Below w.heap.size w w' := by
  unfold paymasterlaw14_NodeJoins.f at h
  split at h
  · rename_i hh
    cases h
    exact lawjoins.calls a0 ⟨a1_0, a1_1, a1_2⟩ ⟨a2_0, a2_1, a2_2⟩ w hK ⟨hh.1.1, hh.1.2⟩ ⟨hh.2.1, hh.2.2⟩
  · cases h

end Go.Proofs.YtcidfahoajmcmaaDoor.P
