-- Hand-written contracts of this workplace, filled for this seat by a program.
import Derived.Test.YtcidfahoajmcmaaPx0
import Derived.Test.YtcidfahoajmcmaaPx4
import Derived.Test.YtcidfahoajmcmaaHIdxNode
namespace Go.Proofs.Ytcidfahoajmcmaa.P
open Go.RowKit Go.Proofs.YtcidfahoajmcmaaW.PrintWords Go.Proofs.YtcidfahoajmcmaaW.PrintLast Go.Proofs.YtcidfahoajmcmaaW.PrintMore
set_option linter.unusedVariables false
set_option linter.unusedSimpArgs false
set_option linter.unnecessarySimpa false

def nodeOf (w : Int) (n : SNode) : Bool := decide (1 ≤ w) && (decide (w ≤ 32) && ((n.f0.size : Int) == w))
theorem node_Of_eq (w : Int) (n : SNode) : node_Of.f w n.f0 n.f1.f0 n.f1.f1 = some (nodeOf w n) := by
  unfold node_Of.f nodeOf
  by_cases h1 : w ≥ 1
  · by_cases h2 : w ≤ 32
    · rw [if_pos h1, if_pos h2]
      have h1' : 1 ≤ w := h1
      simp [h1', h2]
    · rw [if_pos h1, if_neg h2]; simp [h2]
  · rw [if_neg h1]
    have h1' : ¬ 1 ≤ w := h1
    simp [h1']
theorem nodeOf.calls (a0 : Int) (n : SNode) (w : World) : Calls Try.prog 19 #[.int .i64 a0, nodeV n] w fun e w' => e = .returned (.bool (nodeOf a0 n)) ∧ Below w.heap.size w w' :=
  node_Of.calls a0 n.f0 n.f1.f0 n.f1.f1 _ w (node_Of_eq a0 n)

set_option maxRecDepth 100000 in
set_option maxHeartbeats 1000000 in
theorem shapeOdd.calls (a0 : Int) (b : Nat) (n : SNode) (w : World) (hc : w.cell? ⟨b, 0, none⟩ = some (.int .i64 a0)) (hlt : b < w.heap.size) :
    Calls Try.prog 18 #[nodeV n, .pointer (some ⟨b, 0, none⟩)] w fun e w' => e = .returned (.bool (!nodeOf a0 n)) ∧ Below w.heap.size w w' := by
  have hu := Try.underlying61
  have hne : b ≠ w.heap.size := by omega
  go_enter Try.func18, Try.ntmps18
  go_wp2_with fail
  refine (nodeOf.calls a0 n _).mono ?_
  rintro e w1 ⟨rfl, hb⟩
  have HB := Aside0.mk hb
  clear hb
  go_wp2
  go_ret
  exact ⟨rfl, below_then ((Below.refl _ _).alloc (Nat.le_refl _) _) (by simp) HB.out⟩

/-- Whether a proof has the shape: in plain words. -/
def proof_Shape.f (a0 a1 a2_0 : Int) (l2_1 : List SNode) : Option Int :=
  some (if a1 < 0 ∨ a1 > 63 then 120 else if a0 < 1 ∨ a0 > 32 ∨ l2_1.any (fun n => !nodeOf a0 n) = true then 70 else if (l2_1.length : Int) ≠ a1 ∨ a2_0 / 2 ^ a1.toNat ≠ 0 then 160 else 0)

set_option maxRecDepth 100000 in
set_option maxHeartbeats 2000000 in
theorem proof_Shape.calls (a0 : Int) (a1 : Int) (a2_0 : Int) (A2_1 : Option Addr) (c2_1 : Nat) (l2_1 : List SNode) (r : Int) (w : World) (hr2_1 : Kd.C kNode w A2_1 l2_1.length l2_1) (hc2_1 : l2_1.length ≤ c2_1) (h : proof_Shape.f a0 a1 a2_0 l2_1 = some r) :
    Calls Try.prog 7 #[.int .i64 a0, .int .i64 a1, .agg #[.int .u64 a2_0, .slice A2_1 l2_1.length c2_1]] w fun e w' => e = .returned (.int .i64 r) ∧ Below w.heap.size w w' := by
  have hu := Try.underlying29
  have HR := Aside0.mk hr2_1
  have HF := Aside0.mk (Option.some.inj h)
  clear hr2_1 h hc2_1
  have HB0 := Aside0.mk (Below.refl w.heap.size w)
  by_cases h1 : a1 < 0
  · have b1 : decide (a1 < 0) = true := decide_eq_true h1
    have HF1 := Aside0.mk (show (120 : Int) = r by have := HF.out; rwa [if_pos (.inl h1)] at this)
    clear h1
    go_enter Try.func7, Try.ntmps7
    go_wp2
    go_ret
    exact ⟨by rw [← HF1.out]; rfl, by repeat (first | exact HB0.out | apply below_alloc)⟩
  by_cases h2 : a1 > 63
  · have b1 : decide (a1 < 0) = false := decide_eq_false h1
    have b2 : decide (63 < a1) = true := decide_eq_true h2
    have HF1 := Aside0.mk (show (120 : Int) = r by have := HF.out; rwa [if_pos (.inr h2)] at this)
    clear h1 h2
    go_enter Try.func7, Try.ntmps7
    go_wp2
    go_ret
    exact ⟨by rw [← HF1.out]; rfl, by repeat (first | exact HB0.out | apply below_alloc)⟩
  have b1 : decide (a1 < 0) = false := decide_eq_false h1
  have b2 : decide (63 < a1) = false := decide_eq_false h2
  have HF2 := Aside0.mk (show (if a0 < 1 ∨ a0 > 32 ∨ l2_1.any (fun n => !nodeOf a0 n) = true then (70 : Int) else if (l2_1.length : Int) ≠ a1 ∨ a2_0 / 2 ^ a1.toNat ≠ 0 then 160 else 0) = r by have := HF.out; rwa [if_neg (by omega)] at this)
  clear HF
  by_cases h3 : a0 < 1
  · have b3 : decide (a0 < 1) = true := decide_eq_true h3
    have HF1 := Aside0.mk (show (70 : Int) = r by have := HF2.out; rwa [if_pos (.inl h3)] at this)
    clear h1 h2 h3
    go_enter Try.func7, Try.ntmps7
    go_wp2
    go_ret
    exact ⟨by rw [← HF1.out]; rfl, by repeat (first | exact HB0.out | apply below_alloc)⟩
  by_cases h4 : a0 > 32
  · have b3 : decide (a0 < 1) = false := decide_eq_false h3
    have b4 : decide (32 < a0) = true := decide_eq_true h4
    have HF1 := Aside0.mk (show (70 : Int) = r by have := HF2.out; rwa [if_pos (.inr (.inl h4))] at this)
    clear h1 h2 h3 h4
    go_enter Try.func7, Try.ntmps7
    go_wp2
    go_ret
    exact ⟨by rw [← HF1.out]; rfl, by repeat (first | exact HB0.out | apply below_alloc)⟩
  have b3 : decide (a0 < 1) = false := decide_eq_false h3
  have b4 : decide (32 < a0) = false := decide_eq_false h4
  have g1 : 0 ≤ a1 := by omega
  have g2 : a1 ≤ 63 := by omega
  clear h1 h2
  go_enter Try.func7, Try.ntmps7
  go_wp2_with fail
  refine (anyNode.calls 18 _ (fun n => !nodeOf a0 n) _ _ l2_1 _ (by repeat (first | exact HR.out | apply Kd.C_alloc)) (fun _ _ => by rfl) (fun W x hb => shapeOdd.calls a0 w.heap.size x W ((hb.cell (p := ⟨w.heap.size, 0, none⟩) (by simp; omega)).trans (by go_simp)) (by have := hb.size; simp at this; omega))).mono ?_
  rintro e w1 ⟨rfl, hb⟩
  have hB1 : Below w.heap.size w w1 := below_then (by repeat (first | exact HB0.out | apply below_alloc)) (by simp; omega) hb
  have hcp0 : w1.cell? ⟨w.heap.size + 1, 0, none⟩ = some (.int .u64 a2_0) := (hb.cell (p := ⟨w.heap.size + 1, 0, none⟩) (by simp)).trans (by go_simp)
  have hcp1 : w1.cell? ⟨w.heap.size + 1, 1, none⟩ = some (.slice A2_1 l2_1.length c2_1) := (hb.cell (p := ⟨w.heap.size + 1, 1, none⟩) (by simp)).trans (by go_simp)
  have HB1 := Aside0.mk hB1
  clear hB1 hb
  cases hany : l2_1.any (fun n => !nodeOf a0 n) with
  | true =>
    have HF1 := Aside0.mk (show (70 : Int) = r by have := HF2.out; rwa [if_pos (.inr (.inr hany))] at this)
    clear hany h3 h4
    go_wp2
    go_ret
    exact ⟨by rw [← HF1.out]; rfl, HB1.out⟩
  | false =>
    have HF3 := Aside0.mk (show (if (l2_1.length : Int) ≠ a1 ∨ a2_0 / 2 ^ a1.toNat ≠ 0 then (160 : Int) else 0) = r by have := HF2.out; rwa [if_neg (by rw [hany]; simp; omega)] at this)
    clear hany h3 h4
    by_cases h5 : (l2_1.length : Int) = a1
    · by_cases h6 : a2_0 / 2 ^ a1.toNat = 0
      · have b5 : ((l2_1.length : Int) != a1) = false := bne_eq_false_iff_eq.2 h5
        have b6 : (a2_0 / 2 ^ a1.toNat != 0) = false := bne_eq_false_iff_eq.2 h6
        have HF1 := Aside0.mk (show (0 : Int) = r by have := HF3.out; rwa [if_neg (by simp [h5, h6])] at this)
        clear h5 h6
        go_wp2
        go_ret
        exact ⟨by rw [← HF1.out]; rfl, HB1.out⟩
      · have b5 : ((l2_1.length : Int) != a1) = false := bne_eq_false_iff_eq.2 h5
        have b6 : (a2_0 / 2 ^ a1.toNat != 0) = true := bne_iff_ne.2 h6
        have HF1 := Aside0.mk (show (160 : Int) = r by have := HF3.out; rwa [if_pos (.inr h6)] at this)
        clear h5 h6
        go_wp2
        go_ret
        exact ⟨by rw [← HF1.out]; rfl, HB1.out⟩
    · have b5 : ((l2_1.length : Int) != a1) = true := bne_iff_ne.2 h5
      have HF1 := Aside0.mk (show (160 : Int) = r by have := HF3.out; rwa [if_pos (.inl h5)] at this)
      clear h5
      go_wp2
      go_ret
      exact ⟨by rw [← HF1.out]; rfl, HB1.out⟩

end Go.Proofs.Ytcidfahoajmcmaa.P
