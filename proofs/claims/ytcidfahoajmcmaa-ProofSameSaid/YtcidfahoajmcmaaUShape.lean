-- Hand-written contracts of this workplace, filled for this seat by a program.
import Derived.Test.YtcidfahoajmcmaaPx0
import Derived.Test.YtcidfahoajmcmaaPx3
import Derived.Test.YtcidfahoajmcmaaUBase
import Derived.Test.YtcidfahoajmcmaaHShape
import Derived.Test.YtcidfahoajmcmaaRd
namespace Go.Proofs.Ytcidfahoajmcmaa.P
open Go.RowKit Go.Proofs.YtcidfahoajmcmaaW.PrintWords Go.Proofs.YtcidfahoajmcmaaW.PrintLast Go.Proofs.YtcidfahoajmcmaaW.PrintMore
set_option linter.unusedVariables false
set_option linter.unusedSimpArgs false
set_option linter.unnecessarySimpa false

theorem rdNode_nat (l : List SNode) (i : Nat) (h : i < l.length) : rd_TNode l (i : Int) = l[i] := by simp [rd_TNode, h]

/-! Layer 16's shape, and the guards. -/
theorem great14_loop (l : List SNode) (hl : l.length ≤ 9223372036854775807) : ∀ d i : Nat, i + d = l.length → Ev (fun k => paymasterlaw14_Great.l0 k l (i : Int)) ((l.drop i).any fun n => decide (60 < n.f0.size)) := by
  intro d
  induction d with
  | zero =>
    intro i hi
    refine Ev.step (f := fun _ => some false) (fun k => ?_) (ev_eq (Ev.now false) ?_)
    · simp only [paymasterlaw14_Great.l0]; rw [if_neg (by omega)]
    · rw [List.drop_of_length_le (by omega)]; rfl
  | succ d ih =>
    intro i hi
    have hlt : i < l.length := by omega
    rw [any_drop_succ _ l i hlt]
    by_cases hb : 60 < l[i].f0.size
    · refine Ev.step (f := fun _ => some true) (fun k => ?_) (ev_eq (Ev.now true) (by simp [hb]))
      simp only [paymasterlaw14_Great.l0]; rw [if_pos (by omega), if_pos (by omega), rdNode_nat l i hlt, if_pos (by omega)]
    · refine Ev.step (f := fun k => paymasterlaw14_Great.l0 k l ((i + 1 : Nat) : Int)) (fun k => ?_) (ev_eq (ih (i + 1) (by omega)) (by simp [hb]))
      simp only [paymasterlaw14_Great.l0]; rw [if_pos (by omega), if_pos (by omega), rdNode_nat l i hlt, if_neg (by omega), wrap64_id (by omega) (by omega)]; rfl
/-- Are nodes too many, or too great, to be gone through? -/
def greatN (l : List SNode) : Bool := decide (300 < l.length) || l.any fun n => decide (60 < n.f0.size)
theorem great14_ev (l : List SNode) (hl : l.length ≤ 9223372036854775807) : Ev (fun k => paymasterlaw14_Great.f k l) (greatN l) := by
  unfold paymasterlaw14_Great.f greatN
  by_cases h : 300 < l.length
  · exact Ev.some_ (fun k => by rw [if_pos (by omega)]; simp [h])
  · refine Ev.congr (fun k => by rw [if_neg (by omega)]; rfl) (ev_eq (great14_loop l hl l.length 0 (by omega)) (by simp [h]))
theorem rdLeaf_nat (l : List SLeaf) (i : Nat) (h : i < l.length) : rd_TLeaf l (i : Int) = l[i] := by simp [rd_TLeaf, h]
theorem great15_loop (l : List SLeaf) (hl : l.length ≤ 9223372036854775807) : ∀ d i : Nat, i + d = l.length → Ev (fun k => paymasterlaw15_Great.l0 k l (i : Int)) ((l.drop i).any fun n => decide (200 < n.f1.size) || decide (200 < n.f2.size)) := by
  intro d
  induction d with
  | zero =>
    intro i hi
    refine Ev.step (f := fun _ => some false) (fun k => ?_) (ev_eq (Ev.now false) ?_)
    · simp only [paymasterlaw15_Great.l0]; rw [if_neg (by omega)]
    · rw [List.drop_of_length_le (by omega)]; rfl
  | succ d ih =>
    intro i hi
    have hlt : i < l.length := by omega
    rw [any_drop_succ _ l i hlt]
    by_cases hb : 200 < l[i].f1.size
    · refine Ev.step (f := fun _ => some true) (fun k => ?_) (ev_eq (Ev.now true) (by simp [hb]))
      simp only [paymasterlaw15_Great.l0]; rw [if_pos (by omega), if_pos (by omega), rdLeaf_nat l i hlt, if_pos (by omega)]
    · by_cases hc : 200 < l[i].f2.size
      · refine Ev.step (f := fun _ => some true) (fun k => ?_) (ev_eq (Ev.now true) (by simp [hc]))
        simp only [paymasterlaw15_Great.l0]; rw [if_pos (by omega), if_pos (by omega), rdLeaf_nat l i hlt, if_neg (by omega), if_pos (by omega)]
      · refine Ev.step (f := fun k => paymasterlaw15_Great.l0 k l ((i + 1 : Nat) : Int)) (fun k => ?_) (ev_eq (ih (i + 1) (by omega)) (by simp [hb, hc]))
        simp only [paymasterlaw15_Great.l0]; rw [if_pos (by omega), if_pos (by omega), rdLeaf_nat l i hlt, if_neg (by omega), if_neg (by omega), wrap64_id (by omega) (by omega)]; rfl
/-- .. and leaves? -/
def greatL (l : List SLeaf) : Bool := decide (70 < l.length) || l.any fun n => decide (200 < n.f1.size) || decide (200 < n.f2.size)
theorem great15_ev (l : List SLeaf) (hl : l.length ≤ 9223372036854775807) : Ev (fun k => paymasterlaw15_Great.f k l) (greatL l) := by
  unfold paymasterlaw15_Great.f greatL
  by_cases h : 70 < l.length
  · exact Ev.some_ (fun k => by rw [if_pos (by omega)]; simp [h])
  · refine Ev.congr (fun k => by rw [if_neg (by omega)]; rfl) (ev_eq (great15_loop l hl l.length 0 (by omega)) (by simp [h]))
/-- .. and an entry? -/
def longE (e : SEntry) : Bool := decide (100 < e.f1.f1.length) || (greatN e.f1.f1 || greatL [e.f0])
theorem longE_ev (e : SEntry) (hl : e.f1.f1.length ≤ 9223372036854775807) : Ev (fun k => paymasterlaw16_LongEntry.f k e.f0.f0 e.f0.f1 e.f0.f2 e.f0.f3.f0 e.f0.f3.f1 e.f1.f0 e.f1.f1) (longE e) := by
  unfold paymasterlaw16_LongEntry.f longE
  by_cases h : 100 < e.f1.f1.length
  · exact Ev.some_ (fun k => by rw [if_pos (by omega)]; simp [h])
  · refine Ev.congr (fun k => by rw [if_neg (by omega)]) (Ev.bind (great14_ev _ hl) ?_)
    cases hg : greatN e.f1.f1 with
    | true => exact Ev.some_ (fun k => by simp)
    | false =>
      refine Ev.congr (fun k => by rw [if_neg (by simp)]) (Ev.bind (great15_ev [e.f0] (by simp)) ?_)
      exact Ev.some_ (fun k => by simp [h])

theorem two_loop (n : Nat) (hn : n ≤ 63) : ∀ d i : Nat, i + d = n → Ev (fun k => paymasterref16_Two.l0 k (n : Int) ((2 ^ i : Nat) : Int) (i : Int)) ((2 ^ n : Nat) : Int) := by
  intro d
  induction d with
  | zero =>
    intro i hi
    obtain rfl : i = n := by omega
    exact Ev.step (f := fun _ => some ((2 ^ i : Nat) : Int)) (fun k => by simp only [paymasterref16_Two.l0]; rw [if_neg (by omega)]) (Ev.now _)
  | succ d ih =>
    intro i hi
    refine Ev.step (f := fun k => paymasterref16_Two.l0 k (n : Int) ((2 ^ (i + 1) : Nat) : Int) ((i + 1 : Nat) : Int)) (fun k => ?_) (ih (i + 1) (by omega))
    have h1 : 2 ^ (i + 1) ≤ 2 ^ 63 := Nat.pow_le_pow_right (by omega) (by omega)
    have h2 : 2 ^ (i + 1) = 2 * 2 ^ i := by rw [Nat.pow_succ, Nat.mul_comm]
    simp only [paymasterref16_Two.l0]; rw [if_pos (by omega), wrapu64_id (by omega) (by omega), wrap64_id (by omega) (by omega), h2]; rfl
theorem two_ev (n : Nat) (hn : n ≤ 63) : Ev (fun k => paymasterref16_Two.f k (n : Int)) ((2 ^ n : Nat) : Int) := by
  unfold paymasterref16_Two.f
  exact two_loop n hn n 0 (by omega)
theorem ref14Of_eq (w : Int) (n : SNode) : paymasterref14_Of.f w n.f0 n.f1.f0 n.f1.f1 = some (nodeOf w n) := by
  rw [← node_Of_eq]; rfl
theorem div_pow_ne (p : Int) (h : 0 ≤ p) (n : Nat) : (p / ((2 ^ n : Nat) : Int) ≠ 0) ↔ p ≥ ((2 ^ n : Nat) : Int) := by
  have hpos : (0 : Int) < ((2 ^ n : Nat) : Int) := by have : 0 < 2 ^ n := Nat.pow_pos (by omega); omega
  constructor
  · intro hne
    rcases Int.lt_or_le p ((2 ^ n : Nat) : Int) with hlt | hge
    · exact absurd (Int.ediv_eq_zero_of_lt h hlt) hne
    · exact hge
  · intro hge h0
    have := Int.lt_ediv_add_one_mul_self p hpos
    rw [h0] at this; omega
/-- Whether a proof has the shape. -/
def shapeN (a0 a1 p : Int) (l : List SNode) : Int := if a1 < 0 ∨ a1 > 63 then 120 else if a0 < 1 ∨ a0 > 32 ∨ l.any (fun n => !nodeOf a0 n) = true then 70 else if (l.length : Int) ≠ a1 ∨ p / 2 ^ a1.toNat ≠ 0 then 160 else 0
theorem proofShape_eq (a0 a1 p : Int) (l : List SNode) : proof_Shape.f a0 a1 p l = some (shapeN a0 a1 p l) := rfl
theorem shape_loop (a0 a1 p : Int) (l : List SNode) (hp : 0 ≤ p) (h1 : 0 ≤ a1) (h2 : a1 ≤ 63) (hl : l.length ≤ 9223372036854775807) : ∀ d i : Nat, i + d = l.length →
    Ev (fun k => paymasterref16_Shape.l0 k a0 a1 (i : Int) p l) (if (l.drop i).any (fun n => !nodeOf a0 n) = true then 70 else if (l.length : Int) ≠ a1 ∨ p / 2 ^ a1.toNat ≠ 0 then 160 else 0) := by
  obtain ⟨n, rfl⟩ := Int.eq_ofNat_of_zero_le h1
  have hpow : ((2 : Int) ^ (n : Int).toNat) = ((2 ^ n : Nat) : Int) := by simp
  intro d
  induction d with
  | zero =>
    intro i hi
    rw [List.drop_of_length_le (by omega)]
    by_cases hc : (l.length : Int) = (n : Int)
    · refine Ev.step (f := fun k => (paymasterref16_Two.f k (n : Int)).bind fun t114 => (if p ≥ t114 then (some 160) else (some 0))) (fun k => ?_) (Ev.bind (two_ev n (by omega)) ?_)
      · simp only [paymasterref16_Shape.l0]; rw [if_neg (by omega), if_pos hc]
      · rw [hpow]
        have := div_pow_ne p hp n
        by_cases hge : p ≥ ((2 ^ n : Nat) : Int)
        · exact Ev.some_ (fun k => by rw [if_pos hge, if_neg (by simp), if_pos (.inr (this.2 hge))])
        · exact Ev.some_ (fun k => by rw [if_neg hge, if_neg (by simp), if_neg (by rintro (h | h); exact h hc; exact hge (this.1 h))])
    · refine Ev.step (f := fun _ => some 160) (fun k => ?_) (ev_eq (Ev.now 160) ?_)
      · simp only [paymasterref16_Shape.l0]; rw [if_neg (by omega), if_neg hc]
      · rw [if_neg (by simp), if_pos (.inl hc)]
  | succ d ih =>
    intro i hi
    have hlt : i < l.length := by omega
    rw [any_drop_succ _ l i hlt]
    cases hb : nodeOf a0 l[i] with
    | true =>
      refine Ev.step (f := fun k => paymasterref16_Shape.l0 k a0 (n : Int) ((i + 1 : Nat) : Int) p l) (fun k => ?_) (ev_eq (ih (i + 1) (by omega)) (by simp))
      simp only [paymasterref16_Shape.l0]; rw [if_pos (by omega), if_pos (by omega), rdNode_nat l i hlt, ref14Of_eq, hb]; simp only [Option.bind_some, if_true]; rw [wrap64_id (by omega) (by omega)]; rfl
    | false =>
      refine Ev.step (f := fun _ => some 70) (fun k => ?_) (ev_eq (Ev.now 70) (by simp))
      simp only [paymasterref16_Shape.l0]; rw [if_pos (by omega), if_pos (by omega), rdNode_nat l i hlt, ref14Of_eq, hb]; simp
theorem refShape_ev (a0 a1 p : Int) (l : List SNode) (hp : 0 ≤ p) (hl : l.length ≤ 9223372036854775807) : Ev (fun k => paymasterref16_Shape.f k a0 a1 p l) (shapeN a0 a1 p l) := by
  unfold paymasterref16_Shape.f shapeN
  by_cases h1 : a1 < 0
  · refine Ev.congr (fun k => by rw [if_pos h1]) (Ev.step (f := fun _ => some 120) (fun k => by simp [paymasterref16_Shape.j0]) (ev_eq (Ev.now 120) (by rw [if_pos (.inl h1)])))
  by_cases h2 : a1 > 63
  · refine Ev.congr (fun k => by rw [if_neg h1]) (Ev.step (f := fun _ => some 120) (fun k => by simp [paymasterref16_Shape.j0, h2]) (ev_eq (Ev.now 120) (by rw [if_pos (.inr h2)])))
  have hx : ¬(a1 < 0 ∨ a1 > 63) := by omega
  rw [if_neg hx]
  have h2' : ¬ 63 < a1 := h2
  refine Ev.congr (fun k => by rw [if_neg h1]) ?_
  by_cases h3 : a0 < 1
  · refine Ev.step (f := fun k => paymasterref16_Shape.j1 k a0 a1 true p l) (fun k => by simp [paymasterref16_Shape.j0, h2', h3]) (Ev.step (f := fun _ => some 70) (fun k => by simp [paymasterref16_Shape.j1]) (ev_eq (Ev.now 70) (by rw [if_pos (.inl h3)])))
  by_cases h4 : a0 > 32
  · refine Ev.step (f := fun k => paymasterref16_Shape.j1 k a0 a1 (decide (a0 > 32)) p l) (fun k => by simp [paymasterref16_Shape.j0, h2', h3]) (Ev.step (f := fun _ => some 70) (fun k => by simp [paymasterref16_Shape.j1, h4]) (ev_eq (Ev.now 70) (by rw [if_pos (.inr (.inl h4))])))
  have h4' : ¬ 32 < a0 := h4
  refine Ev.step (f := fun k => paymasterref16_Shape.j1 k a0 a1 (decide (a0 > 32)) p l) (fun k => by simp [paymasterref16_Shape.j0, h2', h3]) (Ev.step (f := fun k => paymasterref16_Shape.l0 k a0 a1 0 p l) (fun k => by simp [paymasterref16_Shape.j1, h4']) ?_)
  have := shape_loop a0 a1 p l hp (by omega) (by omega) hl l.length 0 (by omega)
  refine ev_eq this ?_
  rw [List.drop_zero]
  by_cases h5 : l.any (fun n => !nodeOf a0 n) = true
  · rw [if_pos h5, if_pos (.inr (.inr h5))]
  · have hn : ¬(a0 < 1 ∨ a0 > 32 ∨ l.any (fun n => !nodeOf a0 n) = true) := by
      rintro (h | h | h)
      · exact h3 h
      · exact h4 h
      · exact h5 h
    rw [if_neg h5, if_neg hn]

end Go.Proofs.Ytcidfahoajmcmaa.P
