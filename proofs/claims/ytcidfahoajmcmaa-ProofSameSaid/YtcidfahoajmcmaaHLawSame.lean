-- Hand-written contracts of this workplace, filled for this seat by a program.
import Derived.Test.YtcidfahoajmcmaaPx0
import Derived.Test.YtcidfahoajmcmaaPx3
import Derived.Test.YtcidfahoajmcmaaPx4
import Derived.Test.YtcidfahoajmcmaaHNoTree
import Derived.Test.YtcidfahoajmcmaaUSame
namespace Go.Proofs.Ytcidfahoajmcmaa.P
open Go.RowKit Go.Proofs.YtcidfahoajmcmaaW.PrintWords Go.Proofs.YtcidfahoajmcmaaW.PrintLast Go.Proofs.YtcidfahoajmcmaaW.PrintMore
set_option linter.unusedVariables false
set_option linter.unusedSimpArgs false
set_option linter.unnecessarySimpa false

/-- Both entries lie in boxes of their own. -/
structure AtS (w w' : World) (a b : SEntry) (A0 A1 : Option Addr) (c0 c1 : Nat) : Prop where
  below : Below w.heap.size w w'
  one : w'.heap[w.heap.size]? = some (.cells #[.bool a.f0.f0, .string a.f0.f1, .string a.f0.f2, .int .u64 a.f0.f3.f0, .int .u64 a.f0.f3.f1, .int .u64 a.f1.f0, .slice A0 a.f1.f1.length c0] 31 (0, 0))
  two : w'.heap[w.heap.size + 1]? = some (.cells #[.bool b.f0.f0, .string b.f0.f1, .string b.f0.f2, .int .u64 b.f0.f3.f0, .int .u64 b.f0.f3.f1, .int .u64 b.f1.f0, .slice A1 b.f1.f1.length c1] 31 (0, 0))
theorem AtS.of {w W : World} {a b : SEntry} {A0 A1 : Option Addr} {c0 c1 : Nat} {C : Prop} (h : C ∧ AtS w W a b A0 A1 c0 c1) : AtS w W a b A0 A1 c0 c1 := h.2
theorem AtS.drew {w W : World} {a b : SEntry} {A0 A1 : Option Addr} {c0 c1 : Nat} (h : AtS w W a b A0 A1 c0 c1) : AtS w W.drew a b A0 A1 c0 c1 := ⟨below_drew h.below, blk_drew h.one, blk_drew h.two⟩
theorem AtS.keep {w W w' : World} {a b : SEntry} {A0 A1 : Option Addr} {c0 c1 : Nat} (k : Below W.heap.size W w') (h : AtS w W a b A0 A1 c0 c1) : AtS w w' a b A0 A1 c0 c1 :=
  ⟨h.below.trans (k.mono h.below.size), blk_below h.one k, blk_below h.two k⟩
/-- .. cell by cell. -/
theorem AtS.cells {w w' : World} {a b : SEntry} {A0 A1 : Option Addr} {c0 c1 : Nat} (h : AtS w w' a b A0 A1 c0 c1) : (w'.cell? ⟨w.heap.size, 0, none⟩ = some (.bool a.f0.f0) ∧ w'.cell? ⟨w.heap.size, 1, none⟩ = some (.string a.f0.f1) ∧ w'.cell? ⟨w.heap.size, 2, none⟩ = some (.string a.f0.f2) ∧ w'.cell? ⟨w.heap.size, 3, none⟩ = some (.int .u64 a.f0.f3.f0) ∧ w'.cell? ⟨w.heap.size, 4, none⟩ = some (.int .u64 a.f0.f3.f1) ∧ w'.cell? ⟨w.heap.size, 5, none⟩ = some (.int .u64 a.f1.f0) ∧ w'.cell? ⟨w.heap.size, 6, none⟩ = some (.slice A0 a.f1.f1.length c0) ∧ w'.cell? ⟨w.heap.size + 1, 0, none⟩ = some (.bool b.f0.f0) ∧ w'.cell? ⟨w.heap.size + 1, 1, none⟩ = some (.string b.f0.f1) ∧ w'.cell? ⟨w.heap.size + 1, 2, none⟩ = some (.string b.f0.f2) ∧ w'.cell? ⟨w.heap.size + 1, 3, none⟩ = some (.int .u64 b.f0.f3.f0) ∧ w'.cell? ⟨w.heap.size + 1, 4, none⟩ = some (.int .u64 b.f0.f3.f1) ∧ w'.cell? ⟨w.heap.size + 1, 5, none⟩ = some (.int .u64 b.f1.f0) ∧ w'.cell? ⟨w.heap.size + 1, 6, none⟩ = some (.slice A1 b.f1.f1.length c1)) ∧ AtS w w' a b A0 A1 c0 c1 :=
  ⟨⟨blk_cell h.one 0, blk_cell h.one 1, blk_cell h.one 2, blk_cell h.one 3, blk_cell h.one 4, blk_cell h.one 5, blk_cell h.one 6, blk_cell h.two 0, blk_cell h.two 1, blk_cell h.two 2, blk_cell h.two 3, blk_cell h.two 4, blk_cell h.two 5, blk_cell h.two 6⟩, h⟩
set_option maxRecDepth 100000 in
set_option maxHeartbeats 8000000 in
theorem lawsame.calls (a b : SEntry) (p : Int) (A0 A1 : Option Addr) (c0 c1 : Nat) (w : World) (hr0 : Kd.C kNode w A0 a.f1.f1.length a.f1.f1) (hc0 : a.f1.f1.length ≤ c0) (hr1 : Kd.C kNode w A1 b.f1.f1.length b.f1.f1) (hc1 : b.f1.f1.length ≤ c1) :
    Calls Try.prog 4 #[.agg #[.bool a.f0.f0, .string a.f0.f1, .string a.f0.f2, .int .u64 a.f0.f3.f0, .int .u64 a.f0.f3.f1, .int .u64 a.f1.f0, .slice A0 a.f1.f1.length c0],
      .agg #[.bool b.f0.f0, .string b.f0.f1, .string b.f0.f2, .int .u64 b.f0.f3.f0, .int .u64 b.f0.f3.f1, .int .u64 b.f1.f0, .slice A1 b.f1.f1.length c1], .int .u64 p] w fun e w' => e = .returned (.bool true) ∧ Below w.heap.size w w' := by
  have hu := Try.underlying31
  have hut := Try.underlying43
  have hla := Kd.C_max hr0
  have hlb := Kd.C_max hr1
  obtain ⟨ka, hka⟩ := (longE_ev a hla).rounds
  obtain ⟨kb, hkb⟩ := (longE_ev b hlb).rounds
  obtain ⟨k1, hk1⟩ := (sameP_ev a b hla).rounds
  obtain ⟨k2, hk2⟩ := (same16_ev a b hla).rounds
  obtain ⟨k3, hk3⟩ := (sameP_ev b a hlb).rounds
  obtain ⟨k4, hk4⟩ := (sameP_ev a a hla).rounds
  obtain ⟨k5, hk5⟩ := (same16_ev ⟨⟨false, ByteArray.empty, ByteArray.empty, ⟨0, 0⟩⟩, ⟨0, []⟩⟩ ⟨⟨false, ByteArray.empty, ByteArray.empty, ⟨0, 0⟩⟩, ⟨0, []⟩⟩ (by simp)).rounds
  rw [sameE_refl] at hk4 hk5
  rw [sameE_symm] at hk3
  have HR0 := Aside0.mk hr0
  have HR1 := Aside0.mk hr1
  have HKA := Aside0.mk hka
  have HKB := Aside0.mk hkb
  have HK1 := Aside0.mk hk1
  have HK2 := Aside0.mk hk2
  have HK3 := Aside0.mk hk3
  have HK4 := Aside0.mk hk4
  have HK5 := Aside0.mk hk5
  clear hr0 hr1 hka hkb hk1 hk2 hk3 hk4 hk5 hla hlb
  go_enter Try.func4, Try.ntmps4
  go_wp2_with fail
  refine (paymasterlaw16_LongEntry.calls ka _ _ _ _ _ _ _ c0 _ _ _ ?s1 hc0 HKA.out).mono ?_
  case s1 => repeat (first | exact HR0.out | apply Kd.C_alloc)
  rintro e w1 ⟨rfl, hB⟩
  have hz0 : w1.heap[w.heap.size]? = some (.cells #[.bool a.f0.f0, .string a.f0.f1, .string a.f0.f2, .int .u64 a.f0.f3.f0, .int .u64 a.f0.f3.f1, .int .u64 a.f1.f0, .slice A0 a.f1.f1.length c0] 31 (0, 0)) := blk_below (blk_alloc (blk_new w _) _) hB
  have hz1 : w1.heap[w.heap.size + 1]? = some (.cells #[.bool b.f0.f0, .string b.f0.f1, .string b.f0.f2, .int .u64 b.f0.f3.f0, .int .u64 b.f0.f3.f1, .int .u64 b.f1.f0, .slice A1 b.f1.f1.length c1] 31 (0, 0)) := blk_below (by have := blk_new (w.alloc (.cells #[.bool a.f0.f0, .string a.f0.f1, .string a.f0.f2, .int .u64 a.f0.f3.f0, .int .u64 a.f0.f3.f1, .int .u64 a.f1.f0, .slice A0 a.f1.f1.length c0] 31)) (.cells #[.bool b.f0.f0, .string b.f0.f1, .string b.f0.f2, .int .u64 b.f0.f3.f0, .int .u64 b.f0.f3.f1, .int .u64 b.f1.f0, .slice A1 b.f1.f1.length c1] 31); simpa using this) hB
  have hB1 : Below w.heap.size w w1 := below_then (by repeat (first | exact Below.refl _ _ | apply below_alloc)) (by simp; omega) hB
  have HZ0 := Aside0.mk hz0
  have HZ1 := Aside0.mk hz1
  have HB1 := Aside0.mk hB1
  clear hz0 hz1 hB1 hB
  cases hla : longE a with
  | true =>
    go_wp2
    go_ret
    exact ⟨rfl, HB1.out⟩
  | false =>
  have e0 : w1.cell? ⟨w.heap.size + 1, 0, none⟩ = some (.bool b.f0.f0) := blk_cell HZ1.out 0
  have e1 : w1.cell? ⟨w.heap.size + 1, 1, none⟩ = some (.string b.f0.f1) := blk_cell HZ1.out 1
  have e2 : w1.cell? ⟨w.heap.size + 1, 2, none⟩ = some (.string b.f0.f2) := blk_cell HZ1.out 2
  have e3 : w1.cell? ⟨w.heap.size + 1, 3, none⟩ = some (.int .u64 b.f0.f3.f0) := blk_cell HZ1.out 3
  have e4 : w1.cell? ⟨w.heap.size + 1, 4, none⟩ = some (.int .u64 b.f0.f3.f1) := blk_cell HZ1.out 4
  have e5 : w1.cell? ⟨w.heap.size + 1, 5, none⟩ = some (.int .u64 b.f1.f0) := blk_cell HZ1.out 5
  have e6 : w1.cell? ⟨w.heap.size + 1, 6, none⟩ = some (.slice A1 b.f1.f1.length c1) := blk_cell HZ1.out 6
  clear hla
  go_wp2_with fail
  refine (paymasterlaw16_LongEntry.calls kb _ _ _ _ _ _ _ c1 _ _ _ (Kd.C_below HR1.out HB1.out) hc1 HKB.out).mono ?_
  rintro e w2 ⟨rfl, hB⟩
  clear e0 e1 e2 e3 e4 e5 e6
  have HZ0 := Aside0.mk (blk_below HZ0.out hB)
  have HZ1 := Aside0.mk (blk_below HZ1.out hB)
  have HB2 := Aside0.mk (HB1.out.trans (hB.mono HB1.out.size))
  clear HB1 hB
  cases hlb : longE b with
  | true =>
    go_wp2
    go_ret
    exact ⟨rfl, HB2.out⟩
  | false =>
  clear hlb
  go_wp2_with fail
  refine (proofOf_nil.calls p _).mono ?_
  rintro e w3 ⟨rfl, hB⟩
  have HZ0 := Aside0.mk (blk_below HZ0.out hB)
  have HZ1 := Aside0.mk (blk_below HZ1.out hB)
  have HB3 := Aside0.mk (HB2.out.trans (hB.mono HB2.out.size))
  clear HB2 hB
  go_wp2_with fail
  refine (proofOf_bare.calls _ p _ ?s2).mono ?_
  case s2 => go_simp
  rintro e w4 ⟨rfl, hB⟩
  have hlt : w3.heap.size < w4.heap.size := by have := hB.size; simp at this; omega
  have hne : w3.heap.size ≠ w4.heap.size := Nat.ne_of_lt hlt
  have hz2 : w4.heap[w3.heap.size]? = some (.cells #[.bool false, .string ByteArray.empty, .string ByteArray.empty, .int .u64 0, .int .u64 0, .int .u64 0, .slice none 0 0] 31 (0, 0)) := blk_below (blk_alloc (blk_new w3 _) _) hB
  have HZ0 := Aside0.mk (blk_below (blk_alloc (blk_alloc HZ0.out _) _) hB)
  have HZ1 := Aside0.mk (blk_below (blk_alloc (blk_alloc HZ1.out _) _) hB)
  have HB4 := Aside0.mk (show Below w.heap.size w w4 from (below_alloc (below_alloc HB3.out _) _).trans (hB.mono (by have := HB3.out.size; simp; omega)))
  have HZ2 := Aside0.mk hz2
  have g0 : w4.cell? ⟨w3.heap.size, 0, none⟩ = some (.bool false) := blk_cell hz2 0
  have g1 : w4.cell? ⟨w3.heap.size, 1, none⟩ = some (.string ByteArray.empty) := blk_cell hz2 1
  have g2 : w4.cell? ⟨w3.heap.size, 2, none⟩ = some (.string ByteArray.empty) := blk_cell hz2 2
  have g3 : w4.cell? ⟨w3.heap.size, 3, none⟩ = some (.int .u64 0) := blk_cell hz2 3
  have g4 : w4.cell? ⟨w3.heap.size, 4, none⟩ = some (.int .u64 0) := blk_cell hz2 4
  have g5 : w4.cell? ⟨w3.heap.size, 5, none⟩ = some (.int .u64 0) := blk_cell hz2 5
  have g6 : w4.cell? ⟨w3.heap.size, 6, none⟩ = some (.slice none 0 0) := blk_cell hz2 6
  clear hB hz2
  go_wp2_with fail
  refine (paymasterref16_Same.calls k5 _ _ _ _ _ _ none 0 [] _ _ _ _ _ _ none 0 [] _ _ (Kd.C_nil kNode _) (Nat.le_refl _) (Kd.C_nil kNode _) (Nat.le_refl _) HK5.out).mono ?_
  rintro e w5 ⟨rfl, hB⟩
  have hlt2 : w4.heap.size < w5.heap.size := by have := hB.size; simp at this; omega
  have hne2 : w4.heap.size ≠ w5.heap.size := Nat.ne_of_lt hlt2
  have HZ0 := Aside0.mk (blk_below (blk_alloc HZ0.out _) hB)
  have HZ1 := Aside0.mk (blk_below (blk_alloc HZ1.out _) hB)
  have HB5 := Aside0.mk (show Below w.heap.size w w5 from (below_alloc HB4.out _).trans (hB.mono (by have := HB4.out.size; simp; omega)))
  have hz3 : w5.heap[w4.heap.size]? = some (.cells #[.bool false, .string ByteArray.empty, .string ByteArray.empty, .int .u64 0, .int .u64 0, .int .u64 0, .slice none 0 0] 31 (0, 0)) := blk_below (blk_new w4 _) hB
  clear g0 g1 g2 g3 g4 g5 g6 hlt hne
  have g0 : w5.cell? ⟨w4.heap.size, 0, none⟩ = some (.bool false) := blk_cell hz3 0
  have g1 : w5.cell? ⟨w4.heap.size, 1, none⟩ = some (.string ByteArray.empty) := blk_cell hz3 1
  have g2 : w5.cell? ⟨w4.heap.size, 2, none⟩ = some (.string ByteArray.empty) := blk_cell hz3 2
  have g3 : w5.cell? ⟨w4.heap.size, 3, none⟩ = some (.int .u64 0) := blk_cell hz3 3
  have g4 : w5.cell? ⟨w4.heap.size, 4, none⟩ = some (.int .u64 0) := blk_cell hz3 4
  have g5 : w5.cell? ⟨w4.heap.size, 5, none⟩ = some (.int .u64 0) := blk_cell hz3 5
  have g6 : w5.cell? ⟨w4.heap.size, 6, none⟩ = some (.slice none 0 0) := blk_cell hz3 6
  clear hB hz3
  go_wp2_with fail
  refine (paymasterref16_Same.calls k5 _ _ _ _ _ _ none 0 [] _ _ _ _ _ _ none 0 [] _ _ (Kd.C_nil kNode _) (Nat.le_refl _) (Kd.C_nil kNode _) (Nat.le_refl _) HK5.out).mono ?_
  rintro e w6 ⟨rfl, hB⟩
  have HZ0 := Aside0.mk (blk_below HZ0.out hB)
  have HZ1 := Aside0.mk (blk_below HZ1.out hB)
  have HB6 := Aside0.mk (HB5.out.trans (hB.mono HB5.out.size))
  clear hB g0 g1 g2 g3 g4 g5 g6 hlt2 hne2 HB5 HB4 HB3
  go_wp2_with fail
  refine (proofAll_nil.calls _).mono ?_
  rintro e w7 ⟨rfl, rfl⟩
  go_wp2_with fail
  have hS : AtS w w6 a b A0 A1 c0 c1 := ⟨HB6.out, HZ0.out, HZ1.out⟩
  have HS := Aside0.mk hS
  clear HZ0 HZ1 hS
  go_region_held3 (fun w' => (w'.cell? ⟨w.heap.size, 0, none⟩ = some (.bool a.f0.f0) ∧ w'.cell? ⟨w.heap.size, 1, none⟩ = some (.string a.f0.f1) ∧ w'.cell? ⟨w.heap.size, 2, none⟩ = some (.string a.f0.f2) ∧ w'.cell? ⟨w.heap.size, 3, none⟩ = some (.int .u64 a.f0.f3.f0) ∧ w'.cell? ⟨w.heap.size, 4, none⟩ = some (.int .u64 a.f0.f3.f1) ∧ w'.cell? ⟨w.heap.size, 5, none⟩ = some (.int .u64 a.f1.f0) ∧ w'.cell? ⟨w.heap.size, 6, none⟩ = some (.slice A0 a.f1.f1.length c0) ∧ w'.cell? ⟨w.heap.size + 1, 0, none⟩ = some (.bool b.f0.f0) ∧ w'.cell? ⟨w.heap.size + 1, 1, none⟩ = some (.string b.f0.f1) ∧ w'.cell? ⟨w.heap.size + 1, 2, none⟩ = some (.string b.f0.f2) ∧ w'.cell? ⟨w.heap.size + 1, 3, none⟩ = some (.int .u64 b.f0.f3.f0) ∧ w'.cell? ⟨w.heap.size + 1, 4, none⟩ = some (.int .u64 b.f0.f3.f1) ∧ w'.cell? ⟨w.heap.size + 1, 5, none⟩ = some (.int .u64 b.f1.f0) ∧ w'.cell? ⟨w.heap.size + 1, 6, none⟩ = some (.slice A1 b.f1.f1.length c1)) ∧ AtS w w' a b A0 A1 c0 c1) (first | exact HS.out.drew.cells | exact (AtS.keep (by assumption) (AtS.of (by assumption))).cells) (first | (go_at_call 12; (with_reducible refine (proof_Same.calls k1 a.f0.f0 a.f0.f1 a.f0.f2 a.f0.f3.f0 a.f0.f3.f1 a.f1.f0 A0 c0 a.f1.f1 b.f0.f0 b.f0.f1 b.f0.f2 b.f0.f3.f0 b.f0.f3.f1 b.f1.f0 A1 c1 b.f1.f1 _ _ ?g1 hc0 ?g2 hc1 HK1.out).mono ?_); (case g1 => exact Kd.C_below HR0.out (AtS.of (by assumption)).below); (case g2 => exact Kd.C_below HR1.out (AtS.of (by assumption)).below); rintro e w' ⟨rfl, hb⟩) | (go_at_call 10; (with_reducible refine (paymasterref16_Same.calls k2 a.f0.f0 a.f0.f1 a.f0.f2 a.f0.f3.f0 a.f0.f3.f1 a.f1.f0 A0 c0 a.f1.f1 b.f0.f0 b.f0.f1 b.f0.f2 b.f0.f3.f0 b.f0.f3.f1 b.f1.f0 A1 c1 b.f1.f1 _ _ ?g1 hc0 ?g2 hc1 HK2.out).mono ?_); (case g1 => exact Kd.C_below HR0.out (AtS.of (by assumption)).below); (case g2 => exact Kd.C_below HR1.out (AtS.of (by assumption)).below); rintro e w' ⟨rfl, hb⟩) | (go_at_call 12; (with_reducible refine (proof_Same.calls k3 b.f0.f0 b.f0.f1 b.f0.f2 b.f0.f3.f0 b.f0.f3.f1 b.f1.f0 A1 c1 b.f1.f1 a.f0.f0 a.f0.f1 a.f0.f2 a.f0.f3.f0 a.f0.f3.f1 a.f1.f0 A0 c0 a.f1.f1 _ _ ?g1 hc1 ?g2 hc0 HK3.out).mono ?_); (case g1 => exact Kd.C_below HR1.out (AtS.of (by assumption)).below); (case g2 => exact Kd.C_below HR0.out (AtS.of (by assumption)).below); rintro e w' ⟨rfl, hb⟩) | (go_at_call 12; (with_reducible refine (proof_Same.calls k4 a.f0.f0 a.f0.f1 a.f0.f2 a.f0.f3.f0 a.f0.f3.f1 a.f1.f0 A0 c0 a.f1.f1 a.f0.f0 a.f0.f1 a.f0.f2 a.f0.f3.f0 a.f0.f3.f1 a.f1.f0 A0 c0 a.f1.f1 _ _ ?g1 hc0 ?g2 hc0 HK4.out).mono ?_); (case g1 => exact Kd.C_below HR0.out (AtS.of (by assumption)).below); (case g2 => exact Kd.C_below HR0.out (AtS.of (by assumption)).below); rintro e w' ⟨rfl, hb⟩))
  all_goals
    go_wp2
    go_ret
    exact ⟨rfl, (AtS.of (by assumption)).below⟩
def paymasterlaw16_ProofSame.f (a0_0 : Bool) (a0_1 a0_2 : ByteArray) (a0_3 a0_4 a0_5 : Int) (l0_6 : List SNode) (a1_0 : Bool) (a1_1 a1_2 : ByteArray) (a1_3 a1_4 a1_5 : Int) (l1_6 : List SNode) (a2 : Int) : Option Bool := some true
theorem paymasterlaw16_ProofSame.calls (a0_0 : Bool) (a0_1 a0_2 : ByteArray) (a0_3 a0_4 a0_5 : Int) (A0_6 : Option Addr) (c0_6 : Nat) (l0_6 : List SNode) (a1_0 : Bool) (a1_1 a1_2 : ByteArray) (a1_3 a1_4 a1_5 : Int) (A1_6 : Option Addr) (c1_6 : Nat) (l1_6 : List SNode) (a2 : Int) (r : Bool) (w : World)
    (hr0_6 : Kd.C kNode w A0_6 l0_6.length l0_6) (hc0_6 : l0_6.length ≤ c0_6) (hr1_6 : Kd.C kNode w A1_6 l1_6.length l1_6) (hc1_6 : l1_6.length ≤ c1_6) (h : paymasterlaw16_ProofSame.f a0_0 a0_1 a0_2 a0_3 a0_4 a0_5 l0_6 a1_0 a1_1 a1_2 a1_3 a1_4 a1_5 l1_6 a2 = some r) :
    Calls Try.prog 4 #[.agg #[.bool a0_0, .string a0_1, .string a0_2, .int .u64 a0_3, .int .u64 a0_4, .int .u64 a0_5, .slice A0_6 l0_6.length c0_6], .agg #[.bool a1_0, .string a1_1, .string a1_2, .int .u64 a1_3, .int .u64 a1_4, .int .u64 a1_5, .slice A1_6 l1_6.length c1_6], .int .u64 a2] w fun e w' => e = .returned (.bool r) ∧ Below w.heap.size w w' := by
  cases h
  exact lawsame.calls ⟨⟨a0_0, a0_1, a0_2, ⟨a0_3, a0_4⟩⟩, ⟨a0_5, l0_6⟩⟩ ⟨⟨a1_0, a1_1, a1_2, ⟨a1_3, a1_4⟩⟩, ⟨a1_5, l1_6⟩⟩ a2 _ _ _ _ w hr0_6 hc0_6 hr1_6 hc1_6

end Go.Proofs.Ytcidfahoajmcmaa.P
