-- Hand-written contracts of this workplace, filled for this seat by a program.
import Derived.Test.YtlmmpncdemblbaaDoorPx0
import Derived.Laws.Externs
namespace Go.Proofs.YtlmmpncdemblbaaDoor.P
open Go.RowKit Go.Proofs.YtlmmpncdemblbaaDoorW.PrintWords Go.Proofs.YtlmmpncdemblbaaDoorW.PrintLast Go.Proofs.YtlmmpncdemblbaaDoorW.PrintMore
set_option linter.unusedVariables false
set_option linter.unusedSimpArgs false
set_option linter.unnecessarySimpa false

/-! Layer 1: the sum, the bytes. -/
theorem add64_runs (x y c : Int) (hx : 0 ≤ x) (hy : 0 ≤ y) (hc0 : 0 ≤ c) (hc : c ≤ 1) (w : World) : (callFunc 73 #[.int .u64 x, .int .u64 y, .int .u64 c]).run Tryd.prog w =
    .ok (.value (.tuple #[.int .u64 ((x + y + c) % 18446744073709551616), .int .u64 ((x + y + c) / 18446744073709551616)])) w := by
  rw [run_callFunc_extern Tryd.func73 (by kernel_rfl) (by kernel_rfl) (by kernel_rfl) (e := add64Entry) (by kernel_rfl), run_add64 x y c hx hy hc0 hc]
  rfl
/-- The sum of two numbers, each of two halves; 10: there is no room. -/
def u128_Add.f (a0_0 a0_1 a1_0 a1_1 : Int) : Option (Int × Int × Int) :=
  if ((0 ≤ a0_0 ∧ a0_0 < 18446744073709551616) ∧ (0 ≤ a0_1 ∧ a0_1 < 18446744073709551616)) ∧ ((0 ≤ a1_0 ∧ a1_0 < 18446744073709551616) ∧ (0 ≤ a1_1 ∧ a1_1 < 18446744073709551616)) then
    (if a0_0 + a1_0 + (a0_1 + a1_1) / 18446744073709551616 < 18446744073709551616 then some (a0_0 + a1_0 + (a0_1 + a1_1) / 18446744073709551616, (a0_1 + a1_1) % 18446744073709551616, 0) else some (0, 0, 10))
  else none
set_option maxRecDepth 100000 in
theorem u128_Add.calls (a0_0 : Int) (a0_1 : Int) (a1_0 : Int) (a1_1 : Int) (r1 : Int) (r2 : Int) (r3 : Int) (w : World) (h : u128_Add.f a0_0 a0_1 a1_0 a1_1 = some (r1, r2, r3)) :
    Calls Tryd.prog 42 #[.agg #[.int .u64 a0_0, .int .u64 a0_1], .agg #[.int .u64 a1_0, .int .u64 a1_1]] w fun e w' => e = .returned (.tuple #[.agg #[.int .u64 r1, .int .u64 r2], .int .i64 r3]) ∧ Below w.heap.size w w' := by
  have hu := Tryd.underlying24
  unfold u128_Add.f at h
  split at h
  · rename_i hb
    obtain ⟨⟨⟨h00, h01⟩, h02, h03⟩, ⟨h10, h11⟩, h12, h13⟩ := hb
    have ha := add64_runs a0_1 a1_1 0 h02 h12 (by omega) (by omega)
    have hc := add64_runs a0_0 a1_0 ((a0_1 + a1_1) / 18446744073709551616) h00 h10 (by omega) (by omega)
    rw [Int.add_zero] at ha
    split at h
    · rename_i hs
      simp only [Option.some.injEq, Prod.mk.injEq] at h
      obtain ⟨rfl, rfl, rfl⟩ := h
      have e1 : (a0_0 + a1_0 + (a0_1 + a1_1) / 18446744073709551616) / 18446744073709551616 = 0 := by omega
      have e2 : (a0_0 + a1_0 + (a0_1 + a1_1) / 18446744073709551616) % 18446744073709551616 = a0_0 + a1_0 + (a0_1 + a1_1) / 18446744073709551616 := by omega
      have E2 := Aside0.mk e2
      have hc2 : ∀ w : World, (callFunc 73 #[.int .u64 a0_0, .int .u64 a1_0, .int .u64 ((a0_1 + a1_1) / 18446744073709551616)]).run Tryd.prog w = .ok (.value (.tuple #[.int .u64 (a0_0 + a1_0 + (a0_1 + a1_1) / 18446744073709551616), .int .u64 0])) w := by
        intro w; rw [hc w, e1, e2]
      clear hc e1 e2 h00 h01 h02 h03 h10 h11 h12 h13 hs
      go_enter Tryd.func42, Tryd.ntmps42
      go_wp2_with fail
      refine bodyPost_ret (v := .tuple #[.agg #[.int .u64 (a0_0 + a1_0 + (a0_1 + a1_1) / 18446744073709551616), .int .u64 ((a0_1 + a1_1) % 18446744073709551616)], .int .i64 0]) ?_ rfl ⟨rfl, ?_⟩
      · simp [results, Tryd.results42, go_sem, hu]
      · repeat (with_reducible first | exact Below.refl _ _ | apply below_alloc | refine below_set ?_ (Nat.le_refl _))
    · rename_i hs
      simp only [Option.some.injEq, Prod.mk.injEq] at h
      obtain ⟨rfl, rfl, rfl⟩ := h
      have e1 : (a0_0 + a1_0 + (a0_1 + a1_1) / 18446744073709551616) / 18446744073709551616 = 1 := by omega
      have hc2 : ∀ w : World, (callFunc 73 #[.int .u64 a0_0, .int .u64 a1_0, .int .u64 ((a0_1 + a1_1) / 18446744073709551616)]).run Tryd.prog w = .ok (.value (.tuple #[.int .u64 ((a0_0 + a1_0 + (a0_1 + a1_1) / 18446744073709551616) % 18446744073709551616), .int .u64 1])) w := by
        intro w; rw [hc w, e1]
      clear hc e1 h00 h01 h02 h03 h10 h11 h12 h13 hs
      go_enter Tryd.func42, Tryd.ntmps42
      go_wp2_with fail
      refine bodyPost_ret (v := .tuple #[.agg #[.int .u64 0, .int .u64 0], .int .i64 10]) ?_ rfl ⟨rfl, ?_⟩
      · simp [results, Tryd.results42, go_sem, hu]
      · repeat (with_reducible first | exact Below.refl _ _ | apply below_alloc | refine below_set ?_ (Nat.le_refl _))
  · cases h
/-- A byte of a half, the greatest first. -/
def halfB (x : Int) (i : Nat) : Int := x / 2 ^ (56 - 8 * i) % 256
def u128B (hi lo : Int) : ByteArray := strOfNums ((List.range 8).map (halfB hi) ++ (List.range 8).map (halfB lo))
def rowB (hi lo : Int) (k : Nat) : Array Value :=
  #[.int .u8 (if 0 < k then halfB hi 0 else 0), .int .u8 (if 1 < k then halfB hi 1 else 0), .int .u8 (if 2 < k then halfB hi 2 else 0), .int .u8 (if 3 < k then halfB hi 3 else 0), .int .u8 (if 4 < k then halfB hi 4 else 0), .int .u8 (if 5 < k then halfB hi 5 else 0), .int .u8 (if 6 < k then halfB hi 6 else 0), .int .u8 (if 7 < k then halfB hi 7 else 0),
    .int .u8 (if 0 < k then halfB lo 0 else 0), .int .u8 (if 1 < k then halfB lo 1 else 0), .int .u8 (if 2 < k then halfB lo 2 else 0), .int .u8 (if 3 < k then halfB lo 3 else 0), .int .u8 (if 4 < k then halfB lo 4 else 0), .int .u8 (if 5 < k then halfB lo 5 else 0), .int .u8 (if 6 < k then halfB lo 6 else 0), .int .u8 (if 7 < k then halfB lo 7 else 0)]
theorem rowB_step (hi lo : Int) (k : Nat) (h : k < 8) : ((rowB hi lo k).setIfInBounds k (.int .u8 (halfB hi k))).setIfInBounds (k + 8) (.int .u8 (halfB lo k)) = rowB hi lo (k + 1) := by
  have : k = 0 ∨ k = 1 ∨ k = 2 ∨ k = 3 ∨ k = 4 ∨ k = 5 ∨ k = 6 ∨ k = 7 := by omega
  rcases this with h | h | h | h | h | h | h | h <;> subst h <;> rfl
def u128_Bytes.f (a0_0 a0_1 : Int) : Option ByteArray := some (u128B a0_0 a0_1)
set_option maxRecDepth 100000 in
set_option maxHeartbeats 2000000 in
theorem u128Bytes.calls (hi lo : Int) (w : World) :
    Calls Tryd.prog 76 #[.agg #[.int .u64 hi, .int .u64 lo]] w fun e w' => e = .returned (.string (u128B hi lo)) ∧ Below w.heap.size w w' := by
  have hu := Tryd.underlying24
  have hu2 := Tryd.underlying145
  go_enter Tryd.func76, Tryd.ntmps76
  go_wp2_with fail
  go_loopw [5] (fun v wr => ∃ k : Nat, v = .int .i64 k ∧ k ≤ 8 ∧ Aside0 (wr.heap[w.heap.size + 1]? = some (.cells (rowB hi lo k) 145 (0, 0))) ∧ Aside0 (wr.heap[w.heap.size]? = some (.cells #[.int .u64 hi, .int .u64 lo] 24 (0, 0))) ∧ Aside0 (Below w.heap.size w wr)) (fun v _ => 8 - (intOf v).toNat)
  case atStart =>
    refine ⟨0, rfl, by omega, ⟨?_⟩, ⟨?_⟩, ⟨?_⟩⟩
    · have := blk_new (w.alloc (.cells #[.int .u64 hi, .int .u64 lo] 24)) (.cells (rowB hi lo 0) 145)
      rw [show (w.alloc (.cells #[.int .u64 hi, .int .u64 lo] 24)).heap.size = w.heap.size + 1 by simp] at this
      exact this
    · exact blk_alloc (blk_new w _) _
    · repeat (first | exact Below.refl _ _ | apply below_alloc)
  case round =>
    obtain ⟨k, rfl, hk, HO, HX, HB⟩ := hrel
    by_cases hlt : k < 8
    · have b1 : decide ((k : Int) < 8) = true := decide_eq_true (by omega)
      have c0 : wr.cell? ⟨w.heap.size, 0, none⟩ = some (.int .u64 hi) := blk_cell HX.out 0
      have c1 : wr.cell? ⟨w.heap.size, 1, none⟩ = some (.int .u64 lo) := blk_cell HX.out 1
      have hf : ∀ i, wr.frozen? ⟨w.heap.size + 1, i, none⟩ = false := fun i => blk_frozen HO.out i
      have p0 : (0 : Int) ≤ (k : Int) := by omega
      have p1 : (k : Int) < 16 := by omega
      have p2 : (k : Int) + 8 < 16 := by omega
      have p3 : (0 : Int) ≤ 56 - 8 * (k : Int) := by omega
      obtain ⟨v0, hv0⟩ : ∃ v, wr.cell? ⟨w.heap.size + 1, k, none⟩ = some v := by
        rw [blk_cell HO.out k, Array.getElem?_eq_getElem (by show k < 16; omega)]; exact ⟨_, rfl⟩
      obtain ⟨v1, hv1⟩ : ∃ v, wr.cell? ⟨w.heap.size + 1, k + 8, none⟩ = some v := by
        rw [blk_cell HO.out (k + 8), Array.getElem?_eq_getElem (by show k + 8 < 16; omega)]; exact ⟨_, rfl⟩
      have h8 := Aside0.mk (rowB_step hi lo k hlt)
      go_wp2_with fail
      clear hv0 hv1 hf c0 c1 b1 p0 p1 p2 p3
      go_roundw
      case rel =>
        refine ⟨k + 1, by go_num, by omega, ⟨?_⟩, ⟨?_⟩, ⟨?_⟩⟩
        · rw [← h8.out]
          exact blk_set (blk_set HO.out k _) (k + 8) _
        · exact blk_far (blk_far HX.out (show w.heap.size ≠ w.heap.size + 1 by omega) _) (show w.heap.size ≠ w.heap.size + 1 by omega) _
        · exact below_set (below_set HB.out (Nat.le_add_right _ _)) (Nat.le_add_right _ _)
      case measure => simp [intOf]; omega
    · have b1 : decide ((k : Int) < 8) = false := decide_eq_false (by omega)
      obtain rfl : k = 8 := by omega
      have hcv := run_convert_bytes_arg wr 56 5 Tryd.underlying56 Tryd.underlying5 (w.heap.size + 1) 0 16 16 ((List.range 8).map (halfB hi) ++ (List.range 8).map (halfB lo)) (by simp) (fun i hi16 => by
        rw [Nat.zero_add, blk_cell HO.out i]
        have : i = 0 ∨ i = 1 ∨ i = 2 ∨ i = 3 ∨ i = 4 ∨ i = 5 ∨ i = 6 ∨ i = 7 ∨ i = 8 ∨ i = 9 ∨ i = 10 ∨ i = 11 ∨ i = 12 ∨ i = 13 ∨ i = 14 ∨ i = 15 := by omega
        rcases this with h | h | h | h | h | h | h | h | h | h | h | h | h | h | h | h <;> subst h <;> rfl) 9 Tryd.underlying9
      go_wp2_with fail
      go_ret
      exact ⟨rfl, HB.out⟩
theorem u128_Bytes.calls (a0_0 : Int) (a0_1 : Int) (r : ByteArray) (w : World) (h : u128_Bytes.f a0_0 a0_1 = some r) :
    Calls Tryd.prog 76 #[.agg #[.int .u64 a0_0, .int .u64 a0_1]] w fun e w' => e = .returned (.string r) ∧ Below w.heap.size w w' := by
  cases h
  exact u128Bytes.calls a0_0 a0_1 w

end Go.Proofs.YtlmmpncdemblbaaDoor.P
