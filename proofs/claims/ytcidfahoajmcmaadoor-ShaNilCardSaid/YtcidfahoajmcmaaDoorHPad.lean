-- Hand-written contracts of this workplace, filled for this seat by a program.
import Derived.Test.YtcidfahoajmcmaaDoorPx0
import Derived.Test.YtcidfahoajmcmaaDoorHBuilder
namespace Go.Proofs.YtcidfahoajmcmaaDoor.P
open Go.RowKit Go.Proofs.YtcidfahoajmcmaaDoorW.PrintWords Go.Proofs.YtcidfahoajmcmaaDoorW.PrintLast Go.Proofs.YtcidfahoajmcmaaDoorW.PrintMore
set_option linter.unusedVariables false
set_option linter.unusedSimpArgs false
set_option linter.unnecessarySimpa false

/-- How many noughts stand in the padding of a length. -/
def padZ (n : Int) : Nat := ((119 - n) % 64).toNat
/-- A byte of the padding's end. -/
def padB (n : Int) (i : Nat) : Int := IntKind.u64.wrap (n * 8) / 2 ^ (56 - 8 * i) % 256
/-- The padding's bytes: the first k of the end. -/
def padL (n : Int) (k : Nat) : List UInt8 := 128 :: (List.replicate (padZ n) 0 ++ (List.range k).map fun i => (padB n i).toNat.toUInt8)
theorem padL_step (n : Int) (k : Nat) : Lib.byteCells (padL n (k + 1)) = Lib.byteCells (padL n k) ++ [.int .u8 (padB n k)] := by
  have h0 : 0 ≤ padB n k := Int.emod_nonneg _ (by decide)
  have h1 : padB n k < 256 := Int.emod_lt_of_pos _ (by decide)
  simp only [padL, Lib.byteCells, List.range_succ, List.map_append, List.map_cons, List.map_nil, List.cons_append, List.append_assoc]
  congr 4
  have : ((padB n k).toNat.toUInt8.toNat : Int) = padB n k := by
    rw [Nat.toUInt8, UInt8.toNat_ofNat']
    omega
  rw [this]
def padI (n : Int) : ByteArray := ⟨(padL n 8).toArray⟩

set_option maxRecDepth 100000 in
set_option maxHeartbeats 4000000 in
theorem padding.calls (n : Int) (h0 : 0 ≤ n) (h1 : n < 18446744073709551616) (w : World) :
    Calls Tryd.prog 18 #[.int .u64 n] w fun e w' => e = .returned (.string (padI n)) ∧ Below w.heap.size w w' := by
  go_enter Tryd.func18, Tryd.ntmps18
  go_wp2_with fail
  refine (writeByte.calls w.heap.size w.heap.size [] 128 _ (Lib.fresh_isBuilder _ _ w) (by decide) (by simp)).mono ?_
  rintro e w1 ⟨rfl, hb1, hB1⟩
  have hBB : Below w.heap.size w w1 := Below.trans (below_alloc (Below.refl _ _) _) hB1
  have HB1 := Aside0.mk hb1
  have HBB := Aside0.mk hBB
  clear hb1 hB1 hBB
  go_wp2_with fail
  go_loopw [6] (fun v wr => ∃ k : Nat, (intOf v).toNat = k ∧ k ≤ padZ n ∧ Aside0 (Lib.IsBuilder 77 5 w.heap.size w.heap.size (Lib.byteCells (128 :: List.replicate k 0)) wr) ∧ Aside0 (Below w.heap.size w wr)) (fun v _ => padZ n + 1 - (intOf v).toNat)
  case atStart => exact ⟨0, rfl, by omega, HB1, HBB⟩
  case round =>
    obtain ⟨k, hv, hk, HB, HW⟩ := hrel
    have hzz : ((padZ n : Nat) : Int) = (119 - n) % 64 := by simp only [padZ]; omega
    have HV := Aside0.mk hv
    clear hv
    by_cases hlt : k < padZ n
    · have b1 : decide ((k : Int) + 1 < 1 + (119 - n) % 64) = true := decide_eq_true (by omega)
      have HZ := Aside0.mk hzz
      clear hzz
      go_wp2_with fail
      refine (Tryd.Builder_Len w.heap.size w.heap.size _ _ HB.out).mono ?_
      rintro e w2 ⟨rfl, rfl⟩
      have hl : (((Lib.byteCells (128 :: List.replicate k 0)).length : Nat) : Int) = (k : Int) + 1 := by simp [Lib.byteCells]
      rw [hl]
      clear hl
      go_wp2_with fail
      refine (writeByte.calls w.heap.size w.heap.size _ 0 _ HB.out (by simp [Lib.byteCells]; have := HZ.out; omega) HW.out.size).mono ?_
      rintro e w1 ⟨rfl, hb1, hB1⟩
      have HB2 := Aside0.mk hb1
      have HW2 := Aside0.mk (HW.out.trans hB1)
      clear hb1 hB1 b1
      go_wp2_with fail
      go_roundw
      case rel =>
        refine ⟨k + 1, by simp [intOf], hlt, ⟨?_⟩, HW2⟩
        have e2 : Lib.byteCells (128 :: List.replicate (k + 1) 0) = Lib.byteCells (128 :: List.replicate k 0) ++ [.int .u8 0] := by
          simp [Lib.byteCells, List.replicate_succ']
        rw [e2]
        exact HB2.out
      case measure => rw [HV.out]; simp [intOf]; omega
    · have b1 : decide ((k : Int) + 1 < 1 + (119 - n) % 64) = false := decide_eq_false (by omega)
      have HZ := Aside0.mk hzz
      clear hzz
      go_wp2_with fail
      refine (Tryd.Builder_Len w.heap.size w.heap.size _ _ HB.out).mono ?_
      rintro e w2 ⟨rfl, rfl⟩
      have hl : (((Lib.byteCells (128 :: List.replicate k 0)).length : Nat) : Int) = (k : Int) + 1 := by simp [Lib.byteCells]
      rw [hl]
      clear hl
      go_wp2_with fail
      obtain rfl : k = padZ n := by omega
      have e119 : (119 - n % 64) % 64 = (119 - n) % 64 := by omega
      rw [e119]
      clear e119
      go_loopw [4] (fun v wr => ∃ i : Nat, v = .int .i64 (56 - 8 * (i : Int)) ∧ i ≤ 8 ∧ Aside0 (Lib.IsBuilder 77 5 w.heap.size w.heap.size (Lib.byteCells (padL n i)) wr) ∧ Aside0 (Below w.heap.size w wr)) (fun v _ => (8 + intOf v).toNat)
      case atStart => exact ⟨0, rfl, by omega, ⟨by simpa [padL] using HB.out⟩, HW⟩
      case round =>
        obtain ⟨i, rfl, hi, HB3, HW3⟩ := hrel
        by_cases hlt2 : i < 8
        · have b2 : decide (0 ≤ 56 - 8 * (i : Int)) = true := decide_eq_true (by omega)
          have b3 : 0 ≤ 56 - 8 * (i : Int) := by omega
          clear b1
          go_wp2_with fail
          refine (writeByte.calls w.heap.size w.heap.size _ (padB n i) _ HB3.out (by simp [Lib.byteCells, padL]; have := HZ.out; omega) HW3.out.size).mono ?_
          rintro e w1 ⟨rfl, hb1, hB1⟩
          rw [← padL_step] at hb1
          have HB4 := Aside0.mk hb1
          have HW4 := Aside0.mk (HW3.out.trans hB1)
          have e8 : IntKind.i64.wrap (56 - 8 * (i : Int) - 8) = 56 - 8 * ((i + 1 : Nat) : Int) := by
            rw [IntWalk.i64_in _ (by omega)]; omega
          clear hb1 hB1 b2 b3
          go_wp2_with fail
          go_roundw
          case rel =>
            exact ⟨i + 1, by go_num, by omega, HB4, HW4⟩
          case measure => simp [intOf]; omega
        · have b2 : decide (0 ≤ 56 - 8 * (i : Int)) = false := decide_eq_false (by omega)
          clear b1
          go_wp2_with fail
          obtain rfl : i = 8 := by omega
          refine (Tryd.Builder_String_any w.heap.size w.heap.size _ _ HB3.out HW3.out.size).mono ?_
          rintro e w2 ⟨rfl, hB2⟩
          go_wp2
          go_ret
          exact ⟨rfl, HW3.out.trans hB2⟩

end Go.Proofs.YtcidfahoajmcmaaDoor.P
