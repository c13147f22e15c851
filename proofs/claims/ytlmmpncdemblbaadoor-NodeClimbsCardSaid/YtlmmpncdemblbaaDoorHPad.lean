-- Hand-written contracts of this workplace, filled for this seat by a program.
import Derived.Test.YtlmmpncdemblbaaDoorPx0
import Derived.Test.YtlmmpncdemblbaaDoorHBuilder
import Derived.Test.YtlmmpncdemblbaaDoorHNext
import Derived.Laws.BytesArg
namespace Go.Proofs.YtlmmpncdemblbaaDoor.P
open Go.RowKit Go.Proofs.YtlmmpncdemblbaaDoorW.PrintWords Go.Proofs.YtlmmpncdemblbaaDoorW.PrintLast Go.Proofs.YtlmmpncdemblbaaDoorW.PrintMore
set_option linter.unusedVariables false
set_option linter.unusedSimpArgs false
set_option linter.unnecessarySimpa false

/-- How many noughts stand in the padding of a length. -/
def padZ (n : Int) : Nat := ((119 - n) % 64).toNat
/-- A byte of the padding's end. -/
def padB (n : Int) (i : Nat) : Int := IntKind.u64.wrap (n * 8) / 2 ^ (56 - 8 * i) % 256
/-- The padding's bytes: the first k of the end. -/
def padL (n : Int) (k : Nat) : List UInt8 := 128 :: (List.replicate (padZ n) 0 ++ (List.range k).map fun i => (padB n i).toNat.toUInt8)
theorem padL_step (n : Int) (k : Nat) : Lib.byteCells (padL n (k + 1)) = Lib.byteCells (padL n k) ++ [.int .u8 (padB n k)] := by
  have h0 : 0 ≤ padB n k := Int.emod_nonneg _ (by decide)
  have h1 : padB n k < 256 := Int.emod_lt_of_pos _ (by decide)
  simp only [padL, Lib.byteCells, List.range_succ, List.map_append, List.map_cons, List.map_nil, List.cons_append, List.append_assoc]
  congr 4
  have : ((padB n k).toNat.toUInt8.toNat : Int) = padB n k := by
    rw [Nat.toUInt8, UInt8.toNat_ofNat']
    omega
  rw [this]
def padI (n : Int) : ByteArray := ⟨(padL n 8).toArray⟩

set_option maxRecDepth 100000 in
set_option maxHeartbeats 4000000 in
theorem padding.calls (n : Int) (h0 : 0 ≤ n) (h1 : n < 18446744073709551616) (w : World) :
    Calls Tryd.prog 111 #[.int .u64 n] w fun e w' => e = .returned (.string (padI n)) ∧ Below w.heap.size w w' := by
  go_enter Tryd.func111, Tryd.ntmps111
  go_wp2_with fail
  refine (writeByte.calls w.heap.size w.heap.size [] 128 _ (Lib.fresh_isBuilder _ _ w) (by decide) (by simp)).mono ?_
  rintro e w1 ⟨rfl, hb1, hB1⟩
  have hBB : Below w.heap.size w w1 := Below.trans (below_alloc (Below.refl _ _) _) hB1
  have HB1 := Aside0.mk hb1
  have HBB := Aside0.mk hBB
  clear hb1 hB1 hBB
  go_wp2_with fail
  go_loopw [6] (fun v wr => ∃ k : Nat, (intOf v).toNat = k ∧ k ≤ padZ n ∧ Aside0 (Lib.IsBuilder 174 5 w.heap.size w.heap.size (Lib.byteCells (128 :: List.replicate k 0)) wr) ∧ Aside0 (Below w.heap.size w wr)) (fun v _ => padZ n + 1 - (intOf v).toNat)
  case atStart => exact ⟨0, rfl, by omega, HB1, HBB⟩
  case round =>
    obtain ⟨k, hv, hk, HB, HW⟩ := hrel
    have hzz : ((padZ n : Nat) : Int) = (119 - n) % 64 := by simp only [padZ]; omega
    have HV := Aside0.mk hv
    clear hv
    by_cases hlt : k < padZ n
    · have b1 : decide ((k : Int) + 1 < 1 + (119 - n) % 64) = true := decide_eq_true (by omega)
      have HZ := Aside0.mk hzz
      clear hzz
      go_wp2_with fail
      refine (Tryd.Builder_Len w.heap.size w.heap.size _ _ HB.out).mono ?_
      rintro e w2 ⟨rfl, rfl⟩
      have hl : (((Lib.byteCells (128 :: List.replicate k 0)).length : Nat) : Int) = (k : Int) + 1 := by simp [Lib.byteCells]
      rw [hl]
      clear hl
      go_wp2_with fail
      refine (writeByte.calls w.heap.size w.heap.size _ 0 _ HB.out (by simp [Lib.byteCells]; have := HZ.out; omega) HW.out.size).mono ?_
      rintro e w1 ⟨rfl, hb1, hB1⟩
      have HB2 := Aside0.mk hb1
      have HW2 := Aside0.mk (HW.out.trans hB1)
      clear hb1 hB1 b1
      go_wp2_with fail
      go_roundw
      case rel =>
        refine ⟨k + 1, by simp [intOf], hlt, ⟨?_⟩, HW2⟩
        have e2 : Lib.byteCells (128 :: List.replicate (k + 1) 0) = Lib.byteCells (128 :: List.replicate k 0) ++ [.int .u8 0] := by
          simp [Lib.byteCells, List.replicate_succ']
        rw [e2]
        exact HB2.out
      case measure => rw [HV.out]; simp [intOf]; omega
    · have b1 : decide ((k : Int) + 1 < 1 + (119 - n) % 64) = false := decide_eq_false (by omega)
      have HZ := Aside0.mk hzz
      clear hzz
      go_wp2_with fail
      refine (Tryd.Builder_Len w.heap.size w.heap.size _ _ HB.out).mono ?_
      rintro e w2 ⟨rfl, rfl⟩
      have hl : (((Lib.byteCells (128 :: List.replicate k 0)).length : Nat) : Int) = (k : Int) + 1 := by simp [Lib.byteCells]
      rw [hl]
      clear hl
      go_wp2_with fail
      obtain rfl : k = padZ n := by omega
      have e119 : (119 - n % 64) % 64 = (119 - n) % 64 := by omega
      rw [e119]
      clear e119
      go_loopw [4] (fun v wr => ∃ i : Nat, v = .int .i64 (56 - 8 * (i : Int)) ∧ i ≤ 8 ∧ Aside0 (Lib.IsBuilder 174 5 w.heap.size w.heap.size (Lib.byteCells (padL n i)) wr) ∧ Aside0 (Below w.heap.size w wr)) (fun v _ => (8 + intOf v).toNat)
      case atStart => exact ⟨0, rfl, by omega, ⟨by simpa [padL] using HB.out⟩, HW⟩
      case round =>
        obtain ⟨i, rfl, hi, HB3, HW3⟩ := hrel
        by_cases hlt2 : i < 8
        · have b2 : decide (0 ≤ 56 - 8 * (i : Int)) = true := decide_eq_true (by omega)
          have b3 : 0 ≤ 56 - 8 * (i : Int) := by omega
          clear b1
          go_wp2_with fail
          refine (writeByte.calls w.heap.size w.heap.size _ (padB n i) _ HB3.out (by simp [Lib.byteCells, padL]; have := HZ.out; omega) HW3.out.size).mono ?_
          rintro e w1 ⟨rfl, hb1, hB1⟩
          rw [← padL_step] at hb1
          have HB4 := Aside0.mk hb1
          have HW4 := Aside0.mk (HW3.out.trans hB1)
          have e8 : IntKind.i64.wrap (56 - 8 * (i : Int) - 8) = 56 - 8 * ((i + 1 : Nat) : Int) := by
            rw [IntWalk.i64_in _ (by omega)]; omega
          clear hb1 hB1 b2 b3
          go_wp2_with fail
          go_roundw
          case rel =>
            exact ⟨i + 1, by go_num, by omega, HB4, HW4⟩
          case measure => simp [intOf]; omega
        · have b2 : decide (0 ≤ 56 - 8 * (i : Int)) = false := decide_eq_false (by omega)
          clear b1
          go_wp2_with fail
          obtain rfl : i = 8 := by omega
          refine (Tryd.Builder_String_any w.heap.size w.heap.size _ _ HB3.out HW3.out.size).mono ?_
          rintro e w2 ⟨rfl, hB2⟩
          go_wp2
          go_ret
          exact ⟨rfl, HW3.out.trans hB2⟩

/-- A word's bytes. -/
def wordL (x : Int) : List Int := [x / 16777216 % 256, x / 65536 % 256, x / 256 % 256, x % 256]
/-- The bytes of the first k words. -/
def digL (s : S8) (k : Nat) : List Int := (List.range k).flatMap fun i => wordL (s.get i)
def digestI (s : S8) : ByteArray := strOfNums (digL s 8)
theorem digL_succ (s : S8) (k : Nat) : digL s (k + 1) = digL s k ++ wordL (s.get k) := by simp [digL, List.range_succ]
theorem digL_length (s : S8) (k : Nat) : (digL s k).length = 4 * k := by
  induction k with
  | zero => rfl
  | succ k ih => rw [digL_succ, List.length_append, ih]; simp [wordL]; omega

theorem nums_append (k : IntKind) (a b : List Int) : nums k (a ++ b) = nums k a ++ nums k b := by simp [nums]
set_option maxRecDepth 1000000 in
theorem state_index (s : S8) (k : Nat) (h : k < 8) (w : World) : (Instr.index 154 (.agg #[.int .u32 s.x0, .int .u32 s.x1, .int .u32 s.x2, .int .u32 s.x3, .int .u32 s.x4, .int .u32 s.x5, .int .u32 s.x6, .int .u32 s.x7]) (.int .i64 (k : Int))).run Tryd.prog w = .ok (.int .u32 (s.get k)) w := by
  have : k = 0 ∨ k = 1 ∨ k = 2 ∨ k = 3 ∨ k = 4 ∨ k = 5 ∨ k = 6 ∨ k = 7 := by omega
  rcases this with h | h | h | h | h | h | h | h <;> subst h <;> rfl
set_option maxRecDepth 100000 in
set_option maxHeartbeats 4000000 in
theorem digest.calls (s : S8) (w : World) :
    Calls Tryd.prog 112 #[stV s] w fun e w' => e = .returned (.string (digestI s)) ∧ Below w.heap.size w w' := by
  have hu := Tryd.underlying154
  obtain ⟨i0, hi, hz0, hz1, hz2⟩ := info_parts byteInfo
  go_enter Tryd.func112, Tryd.ntmps112
  go_wp2_with fail
  go_loopw [7, 3] (fun v u wr => ∃ k : Nat, v = .int .i64 k ∧ k ≤ 8 ∧ Aside0 (wr.ownsRow w.heap.size 5 1 u (4 * k) (nums .u8 (digL s k))) ∧ Aside0 (Below w.heap.size w wr)) (fun v _ _ => 8 - (intOf v).toNat)
  case atStart => exact ⟨0, rfl, by omega, ⟨⟨rfl, .inl ⟨rfl, rfl⟩⟩⟩, ⟨below_alloc (Below.refl _ _) _⟩⟩
  case round =>
    obtain ⟨k, rfl, hk, HO, HB⟩ := hrel
    by_cases hlt : k < 8
    · have b1 : decide ((k : Int) < 8) = true := decide_eq_true (by omega)
      have g1 : (k : Int) < 8 := by omega
      have hix := state_index s k hlt
      obtain ⟨x, hx⟩ : ∃ x, x = s.get k := ⟨_, rfl⟩
      rw [← hx] at hix
      have HX := Aside0.mk hx
      clear hx
      have hl0 := HO.out.1
      go_wp2_with (at_builtin; refine wpList_append_own _ rfl _ _ 56 rfl w.heap.size 5 i0 (.int .u8 0) 1 1 Tryd.underlying56 hi hz0 hz1 hz2 rfl (by decide) _ _ _ rfl (HO.out.alloc _) ⟨wr.heap.size, 0, none⟩ 4 4 (nums .u8 (wordL x)) rfl rfl ?c1 ?c2 ?c3 ?c4 ?c5 ?_)
      case c1 =>
        intro j u hj
        match j, hj with
        | 0, hj => simp [nums, wordL] at hj; subst hj; simp [Addr.add]
        | 1, hj => simp [nums, wordL] at hj; subst hj; simp [Addr.add]
        | 2, hj => simp [nums, wordL] at hj; subst hj; simp [Addr.add]
        | 3, hj => simp [nums, wordL] at hj; subst hj; simp [Addr.add]
      case c2 => intro u hu; simp [nums, wordL] at hu; rcases hu with hu | hu | hu | hu <;> subst hu <;> rfl
      case c3 => unfold maxLen; omega
      case c4 => omega
      case c5 => have := HB.out.size; simp; omega
      intro v' w2 hown' hgrow _
      have HO2 := Aside0.mk hown'
      have HB2 := Aside0.mk (((HB.out.alloc HB.out.size _)).grown hgrow (by have := HB.out.size; simp; omega) (fun k hk => (HO.out.lt k hk).1))
      clear hown' hgrow hix
      go_wp2_with fail
      go_roundw
      case rel =>
        refine ⟨k + 1, by go_num, by omega, ⟨?_⟩, HB2⟩
        rw [digL_succ, ← HX.out, nums_append]
        exact HO2.out
      case measure => simp [intOf]; omega
    · have b1 : decide ((k : Int) < 8) = false := decide_eq_false (by omega)
      obtain rfl : k = 8 := by omega
      have hown := HO.out
      obtain ⟨hl, h2⟩ := hown
      rcases h2 with ⟨_, h0⟩ | ⟨g, cap, cur, rfl, e2, e3, e4, e5, e6, e7⟩
      · omega
      have hcv := run_convert_bytes_arg wr 56 5 Tryd.underlying56 Tryd.underlying5 g 0 32 cap (digL s 8) (digL_length s 8) (fun i hi => by
        have h1 : (cur.toList.take (4 * 8 * 1))[i]? = some (.int .u8 ((digL s 8).getD i 0)) := by
          rw [e7]; simp [nums, digL_length, hi]
        rw [List.getElem?_take_of_lt (by omega)] at h1
        rw [Nat.zero_add, blk_cell e3 i]
        simpa using h1) 9 Tryd.underlying9
      have HB2 := HB
      clear HO e3 e7 HB
      go_wp2_with fail
      go_ret
      exact ⟨rfl, HB2.out⟩

end Go.Proofs.YtlmmpncdemblbaaDoor.P
