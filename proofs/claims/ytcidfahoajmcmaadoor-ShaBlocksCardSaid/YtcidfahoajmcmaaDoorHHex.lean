-- Hand-written contracts of this workplace, filled for this seat by a program.
import Derived.Test.YtcidfahoajmcmaaDoorPx0
import Derived.Test.YtcidfahoajmcmaaDoorHBuilder
import Derived.Lib.ConvBytes
namespace Go.Proofs.YtcidfahoajmcmaaDoor.P
open Go.RowKit Go.Proofs.YtcidfahoajmcmaaDoorW.PrintWords Go.Proofs.YtcidfahoajmcmaaDoorW.PrintLast Go.Proofs.YtcidfahoajmcmaaDoorW.PrintMore
set_option linter.unusedVariables false
set_option linter.unusedSimpArgs false
set_option linter.unnecessarySimpa false

/-- A digit. -/
def digI (n : Nat) : UInt8 := if n < 10 then (48 + n).toUInt8 else (87 + n).toUInt8
def hexL (l : List UInt8) : List UInt8 := l.flatMap fun c => [digI (c.toNat / 16), digI (c.toNat % 16)]
def hexI (s : ByteArray) : ByteArray := ⟨(hexL s.data.toList).toArray⟩
theorem hexL_snoc (l : List UInt8) (c : UInt8) : hexL (l ++ [c]) = hexL l ++ [digI (c.toNat / 16), digI (c.toNat % 16)] := by simp [hexL]
theorem hexL_length (l : List UInt8) : (hexL l).length = 2 * l.length := by
  induction l with
  | nil => rfl
  | cons c l ih => simp only [hexL, List.flatMap_cons, List.length_append, List.length_cons, List.length_nil] at ih ⊢; omega
theorem and15 (x : UInt8) : Go.bits .and .u8 (x.toNat : Int) 15 = (x.toNat : Int) % 16 := by
  have h : ∀ n ∈ List.range 256, Go.bits .and .u8 (n : Int) 15 = (n : Int) % 16 := by decide +kernel
  exact h _ (List.mem_range.2 x.toNat_lt)
theorem digs_at (n : Nat) (h : n < 16) : (⟨#[48, 49, 50, 51, 52, 53, 54, 55, 56, 57, 97, 98, 99, 100, 101, 102]⟩ : ByteArray)[n]'h = digI n := by
  have : ∀ m : Fin 16, (⟨#[48, 49, 50, 51, 52, 53, 54, 55, 56, 57, 97, 98, 99, 100, 101, 102]⟩ : ByteArray)[m.val]'m.isLt = digI m.val := by decide +kernel
  exact this ⟨n, h⟩
/-- A string's bytes as a row of its own. -/
theorem conv_bytes (w : World) (s : ByteArray) : ∃ c W, (convert 9 74 (.string s)).run Tryd.prog w = .ok (.slice (some ⟨w.heap.size, 0, none⟩) s.size c) W ∧ W.heap.size = w.heap.size + 1 ∧ Below w.heap.size w W ∧
    (∀ j, j < s.size → W.cell? ⟨w.heap.size, j, none⟩ = some (.int .u8 (s.data.toList.getD j 0).toNat)) := by
  refine ⟨_, _, Lib.run_convert_string_bytes w _ _ 5 s Tryd.underlying9 Tryd.underlying74 Tryd.underlying5, Lib.bytesWorld_size _ _ _, ?_, fun j hj => Lib.bytesWorld_cell w _ s j hj⟩
  exact ⟨rfl, rfl, rfl, by rw [Lib.bytesWorld_size]; omega, fun k hk => Lib.bytesWorld_at_old w _ s k hk⟩

set_option maxRecDepth 100000 in
set_option maxHeartbeats 4000000 in
theorem hex.calls (s : ByteArray) (hs : s.size ≤ 1000000) (w : World) :
    Calls Tryd.prog 20 #[.string s] w fun e w' => e = .returned (.string (hexI s)) ∧ Below w.heap.size w w' := by
  go_enter Tryd.func20, Tryd.ntmps20
  go_wp2_with fail
  obtain ⟨c, W, hcv, hW, hB, hcell⟩ := conv_bytes (w.alloc (.cells #[.pointer none, .slice none 0 0] 77)) s
  rw [hcv]
  have e1 : (w.alloc (.cells #[.pointer none, .slice none 0 0] 77)).heap.size = w.heap.size + 1 := by simp
  rw [e1] at hW hB hcell ⊢
  have hbd : IsBAt (w.heap.size + 2) w.heap.size [] W := BAt.fresh _ _ _ ((hB.block _ (by omega)).trans (blk_new w _))
  have hBw : Below w.heap.size w W := Below.trans (below_alloc (Below.refl _ _) _) (hB.mono (by omega))
  have HC := Aside0.mk hcell
  have HW := Aside0.mk hW
  have HB := Aside0.mk hbd
  have HBw := Aside0.mk hBw
  clear hcv hW hB hcell e1 hbd hBw
  simp only [Result.andThen]
  rw [Oper.upon_value]
  go_wp2_with fail
  go_loopw [9] (fun v wr => ∃ k : Nat, v = .int .i64 k ∧ k ≤ s.size ∧ Aside0 (IsBAt (w.heap.size + 2) w.heap.size (Lib.byteCells (hexL (s.data.toList.take k))) wr) ∧ Aside0 (KeepsBut (w.heap.size + 2) w.heap.size W wr)) (fun v _ => s.size - (intOf v).toNat)
  case atStart => exact ⟨0, rfl, by omega, ⟨by simpa [hexL, Lib.byteCells] using HB.out⟩, ⟨KeepsBut.refl _ _ _⟩⟩
  case round =>
    obtain ⟨k, rfl, hk, HB2, HK2⟩ := hrel
    by_cases hlt : k < s.size
    · have b1 : decide ((k : Int) < (s.size : Int)) = true := decide_eq_true (by omega)
      have g1 : (k : Int) < (s.size : Int) := by omega
      obtain ⟨x, hx⟩ : ∃ x, x = s.data.toList.getD k 0 := ⟨_, rfl⟩
      have hc : wr.cell? ⟨w.heap.size + 1, k, none⟩ = some (.int .u8 (x.toNat : Int)) := by
        rw [hx, ← HC.out k hlt]
        exact World.cell?_of_block (HK2.out.block _ (by simp) (by simp))
      have HX := Aside0.mk hx
      clear hx
      have hx256 : x.toNat < 256 := x.toNat_lt
      have i1 : x.toNat / 16 < 16 := by omega
      have i2 : (x.toNat : Int) / 16 < 16 := by omega
      have i3 : x.toNat % 16 < 16 := by omega
      have i4 : (x.toNat : Int) % 16 < 16 := by omega
      have ea : Go.bits .and .u8 (x.toNat : Int) 15 = (x.toNat : Int) % 16 := and15 x
      have d1 := digs_at _ i1
      have d2 := digs_at _ i3
      go_wp2_with fail
      refine (writeByteR.calls (w.heap.size + 2) w.heap.size _ (digI (x.toNat / 16)).toNat _ HB2.out (by simp [Lib.byteCells, hexL_length]; omega) (by have h1 := HK2.out.size; rw [HW.out] at h1; omega) (by omega)).mono ?_
      rintro e w2 ⟨rfl, hb2, hk2⟩
      have HB3 := Aside0.mk hb2
      have HK3 := Aside0.mk (HK2.out.trans hk2)
      clear hb2 hk2 hc
      go_wp2_with fail
      refine (writeByteR.calls (w.heap.size + 2) w.heap.size _ (digI (x.toNat % 16)).toNat _ HB3.out (by simp [Lib.byteCells, hexL_length]; omega) (by have h1 := HK3.out.size; rw [HW.out] at h1; omega) (by omega)).mono ?_
      rintro e w3 ⟨rfl, hb3, hk3⟩
      have HB4 := Aside0.mk hb3
      have HK4 := Aside0.mk (HK3.out.trans hk3)
      clear hb3 hk3
      have e1 : IntKind.i64.wrap ((k : Int) + 1) = (k : Int) + 1 := IntWalk.i64_in _ (by omega)
      clear b1 i1 i2 i3 i4 ea d1 d2
      go_wp2_with fail
      go_roundw
      case rel =>
        refine ⟨k + 1, by go_num, by omega, ⟨?_⟩, HK4⟩
        have ht : s.data.toList.take (k + 1) = s.data.toList.take k ++ [x] := by
          have hk' : k < s.data.toList.length := by simpa using hlt
          rw [HX.out, List.take_add_one, List.getD_eq_getElem?_getD, List.getElem?_eq_getElem hk']
          rfl
        rw [ht, hexL_snoc]
        have h4 := HB4.out
        simp only [Lib.byteCells, List.map_append, List.map_cons, List.map_nil, List.append_assoc, List.cons_append, List.nil_append] at h4 ⊢
        exact h4
      case measure => simp [intOf]; omega
    · have b1 : decide ((k : Int) < (s.size : Int)) = false := decide_eq_false (by omega)
      go_wp2_with fail
      refine (Tryd.Builder_String_any w.heap.size w.heap.size _ _ (HB2.out.builder (by omega)) (by have h1 := HK2.out.size; rw [HW.out] at h1; omega)).mono ?_
      rintro e w2 ⟨rfl, hB2⟩
      go_wp2
      go_ret
      refine ⟨?_, (HBw.out.trans (HK2.out.below (by omega))).trans hB2⟩
      have : s.data.toList.take k = s.data.toList := List.take_of_length_le (by simp; omega)
      rw [this]; rfl

end Go.Proofs.YtcidfahoajmcmaaDoor.P
