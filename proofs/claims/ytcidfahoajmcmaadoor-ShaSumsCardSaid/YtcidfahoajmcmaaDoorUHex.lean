-- Hand-written contracts of this workplace, filled for this seat by a program.
import Derived.Test.YtcidfahoajmcmaaDoorPx0
import Derived.Test.YtcidfahoajmcmaaDoorPy1
import Derived.Test.YtcidfahoajmcmaaDoorHHex
import Derived.Test.YtcidfahoajmcmaaDoorUBase
import Derived.Test.YtcidfahoajmcmaaDoorHExtSha
import Derived.Test.YtcidfahoajmcmaaDoorUSha
import Derived.Test.YtcidfahoajmcmaaDoorUPad
namespace Go.Proofs.YtcidfahoajmcmaaDoor.P
open Go.RowKit Go.Proofs.YtcidfahoajmcmaaDoorW.PrintWords Go.Proofs.YtcidfahoajmcmaaDoorW.PrintLast Go.Proofs.YtcidfahoajmcmaaDoorW.PrintMore
set_option linter.unusedVariables false
set_option linter.unusedSimpArgs false
set_option linter.unnecessarySimpa false

theorem digit_eq (n : Nat) (h : n < 16) : paymasterref05_digit.f (n : Int) = some ((digI n).toNat : Int) := by
  have : ∀ m ∈ List.range 16, paymasterref05_digit.f (m : Int) = some ((digI m).toNat : Int) := by decide +kernel
  exact this n (List.mem_range.2 h)
/-- The digits' bytes as numbers. -/
def hexN (l : List UInt8) : List Int := (hexL l).map fun b => (b.toNat : Int)
theorem hexN_str (l : List UInt8) : strOfNums (hexN l) = ⟨(hexL l).toArray⟩ := by
  simp [strOfNums, hexN, List.map_map, Function.comp_def]
theorem hexN_length (l : List UInt8) : (hexN l).length = 2 * l.length := by rw [hexN, List.length_map, hexL_length]
theorem refHex_l0 (s : ByteArray) (hs : s.size ≤ 1000000) : ∀ (d i : Nat), d + i = s.size → Ev (fun k => paymasterref05_Hex.l0 k s (hexN (s.data.toList.take i)) (i : Int)) (hexI s)
  | 0, i, h => by
    refine Ev.step (f := fun _ => some (hexI s)) (fun k => ?_) (Ev.now _)
    rw [paymasterref05_Hex.l0, if_neg (by omega), hexN_str]
    have : s.data.toList.take i = s.data.toList := List.take_of_length_le (by simp; omega)
    rw [this]; rfl
  | d + 1, i, h => by
    have hi : i < s.size := by omega
    have hi' : i < s.data.toList.length := by simpa using hi
    refine Ev.step (f := fun k => paymasterref05_Hex.l0 k s (hexN (s.data.toList.take (i + 1))) ((i + 1 : Nat) : Int)) (fun k => ?_) (refHex_l0 s hs d (i + 1) (by omega))
    obtain ⟨x, hx⟩ : ∃ x, x = s.data.toList[i] := ⟨_, rfl⟩
    have hb : bt s (i : Int) = (x.toNat : Int) := by
      rw [hx]; simp [bt, hi]; rfl
    have hx256 : x.toNat < 256 := x.toNat_lt
    have e1 : (Int.tdiv (x.toNat : Int) 16) % 256 = ((x.toNat / 16 : Nat) : Int) := by rw [Int.tdiv_eq_ediv_of_nonneg (by omega)]; omega
    have e2 : Int.tmod (x.toNat : Int) 16 = ((x.toNat % 16 : Nat) : Int) := by rw [Int.tmod_eq_emod_of_nonneg (by omega)]; omega
    have ht : s.data.toList.take (i + 1) = s.data.toList.take i ++ [x] := by
      rw [List.take_add_one, List.getElem?_eq_getElem hi', hx]; rfl
    rw [paymasterref05_Hex.l0, if_pos (by omega), if_pos (by omega), hb, e1, e2, digit_eq _ (by omega), digit_eq _ (by omega)]
    simp only [Option.bind_some]
    have hl := hexN_length (s.data.toList.take i)
    rw [List.length_take] at hl
    rw [if_pos (by simp; omega), wrap64_id (by omega) (by omega), ht]
    congr 1
    simp only [hexN, hexL_snoc, List.map_append]
    rfl
theorem refHex (s : ByteArray) (hs : s.size ≤ 1000000) : Ev (fun k => paymasterref05_Hex.f k s) (hexI s) := by
  have := refHex_l0 s hs s.size 0 (by omega)
  simpa [hexN, hexL, paymasterref05_Hex.f] using this

end Go.Proofs.YtcidfahoajmcmaaDoor.P
