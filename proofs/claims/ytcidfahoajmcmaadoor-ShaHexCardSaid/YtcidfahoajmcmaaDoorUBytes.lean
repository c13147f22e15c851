-- Hand-written contracts of this workplace, filled for this seat by a program.
import Derived.Test.YtcidfahoajmcmaaDoorPx0
import Derived.Test.YtcidfahoajmcmaaDoorUBase
import Derived.Test.YtcidfahoajmcmaaDoorUPad
namespace Go.Proofs.YtcidfahoajmcmaaDoor.P
open Go.RowKit Go.Proofs.YtcidfahoajmcmaaDoorW.PrintWords Go.Proofs.YtcidfahoajmcmaaDoorW.PrintLast Go.Proofs.YtcidfahoajmcmaaDoorW.PrintMore
set_option linter.unusedVariables false
set_option linter.unusedSimpArgs false
set_option linter.unnecessarySimpa false

theorem toList_data (b : ByteArray) : b.toList = b.data.toList := by
  obtain ⟨⟨l⟩⟩ := b
  exact ByteArray.toList_mk l
theorem toList_inj {a b : ByteArray} (h : a.toList = b.toList) : a = b := by
  rw [toList_data, toList_data] at h
  exact ByteArray.ext (Array.toList_inj.1 h)
theorem toList_beq (a b : ByteArray) : (a.toList == b.toList) = decide (a = b) := by
  by_cases e : a = b
  · subst e; simp
  · rw [decide_eq_false e, beq_eq_false_iff_ne]; exact fun h => e (toList_inj h)
theorem bt_nums (xs : List Int) (i : Nat) (hi : i < xs.length) (h0 : 0 ≤ xs[i]) (h1 : xs[i] < 256) : bt (strOfNums xs) (i : Int) = xs[i] := by
  have hs : i < (strOfNums xs).size := by rw [strOfNums_size]; exact hi
  simp only [bt, Int.toNat_natCast, hs, dif_pos]
  have : (strOfNums xs)[i]'hs = UInt8.ofNat xs[i].toNat := by
    show (strOfNums xs).data[i]'hs = _
    simp [strOfNums]
  rw [this, UInt8.toNat_ofNat']
  omega
/-- The bytes of a padding. -/
theorem padN_bt (n : Int) : ∀ i, i < 9 + padZ n → bt (padI n) (i : Int) = if i = 0 then 128 else if i ≤ padZ n then 0 else padB n (i - padZ n - 1) := by
  intro i hi
  have hb : ∀ j, 0 ≤ padB n j ∧ padB n j < 256 := fun j => ⟨Int.emod_nonneg _ (by decide), Int.emod_lt_of_pos _ (by decide)⟩
  obtain ⟨xs, hxs⟩ : ∃ xs : List Int, xs = 128 :: (List.replicate (padZ n) 0 ++ (List.range 8).map (padB n)) := ⟨_, rfl⟩
  have hl : i < xs.length := by rw [hxs]; simp; omega
  have hg : xs[i] = if i = 0 then 128 else if i ≤ padZ n then 0 else padB n (i - padZ n - 1) := by
    subst hxs
    cases i with
    | zero => rfl
    | succ i =>
      rw [if_neg (by omega), List.getElem_cons_succ, List.getElem_append]
      split
      · rename_i h; simp at h; rw [if_pos (by omega)]; simp
      · rename_i h; simp at h; rw [if_neg (by omega)]; simp; congr 1; omega
  rw [padI_nums, ← hxs, bt_nums xs i hl]
  · exact hg
  · rw [hg]; split
    · decide
    · split
      · decide
      · exact (hb _).1
  · rw [hg]; split
    · decide
    · split
      · decide
      · exact (hb _).2

end Go.Proofs.YtcidfahoajmcmaaDoor.P
