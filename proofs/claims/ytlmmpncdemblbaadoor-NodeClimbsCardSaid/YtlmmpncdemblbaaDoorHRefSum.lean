-- Hand-written contracts of this workplace, filled for this seat by a program.
import Derived.Test.YtlmmpncdemblbaaDoorPx0
import Derived.Test.YtlmmpncdemblbaaDoorPx1
import Derived.Test.YtlmmpncdemblbaaDoorHQuick
import Derived.Test.YtlmmpncdemblbaaDoorHPad
import Derived.Test.YtlmmpncdemblbaaDoorHSha
import Derived.Test.YtlmmpncdemblbaaDoorUPad
import Derived.StillTailTactics
import Derived.Laws.BytesArg
import Derived.Stop.RegionWithIn
import Derived.Deep.RegionWith
namespace Go.Proofs.YtlmmpncdemblbaaDoor.P
open Go.RowKit Go.Proofs.YtlmmpncdemblbaaDoorW.PrintWords Go.Proofs.YtlmmpncdemblbaaDoorW.PrintLast Go.Proofs.YtlmmpncdemblbaaDoorW.PrintMore
set_option linter.unusedVariables false
set_option linter.unusedSimpArgs false
set_option linter.unnecessarySimpa false

/-- The table of the reference. -/
theorem table.calls (w : World) : Calls Tryd.prog 99 #[] w fun e w' => e = .returned (.slice (some ⟨w.heap.size, 0, none⟩) 64 64) ∧ (∀ i, i < 64 → w'.cell? ⟨w.heap.size, i, none⟩ = some (.int .u32 (kConst.getD i 0))) ∧ Below w.heap.size w w' := by
  go_enter Tryd.func99, Tryd.ntmps99
  go_wp2_with fail
  go_ret
  refine ⟨rfl, fun i hi => ?_, below_alloc (Below.refl _ _) _⟩
  rw [blk_cell (blk_new w _) i]
  show ((nums .u32 kConst).toArray)[i]? = _
  have hl : kConst.length = 64 := rfl
  simp [nums, hl, hi]
theorem start.calls (w : World) : Calls Tryd.prog 100 #[] w fun e w' => e = .returned (stV firstI) ∧ Below w.heap.size w w' := by
  have hu := Tryd.underlying149
  go_enter Tryd.func100, Tryd.ntmps100
  go_wp2_with fail
  refine bodyPost_ret (v := stV firstI) ?_ rfl ⟨rfl, ?_⟩
  · simp [results, Tryd.results100, go_sem, firstI]
  · repeat (with_reducible first | exact Below.refl _ _ | apply below_alloc | refine below_set ?_ (Nat.le_refl _))
/-- What comes of a state by a text's first n blocks. -/
def chainI (s : S8) (t : ByteArray) : Nat → S8
  | 0 => s
  | n + 1 => nextI (chainI s t n) (t.extract (64 * n) (64 * n + 64))
/-- The reference's digest. -/
def refSumI (t : ByteArray) : ByteArray := digestI (chainI firstI (t ++ padI t.size) ((t ++ padI t.size).size / 64))
theorem nextI_ok (s : S8) (b : ByteArray) : (nextI s b).Ok := S8.Ok.add _ _
theorem firstI_ok : firstI.Ok := by constructor <;> decide
theorem chainI_ok (t : ByteArray) : ∀ n, (chainI firstI t n).Ok
  | 0 => firstI_ok
  | _ + 1 => nextI_ok _ _
theorem S8.Ok.get {s : S8} (h : s.Ok) (i : Nat) : 0 ≤ s.get i ∧ s.get i < 4294967296 := by
  match i with
  | 0 => exact h.h0
  | 1 => exact h.h1
  | 2 => exact h.h2
  | 3 => exact h.h3
  | 4 => exact h.h4
  | 5 => exact h.h5
  | 6 => exact h.h6
  | n + 7 => exact h.h7
set_option maxRecDepth 100000 in
set_option maxHeartbeats 8000000 in
theorem refsum.calls (t : ByteArray) (w : World) (ht : t.size ≤ 1000000000) :
    Calls Tryd.prog 80 #[.string t] w fun e w' => e = .returned (.string (refSumI t)) ∧ Below w.heap.size w w' := by
  have hu := Tryd.underlying149
  obtain ⟨i0, hi, hz0, hz1, hz2⟩ := info_parts byteInfo
  obtain ⟨kp, hkp⟩ := (refPad (t.size : Int) (by omega) (by omega)).rounds
  have e1 : IntKind.u64.wrap (t.size : Int) = (t.size : Int) := by rw [IntKind.wrap_u64]; omega
  have HKP := Aside0.mk hkp
  have hps : (padI (t.size : Int)).size ≤ 72 := by rw [padI_size]; unfold padZ; omega
  have hcat : t.size + (padI (t.size : Int)).size ≤ 9223372036854775807 := by omega
  clear hkp
  go_enter Tryd.func80, Tryd.ntmps80
  go_wp2_with fail
  refine (paymasterref05_Padding.calls kp _ _ _ HKP.out).mono ?_
  rintro e w1 ⟨rfl, hB1⟩
  have HB1 := Aside0.mk hB1
  clear hB1 e1
  go_wp2_with fail
  refine (table.calls _).mono ?_
  rintro e w2 ⟨rfl, htb, hB2⟩
  have HT := Aside0.mk htb
  have HB2 := Aside0.mk (HB1.out.trans (hB2.mono HB1.out.size))
  have HTL := Aside0.mk (show w1.heap.size < w2.heap.size from cellAt_lt (htb 0 (by omega)))
  clear htb hB2
  go_wp2_with fail
  refine (start.calls _).mono ?_
  rintro e w3 ⟨rfl, hB3⟩
  have HB3 := Aside0.mk (HB2.out.trans (hB3.mono HB2.out.size))
  have HB23 := Aside0.mk hB3
  clear hB3
  have hf1 : firstI = ⟨firstI.x0, firstI.x1, firstI.x2, firstI.x3, firstI.x4, firstI.x5, firstI.x6, firstI.x7⟩ := rfl
  go_wp2_with fail
  clear hf1
  obtain ⟨al, hal⟩ : ∃ al, al = t ++ padI (t.size : Int) := ⟨_, rfl⟩
  have has : al.size = t.size + (padI (t.size : Int)).size := by rw [hal]; exact ByteArray.size_append
  have has2 : al.size ≤ 1000000072 := by omega
  rw [← hal]
  have HAL := Aside0.mk hal
  have HTab := Aside0.mk (show ∀ W, Below w3.heap.size w3 W → ∀ i, i < 64 → W.cell? ⟨w1.heap.size, i, none⟩ = some (.int .u32 (kConst.getD i 0)) from fun W hW i hi =>
    pw_cell_below hW (pw_cell_below HB23.out (HT.out i hi)))
  have HN3 := Aside0.mk (show w.heap.size ≤ w3.heap.size from HB3.out.size)
  clear hal has hcat hps
  go_loopw [6] (fun v wr => ∃ k : Nat, v = .int .i64 (64 * (k : Int)) ∧ k ≤ al.size / 64 ∧ Aside0 (wr.heap[w3.heap.size]? = some (.cells (stA (chainI firstI al k)) 149 (0, 0))) ∧ Aside0 (Below w3.heap.size w3 wr)) (fun v _ => al.size - (intOf v).toNat)
  case atStart => exact ⟨0, rfl, by omega, ⟨blk_new w3 _⟩, ⟨below_alloc (Below.refl _ _) _⟩⟩
  case round =>
    obtain ⟨k, rfl, hk, HC, HB⟩ := hrel
    by_cases hlt : k < al.size / 64
    · have b1 : decide (64 * (k : Int) + 64 ≤ (al.size : Int)) = true := decide_eq_true (by omega)
      have g1 : 64 * (k : Int) + 64 ≤ (al.size : Int) := by omega
      obtain ⟨c0, c1, c2, c3, c4, c5, c6, c7⟩ := st_cells HC.out
      have hok := chainI_ok al k
      have hbs : (al.extract (64 * k) (64 * k + 64)).size = 64 := by rw [ByteArray.size_extract]; omega
      have hsl : ∀ wx, (Instr.slice 9 (.string al) (some (.int .i64 (64 * (k : Int)))) (some (.int .i64 (64 * (k : Int) + 64))) none).run Tryd.prog wx = .ok (.string (al.extract (64 * k) (64 * k + 64))) wx := fun wx => by
        rw [run_slice_string wx 9 al .i64 .i64 (64 * (k : Int)) (64 * (k : Int) + 64) Tryd.underlying9 (by omega) (by omega) g1]
        congr 3
      have hk1 : chainI firstI al (k + 1) = nextI (chainI firstI al k) (al.extract (64 * k) (64 * k + 64)) := rfl
      have HK1 := Aside0.mk hk1
      have HOK := Aside0.mk hok
      have HBS := Aside0.mk hbs
      generalize al.extract (64 * k) (64 * k + 64) = bb at hsl HK1 HBS
      have e1 : IntKind.i64.wrap (64 * (k : Int) + 64) = 64 * (k : Int) + 64 := IntWalk.i64_in _ (by omega)
      have hd : ∀ a, ({ wr with drawn := wr.drawn + 1 } : World).cell? a = wr.cell? a := fun _ => rfl
      clear hk1 hok hbs
      go_wp2_with fail
      go_still_tail 7, (by kernel_rfl)
      change wpList _ _ _ _ _ wr.drew
      clear hsl e1 hd c0 c1 c2 c3 c4 c5 c6 c7
      go_wp2_with fail
      refine (quick.calls (chainI firstI al k) bb HOK.out HBS.out w1.heap.size wr.drew (HTab.out _ (below_drew HB.out))).mono ?_
      rintro e w4 ⟨rfl, hB4⟩
      have hC4 := blk_below (blk_drew HC.out) hB4
      obtain ⟨c0, c1, c2, c3, c4, c5, c6, c7⟩ := st_cells hC4
      have hf : ∀ i, w4.frozen? ⟨w3.heap.size, i, none⟩ = false := fun i => blk_frozen hC4 i
      have HC4 := Aside0.mk hC4
      have HB4 := Aside0.mk (HB.out.trans ((Below.drew (Below.refl _ _)).trans (hB4.mono HB.out.size)))
      rw [← HK1.out]
      obtain ⟨y, hy⟩ : ∃ y, y = chainI firstI al (k + 1) := ⟨_, rfl⟩
      rw [← hy]
      have HY := Aside0.mk hy
      clear hy
      clear hC4 hB4
      go_wp2_with fail
      go_roundw
      case rel =>
        refine ⟨k + 1, by go_num, by omega, ⟨?_⟩, ⟨?_⟩⟩
        · rw [← HY.out]
          exact st_put8 HC4.out y
        · repeat (with_reducible first | exact HB4.out | refine below_set ?_ (Nat.le_refl _))
      case measure => simp [intOf]; omega
    · have b1 : decide (64 * (k : Int) + 64 ≤ (al.size : Int)) = false := decide_eq_false (by omega)
      have ek : k = al.size / 64 := by omega
      obtain ⟨y, hy⟩ : ∃ y, y = chainI firstI al (al.size / 64) := ⟨_, rfl⟩
      have hyk : y.Ok := by rw [hy]; exact chainI_ok _ _
      have HC2 := HC
      rw [ek, ← hy] at HC2
      have HRS := Aside0.mk (show refSumI t = digestI y by rw [refSumI, ← HAL.out, ← hy])
      have HYK := Aside0.mk hyk
      have e1 : IntKind.i64.wrap (64 * (k : Int) + 64) = 64 * (k : Int) + 64 := IntWalk.i64_in _ (by omega)
      clear ek hy hyk HC
      go_wp2_with fail
      clear b1 e1
      go_loopw [8, 7] (fun v u wr2 => ∃ j : Nat, v = .int .i64 j ∧ j ≤ 8 ∧ Aside0 (wr2.ownsRow (w3.heap.size + 1) 5 1 u (4 * j) (nums .u8 (digL y j))) ∧ Aside0 (wr2.heap[w3.heap.size]? = some (.cells (stA y) 149 (0, 0))) ∧ Aside0 (Below w3.heap.size w3 wr2)) (fun v _ _ => 8 - (intOf v).toNat)
      case atStart => exact ⟨0, rfl, by omega, ⟨⟨rfl, .inl ⟨rfl, rfl⟩⟩⟩, HC2, HB⟩
      case round =>
        clear HC2 HB
        obtain ⟨j, rfl, hj, HO, HC, HB⟩ := hrel
        by_cases hlt2 : j < 8
        · have b1 : decide ((j : Int) < 8) = true := decide_eq_true (by omega)
          have g1 : (j : Int) < 8 := by omega
          obtain ⟨x, hx⟩ : ∃ x, x = y.get j := ⟨_, rfl⟩
          have hxr : 0 ≤ x ∧ x < 4294967296 := by rw [hx]; exact HYK.out.get j
          have hcx : wr.cell? ⟨w3.heap.size, j, none⟩ = some (.int .u32 x) := by
            rw [blk_cell HC.out, stA_get _ _ hlt2, hx]
          have HX := Aside0.mk hx
          obtain ⟨x0, x1⟩ := hxr
          have t1 : Int.tdiv x 16777216 = x / 16777216 := Int.tdiv_eq_ediv_of_nonneg x0
          clear hx
          have hl0 := HO.out.1
          have hlt3 : w3.heap.size < wr.heap.size := blk_lt HC.out
          have hwl : wordL x = [x / 16777216, x / 65536 % 256, x / 256 % 256, x % 256] := by simp only [wordL]; congr 1; omega
          go_wp2_with (at_builtin; refine wpList_append_own _ rfl _ _ 56 rfl (w3.heap.size + 1) 5 i0 (.int .u8 0) 1 1 Tryd.underlying56 hi hz0 hz1 hz2 rfl (by decide) _ _ _ rfl (HO.out.alloc _) ⟨wr.heap.size, 0, none⟩ 4 4 (nums .u8 [x / 16777216, x / 65536 % 256, x / 256 % 256, x % 256]) rfl rfl ?c1 ?c2 ?c3 ?c4 ?c5 ?_)
          case c1 =>
            intro j u hj
            match j, hj with
            | 0, hj => simp [nums] at hj; subst hj; simp [Addr.add]
            | 1, hj => simp [nums] at hj; subst hj; simp [Addr.add]
            | 2, hj => simp [nums] at hj; subst hj; simp [Addr.add]
            | 3, hj => simp [nums] at hj; subst hj; simp [Addr.add]
          case c2 => intro u hu; simp [nums] at hu; rcases hu with hu | hu | hu | hu <;> subst hu <;> rfl
          case c3 => unfold maxLen; omega
          case c4 => omega
          case c5 => simp; omega
          intro v' w4 hown' hgrow _
          rw [← hwl] at hown'
          have HO2 := Aside0.mk hown'
          have hC4 : w4.heap[w3.heap.size]? = some (.cells (stA y) 149 (0, 0)) := (hgrow.block _ (by simp; omega) (fun e => by have := (HO.out.lt _ e.symm).1; omega)).trans (blk_alloc HC.out _)
          have HC4 := Aside0.mk hC4
          have HB4 := Aside0.mk ((HB.out.alloc HB.out.size _).grown hgrow (by have := HB.out.size; simp; omega) (fun k hk => by have := (HO.out.lt k hk).1; omega))
          clear hown' hgrow hwl hC4 t1 hcx
          go_wp2_with fail
          go_roundw
          case rel =>
            refine ⟨j + 1, by go_num, by omega, ⟨?_⟩, HC4, HB4⟩
            rw [digL_succ, ← HX.out, nums_append]
            exact HO2.out
          case measure => simp [intOf]; omega
        · have b1 : decide ((j : Int) < 8) = false := decide_eq_false (by omega)
          obtain rfl : j = 8 := by omega
          have hown := HO.out
          obtain ⟨hl, h2⟩ := hown
          rcases h2 with ⟨_, h0⟩ | ⟨g, cap, cur, rfl, e2, e3, e4, e5, e6, e7⟩
          · omega
          have hcv := run_convert_bytes_arg wr 56 5 Tryd.underlying56 Tryd.underlying5 g 0 32 cap (digL y 8) (digL_length y 8) (fun i hi => by
            have h1 : (cur.toList.take (4 * 8 * 1))[i]? = some (.int .u8 ((digL y 8).getD i 0)) := by
              rw [e7]; simp [nums, digL_length, hi]
            rw [List.getElem?_take_of_lt (by omega)] at h1
            rw [Nat.zero_add, blk_cell e3 i]
            simpa using h1) 9 Tryd.underlying9
          have HB2 := HB
          clear HO e3 e7 HB
          go_wp2_with fail
          go_ret
          rw [HRS.out]
          exact ⟨rfl, HB3.out.trans (HB2.out.mono HN3.out)⟩

end Go.Proofs.YtlmmpncdemblbaaDoor.P
