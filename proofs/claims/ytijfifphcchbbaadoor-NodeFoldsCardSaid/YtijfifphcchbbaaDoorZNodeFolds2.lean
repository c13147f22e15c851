-- Several texts of this workplace as one.
import Derived.Test.YtijfifphcchbbaaDoorZNodeFolds1
import Derived.Test.YtijfifphcchbbaaDoorProg
import Derived.Deep.OwnRows
import Derived.Laws.Rows
import Derived.Test.YtijfifphcchbbaaDoorRows
import Derived.Test.YtijfifphcchbbaaDoorCards
import Derived.Test.YtijfifphcchbbaaDoorTie
namespace Go.Proofs.YtijfifphcchbbaaDoor.P
open Go.RowKit Go.Proofs.YtijfifphcchbbaaDoorW.PrintWords Go.Proofs.YtijfifphcchbbaaDoorW.PrintLast Go.Proofs.YtijfifphcchbbaaDoorW.PrintMore
set_option linter.unusedVariables false
set_option linter.unusedSimpArgs false
set_option linter.unnecessarySimpa false
theorem table.calls (w : World) : Calls Tryd.prog 142 #[] w fun e w' => e = .returned (.slice (some ⟨w.heap.size, 0, none⟩) 64 64) ∧ (∀ i, i < 64 → w'.cell? ⟨w.heap.size, i, none⟩ = some (.int .u32 (kConst.getD i 0))) ∧ Below w.heap.size w w' := by
 go_enter Tryd.func142, Tryd.ntmps142
 go_wp2_with fail
 go_ret
 refine ⟨rfl, fun i hi => ?_, below_alloc (Below.refl _ _) _⟩
 rw [blk_cell (blk_new w _) i]
 show ((nums .u32 kConst).toArray)[i]? = _
 have hl : kConst.length = 64 := rfl
 simp [nums, hl, hi]
theorem start.calls (w : World) : Calls Tryd.prog 143 #[] w fun e w' => e = .returned (stV firstI) ∧ Below w.heap.size w w' := by
 have hu := Tryd.underlying211
 go_enter Tryd.func143, Tryd.ntmps143
 go_wp2_with fail
 refine bodyPost_ret (v := stV firstI) ?_ rfl ⟨rfl, ?_⟩
 ·
  simp [results, Tryd.results143, go_sem, firstI]
 ·
  repeat (with_reducible first | exact Below.refl _ _ | apply below_alloc | refine below_set ?_ (Nat.le_refl _))
def chainI (s : S8) (t : ByteArray) : Nat → S8
 | 0 => s
 | n + 1 => nextI (chainI s t n) (t.extract (64 * n) (64 * n + 64))
def refSumI (t : ByteArray) : ByteArray := digestI (chainI firstI (t ++ padI t.size) ((t ++ padI t.size).size / 64))
theorem nextI_ok (s : S8) (b : ByteArray) : (nextI s b).Ok := S8.Ok.add _ _
theorem firstI_ok : firstI.Ok := by constructor <;> decide
theorem chainI_ok (t : ByteArray) : ∀ n, (chainI firstI t n).Ok
 | 0 => firstI_ok
 | _ + 1 => nextI_ok _ _
theorem S8.Ok.get {s : S8} (h : s.Ok) (i : Nat) : 0 ≤ s.get i ∧ s.get i < 4294967296 := by
 match i with
 | 0 => exact h.h0
 | 1 => exact h.h1
 | 2 => exact h.h2
 | 3 => exact h.h3
 | 4 => exact h.h4
 | 5 => exact h.h5
 | 6 => exact h.h6
 | n + 7 => exact h.h7
set_option maxRecDepth 100000 in
set_option maxHeartbeats 8000000 in
theorem refsum.calls (t : ByteArray) (w : World) (ht : t.size ≤ 1000000000) :
  Calls Tryd.prog 110 #[.string t] w fun e w' => e = .returned (.string (refSumI t)) ∧ Below w.heap.size w w' := by
 have hu := Tryd.underlying211
 obtain ⟨i0, hi, hz0, hz1, hz2⟩ := info_parts byteInfo
 obtain ⟨kp, hkp⟩ := (refPad (t.size : Int) (by omega) (by omega)).rounds
 have e1 : IntKind.u64.wrap (t.size : Int) = (t.size : Int) := by rw [IntKind.wrap_u64]; omega
 have HKP := aM' hkp
 have hps : (padI (t.size : Int)).size ≤ 72 := by rw [padI_size]; unfold padZ; omega
 have hcat : t.size + (padI (t.size : Int)).size ≤ 9223372036854775807 := by omega
 clear hkp
 go_enter Tryd.func110, Tryd.ntmps110
 go_wp2_with fail
 refine (paymasterref05_Padding.calls kp _ _ _ HKP.out).mono ?_
 rintro e w1 ⟨rfl, hB1⟩
 have HB1 := aM' hB1
 clear hB1 e1
 go_wp2_with fail
 refine (table.calls _).mono ?_
 rintro e w2 ⟨rfl, htb, hB2⟩
 have HT := aM' htb
 have HB2 := aM' (HB1.out.trans (hB2.mono HB1.out.size))
 have HTL := aM' (show w1.heap.size < w2.heap.size from cellAt_lt (htb 0 (by omega)))
 clear htb hB2
 go_wp2_with fail
 refine (start.calls _).mono ?_
 rintro e w3 ⟨rfl, hB3⟩
 have HB3 := aM' (HB2.out.trans (hB3.mono HB2.out.size))
 have HB23 := aM' hB3
 clear hB3
 have hf1 : firstI = ⟨firstI.x0, firstI.x1, firstI.x2, firstI.x3, firstI.x4, firstI.x5, firstI.x6, firstI.x7⟩ := rfl
 go_wp2_with fail
 clear hf1
 obtain ⟨al, hal⟩ : ∃ al, al = t ++ padI (t.size : Int) := ⟨_, rfl⟩
 have has : al.size = t.size + (padI (t.size : Int)).size := by rw [hal]; exact ByteArray.size_append
 have has2 : al.size ≤ 1000000072 := by omega
 rw [← hal]
 have HAL := aM' hal
 have HTab := aM' (show ∀ W, Below w3.heap.size w3 W → ∀ i, i < 64 → W.cell? ⟨w1.heap.size, i, none⟩ = some (.int .u32 (kConst.getD i 0)) from fun W hW i hi =>
  pw_cell_below hW (pw_cell_below HB23.out (HT.out i hi)))
 have HN3 := aM' (show w.heap.size ≤ w3.heap.size from HB3.out.size)
 clear hal has hcat hps
 go_loopw [6] (fun v wr => ∃ k : Nat, v = .int .i64 (64 * (k : Int)) ∧ k ≤ al.size / 64 ∧ Aside0 (wr.heap[w3.heap.size]? = some (.cells (stA (chainI firstI al k)) 211 (0, 0))) ∧ Aside0 (Below w3.heap.size w3 wr)) (fun v _ => al.size - (intOf v).toNat)
 case atStart => exact ⟨0, rfl, by omega, ⟨blk_new w3 _⟩, ⟨below_alloc (Below.refl _ _) _⟩⟩
 case round =>
  obtain ⟨k, rfl, hk, HC, HB⟩ := hrel
  by_cases hlt : k < al.size / 64
  ·
   have b1 : decide (64 * (k : Int) + 64 ≤ (al.size : Int)) = true := decide_eq_true (by omega)
   have g1 : 64 * (k : Int) + 64 ≤ (al.size : Int) := by omega
   obtain ⟨c0, c1, c2, c3, c4, c5, c6, c7⟩ := st_cells HC.out
   have hok := chainI_ok al k
   have hbs : (al.extract (64 * k) (64 * k + 64)).size = 64 := by rw [ByteArray.size_extract]; omega
   have hsl : ∀ wx, (Instr.slice 9 (.string al) (some (.int .i64 (64 * (k : Int)))) (some (.int .i64 (64 * (k : Int) + 64))) none).run Tryd.prog wx = .ok (.string (al.extract (64 * k) (64 * k + 64))) wx := fun wx => by
    rw [run_slice_string wx 9 al .i64 .i64 (64 * (k : Int)) (64 * (k : Int) + 64) Tryd.underlying9 (by omega) (by omega) g1]
    congr 3
   have hk1 : chainI firstI al (k + 1) = nextI (chainI firstI al k) (al.extract (64 * k) (64 * k + 64)) := rfl
   have HK1 := aM' hk1
   have HOK := aM' hok
   have HBS := aM' hbs
   generalize al.extract (64 * k) (64 * k + 64) = bb at hsl HK1 HBS
   have e1 : IntKind.i64.wrap (64 * (k : Int) + 64) = 64 * (k : Int) + 64 := IntWalk.i64_in _ (by omega)
   have hd : ∀ a, ({ wr with drawn := wr.drawn + 1 } : World).cell? a = wr.cell? a := fun _ => rfl
   clear hk1 hok hbs
   go_wp2_with fail
   go_still_tail 7, (by kernel_rfl)
   change wpList _ _ _ _ _ wr.drew
   clear hsl e1 hd c0 c1 c2 c3 c4 c5 c6 c7
   go_wp2_with fail
   refine (quick.calls (chainI firstI al k) bb HOK.out HBS.out w1.heap.size wr.drew (HTab.out _ (below_drew HB.out))).mono ?_
   rintro e w4 ⟨rfl, hB4⟩
   have hC4 := blk_below (blk_drew HC.out) hB4
   obtain ⟨c0, c1, c2, c3, c4, c5, c6, c7⟩ := st_cells hC4
   have hf : ∀ i, w4.frozen? ⟨w3.heap.size, i, none⟩ = false := fun i => blk_frozen hC4 i
   have HC4 := aM' hC4
   have HB4 := aM' (HB.out.trans ((Below.drew (Below.refl _ _)).trans (hB4.mono HB.out.size)))
   rw [← HK1.out]
   obtain ⟨y, hy⟩ : ∃ y, y = chainI firstI al (k + 1) := ⟨_, rfl⟩
   rw [← hy]
   have HY := aM' hy
   clear hy
   clear hC4 hB4
   go_wp2_with fail
   go_roundw
   case rel =>
    refine ⟨k + 1, by go_num, by omega, ⟨?_⟩, ⟨?_⟩⟩
    ·
     rw [← HY.out]
     exact st_put8 HC4.out y
    ·
     repeat (with_reducible first | exact HB4.out | refine below_set ?_ (Nat.le_refl _))
   case measure => simp [intOf]; omega
  ·
   have b1 : decide (64 * (k : Int) + 64 ≤ (al.size : Int)) = false := decide_eq_false (by omega)
   have ek : k = al.size / 64 := by omega
   obtain ⟨y, hy⟩ : ∃ y, y = chainI firstI al (al.size / 64) := ⟨_, rfl⟩
   have hyk : y.Ok := by rw [hy]; exact chainI_ok _ _
   have HC2 := HC
   rw [ek, ← hy] at HC2
   have HRS := aM' (show refSumI t = digestI y by rw [refSumI, ← HAL.out, ← hy])
   have HYK := aM' hyk
   have e1 : IntKind.i64.wrap (64 * (k : Int) + 64) = 64 * (k : Int) + 64 := IntWalk.i64_in _ (by omega)
   clear ek hy hyk HC
   go_wp2_with fail
   clear b1 e1
   go_loopw [8, 7] (fun v u wr2 => ∃ j : Nat, v = .int .i64 j ∧ j ≤ 8 ∧ Aside0 (wr2.ownsRow (w3.heap.size + 1) 5 1 u (4 * j) (nums .u8 (digL y j))) ∧ Aside0 (wr2.heap[w3.heap.size]? = some (.cells (stA y) 211 (0, 0))) ∧ Aside0 (Below w3.heap.size w3 wr2)) (fun v _ _ => 8 - (intOf v).toNat)
   case atStart => exact ⟨0, rfl, by omega, ⟨⟨rfl, .inl ⟨rfl, rfl⟩⟩⟩, HC2, HB⟩
   case round =>
    clear HC2 HB
    obtain ⟨j, rfl, hj, HO, HC, HB⟩ := hrel
    by_cases hlt2 : j < 8
    ·
     have b1 : decide ((j : Int) < 8) = true := decide_eq_true (by omega)
     have g1 : (j : Int) < 8 := by omega
     obtain ⟨x, hx⟩ : ∃ x, x = y.get j := ⟨_, rfl⟩
     have hxr : 0 ≤ x ∧ x < 4294967296 := by rw [hx]; exact HYK.out.get j
     have hcx : wr.cell? ⟨w3.heap.size, j, none⟩ = some (.int .u32 x) := by
      rw [blk_cell HC.out, stA_get _ _ hlt2, hx]
     have HX := aM' hx
     obtain ⟨x0, x1⟩ := hxr
     have t1 : Int.tdiv x 16777216 = x / 16777216 := Int.tdiv_eq_ediv_of_nonneg x0
     clear hx
     have hl0 := HO.out.1
     have hlt3 : w3.heap.size < wr.heap.size := blk_lt HC.out
     have hwl : wordL x = [x / 16777216, x / 65536 % 256, x / 256 % 256, x % 256] := by simp only [wordL]; congr 1; omega
     go_wp2_with (at_builtin; refine wpList_append_own _ rfl _ _ 54 rfl (w3.heap.size + 1) 5 i0 (.int .u8 0) 1 1 Tryd.underlying54 hi hz0 hz1 hz2 rfl (by decide) _ _ _ rfl (HO.out.alloc _) ⟨wr.heap.size, 0, none⟩ 4 4 (nums .u8 [x / 16777216, x / 65536 % 256, x / 256 % 256, x % 256]) rfl rfl ?c1 ?c2 ?c3 ?c4 ?c5 ?_)
     case c1 =>
      intro j u hj
      match j, hj with
      | 0, hj => simp [nums] at hj; subst hj; simp [Addr.add]
      | 1, hj => simp [nums] at hj; subst hj; simp [Addr.add]
      | 2, hj => simp [nums] at hj; subst hj; simp [Addr.add]
      | 3, hj => simp [nums] at hj; subst hj; simp [Addr.add]
     case c2 => intro u hu; simp [nums] at hu; rcases hu with hu | hu | hu | hu <;> subst hu <;> rfl
     case c3 => unfold maxLen; omega
     case c4 => omega
     case c5 => simp; omega
     intro v' w4 hown' hgrow _
     rw [← hwl] at hown'
     have HO2 := aM' hown'
     have hC4 : w4.heap[w3.heap.size]? = some (.cells (stA y) 211 (0, 0)) := (hgrow.block _ (by simp; omega) (fun e => by have := (HO.out.lt _ e.symm).1; omega)).trans (blk_alloc HC.out _)
     have HC4 := aM' hC4
     have HB4 := aM' ((HB.out.alloc HB.out.size _).grown hgrow (by have := HB.out.size; simp; omega) (fun k hk => by have := (HO.out.lt k hk).1; omega))
     clear hown' hgrow hwl hC4 t1 hcx
     go_wp2_with fail
     go_roundw
     case rel =>
      refine ⟨j + 1, by go_num, by omega, ⟨?_⟩, HC4, HB4⟩
      rw [digL_succ, ← HX.out, nums_append]
      exact HO2.out
     case measure => simp [intOf]; omega
    ·
     have b1 : decide ((j : Int) < 8) = false := decide_eq_false (by omega)
     obtain rfl : j = 8 := by omega
     have hown := HO.out
     obtain ⟨hl, h2⟩ := hown
     rcases h2 with ⟨_, h0⟩ | ⟨g, cap, cur, rfl, e2, e3, e4, e5, e6, e7⟩
     ·
      omega
     have hcv := run_convert_bytes_arg wr 54 5 Tryd.underlying54 Tryd.underlying5 g 0 32 cap (digL y 8) (digL_length y 8) (fun i hi => by
      have h1 : (cur.toList.take (4 * 8 * 1))[i]? = some (.int .u8 ((digL y 8).getD i 0)) := by
       rw [e7]; simp [nums, digL_length, hi]
      rw [List.getElem?_take_of_lt (by omega)] at h1
      rw [Nat.zero_add, blk_cell e3 i]
      simpa using h1) 9 Tryd.underlying9
     have HB2 := HB
     clear HO e3 e7 HB
     go_wp2_with fail
     go_ret
     rw [HRS.out]
     exact ⟨rfl, HB3.out.trans (HB2.out.mono HN3.out)⟩
end Go.Proofs.YtijfifphcchbbaaDoor.P
namespace Go.Proofs.YtijfifphcchbbaaDoor.P
open Go.RowKit Go.Proofs.YtijfifphcchbbaaDoorW.PrintWords Go.Proofs.YtijfifphcchbbaaDoorW.PrintLast Go.Proofs.YtijfifphcchbbaaDoorW.PrintMore
set_option linter.unusedVariables false
set_option linter.unusedSimpArgs false
set_option linter.unnecessarySimpa false
def sha_Sum.f (a0 : ByteArray) : Option ByteArray := if a0.size ≤ 4611686018427387904 then some (sumI a0) else none
theorem sha_Sum.calls (a0 : ByteArray) (r : ByteArray) (w : World) (hK : Laid w) (h : sha_Sum.f a0 = some r) :
  Calls Tryd.prog 106 #[.string a0] w fun e w' => e = .returned (.string r) ∧ Below w.heap.size w w' := by
 unfold sha_Sum.f at h
 split at h
 ·
  cases h; exact sum.calls a0 w hK (by assumption)
 ·
  cases h
def ref05_Sum.f (a0 : ByteArray) : Option ByteArray := if a0.size ≤ 1000000000 then some (refSumI a0) else none
theorem ref05_Sum.calls (a0 : ByteArray) (r : ByteArray) (w : World) (h : ref05_Sum.f a0 = some r) :
  Calls Tryd.prog 110 #[.string a0] w fun e w' => e = .returned (.string r) ∧ Below w.heap.size w w' := by
 unfold ref05_Sum.f at h
 split at h
 ·
  cases h; exact refsum.calls a0 w (by assumption)
 ·
  cases h
end Go.Proofs.YtijfifphcchbbaaDoor.P
namespace Go.Proofs.YtijfifphcchbbaaDoor.P
open Go.RowKit Go.Proofs.YtijfifphcchbbaaDoorW.PrintWords Go.Proofs.YtijfifphcchbbaaDoorW.PrintLast Go.Proofs.YtijfifphcchbbaaDoorW.PrintMore
attribute [local go_sem] max2_int min2_int max_two min_two max_three min_three max_four min_four-- for this text's walks alone
set_option linter.unusedVariables false
set_option linter.unusedSimpArgs false
def paymasterref07_Digest.f (a0 : Int) (a1 : ByteArray) : Option (ByteArray) := (paymasterref07_MayWidth.f a0).bind fun t104 => (if t104 = true then ((ref05_Sum.f a1).bind fun t105 => (if 0 ≤ a0 then (if a0 ≤ (t105.size : Int) then (some (t105.extract 0 (a0 : Int).toNat)) else (none)) else (none))) else (some (⟨#[]⟩ : ByteArray)))
set_option maxHeartbeats 8000000 in
set_option maxRecDepth 100000 in
theorem paymasterref07_Digest.calls (a0 : Int) (a1 : ByteArray) (r : ByteArray) (w : World) (h : paymasterref07_Digest.f a0 a1 = some r) :
  Calls Tryd.prog 67 #[.int .i64 a0, .string a1] w fun e w' => e = .returned (.string r) ∧ Below w.heap.size w w' := by
 have HB := aM' (Below.refl w.heap.size w)
 have H : ((paymasterref07_MayWidth.f a0).bind fun t104 => (if t104 = true then ((ref05_Sum.f a1).bind fun t105 => (if 0 ≤ a0 then (if a0 ≤ (t105.size : Int) then (some (t105.extract 0 (a0 : Int).toNat)) else (none)) else (none))) else (some (⟨#[]⟩ : ByteArray)))) = some r := h
 clear h
 replace H := Option.bind_eq_some_iff.mp H
 obtain ⟨t104, A30, H⟩ := H
 replace H : (if t104 = true then ((ref05_Sum.f a1).bind fun t105 => (if 0 ≤ a0 then (if a0 ≤ (t105.size : Int) then (some (t105.extract 0 (a0 : Int).toNat)) else (none)) else (none))) else (some (⟨#[]⟩ : ByteArray))) = some r := H
 have A3 := aM' A30
 clear A30
 by_cases c4 : t104 = true
 ·
  subst c4
  have H1 : ((ref05_Sum.f a1).bind fun t105 => (if 0 ≤ a0 then (if a0 ≤ (t105.size : Int) then (some (t105.extract 0 (a0 : Int).toNat)) else (none)) else (none))) = some r := by rw [if_pos rfl] at H; exact H
  clear H
  have H := H1
  clear H1
  replace H := Option.bind_eq_some_iff.mp H
  obtain ⟨t105, A50, H⟩ := H
  replace H : (if 0 ≤ a0 then (if a0 ≤ (t105.size : Int) then (some (t105.extract 0 (a0 : Int).toNat)) else (none)) else (none)) = some r := H
  have A5 := aM' A50
  clear A50
  by_cases c6 : 0 ≤ a0
  ·
   rw [if_pos c6] at H
   have c6b0 := eq_true c6
   have c6b1 : decide (0 ≤ a0) = true := decide_eq_true c6
   clear c6
   by_cases c7 : a0 ≤ (t105.size : Int)
   ·
    rw [if_pos c7] at H
    have c7b0 := eq_true c7
    have c7b1 : decide (a0 ≤ (t105.size : Int)) = true := decide_eq_true c7
    clear c7
    obtain rfl := Option.some.inj H
    go_enter Tryd.func67, Tryd.ntmps67
    go_wp2_with (first | ((with_reducible refine gate_callee (f := 109) rfl ?_); refine goesL_ (some 6) rfl rfl Tryd.func109 (by kernel_rfl) rfl #[.int .i64 a0] rfl (by (try simp only [List.map_toArray, List.map_cons, List.map_nil]); first | done | rfl | (simp only [List.length_drop, List.length_take]; rfl)) ?_; (with_reducible refine (paymasterref07_MayWidth.calls a0 true _ A3.out).mono ?_); rintro e w' ⟨rfl, ⟨nd, rfl⟩⟩; refine ⟨_, rfl, ?_⟩) | ((with_reducible refine gate_callee (f := 110) rfl ?_); refine goesL_ (some 9) rfl rfl Tryd.func110 (by kernel_rfl) rfl #[.string a1] rfl (by (try simp only [List.map_toArray, List.map_cons, List.map_nil]); first | done | rfl | (simp only [List.length_drop, List.length_take]; rfl)) ?_; (with_reducible refine (ref05_Sum.calls a1 t105 _ A5.out).mono ?_); rintro e w8 ⟨rfl, hb⟩; refine ⟨_, rfl, ?_⟩; have n0_ := aM' (below_step (by repeat (first | (with_reducible first | exact HB.out | apply below_alloc | apply pw_below_drewN | apply below_drew1) | exact HB.out)) hb); clear HB; have HB := n0_; clear n0_; (try clear hb); (try clear hb2); (try clear hk); (try clear hi)))
    go_ret
    exact ⟨by first | rfl | (simp [errW_none, errW_some] <;> rfl) | (simp [*, errW_none, errW_some] <;> rfl), by repeat (first | (with_reducible first | exact HB.out | apply below_alloc | apply pw_below_drewN | apply below_drew1) | exact HB.out)⟩
   ·
    rw [if_neg c7] at H
    exact absurd H (by simp)
  ·
   rw [if_neg c6] at H
   exact absurd H (by simp)
 ·
  replace c4 := Bool.eq_false_iff.mpr c4
  subst c4
  have H1 : (some (⟨#[]⟩ : ByteArray)) = some r := by rw [if_neg (show ¬ (false = true) by decide)] at H; exact H
  clear H
  have H := H1
  clear H1
  obtain rfl := Option.some.inj H
  go_enter Tryd.func67, Tryd.ntmps67
  go_wp2_with (first | ((with_reducible refine gate_callee (f := 109) rfl ?_); refine goesL_ (some 6) rfl rfl Tryd.func109 (by kernel_rfl) rfl #[.int .i64 a0] rfl (by (try simp only [List.map_toArray, List.map_cons, List.map_nil]); first | done | rfl | (simp only [List.length_drop, List.length_take]; rfl)) ?_; (with_reducible refine (paymasterref07_MayWidth.calls a0 false _ A3.out).mono ?_); rintro e w' ⟨rfl, ⟨nd, rfl⟩⟩; refine ⟨_, rfl, ?_⟩))
  go_ret
  exact ⟨by first | rfl | (simp [errW_none, errW_some] <;> rfl) | (simp [*, errW_none, errW_some] <;> rfl), by repeat (first | (with_reducible first | exact HB.out | apply below_alloc | apply pw_below_drewN | apply below_drew1) | exact HB.out)⟩
def paymasterref14_Join.j0 : Nat → Int → Bool → ByteArray → Int → Int → ByteArray → Int → Int → Option (ByteArray × Int × Int × Int)
 | 0, _, _, _, _, _, _, _, _ => none
 | k + 1, x0, x19, x157000, x157001, x157002, x158000, x158001, x158002 => if x19 = true then (some ((⟨#[]⟩ : ByteArray), 0, 0, 70)) else ((paymasterref01_Add.f k x157001 x157002 x158001 x158002).bind fun bt161 => (if bt161.2.2 = 0 then ((paymasterref07_NodeText.f k x157000 x157001 x157002 x158000 x158001 x158002).bind fun t165 => ((paymasterref07_Digest.f x0 t165).bind fun t166 => (some (t166, bt161.1, bt161.2.1, 0)))) else (some ((⟨#[]⟩ : ByteArray), 0, 0, 10))))
def paymasterref14_Join.f (k : Nat) (a0 : Int) (a1_0 : ByteArray) (a1_1 : Int) (a1_2 : Int) (a2_0 : ByteArray) (a2_1 : Int) (a2_2 : Int) : Option (ByteArray × Int × Int × Int) := (paymasterref14_Of.f a0 a1_0 a1_1 a1_2).bind fun t159 => (if t159 = true then ((paymasterref14_Of.f a0 a2_0 a2_1 a2_2).bind fun t160 => (paymasterref14_Join.j0 k a0 (!t160) a1_0 a1_1 a1_2 a2_0 a2_1 a2_2)) else (paymasterref14_Join.j0 k a0 true a1_0 a1_1 a1_2 a2_0 a2_1 a2_2))
def paymasterref14_Join.T6 : Bool × List (List Nat × List Nat) := (true, [([], []), ([], []), ([], []), ([1, 2], [1, 2]), ([0, 3, 3], [0, 3]), ([], []), ([4, 5], [4, 5]), ([6, 4, 0, 1, 2, 3, 4, 5, 6], [6]), ([7, 0, 1, 2, 3, 4, 5, 6, 7], [])])
def paymasterref14_Join.B6 : List Nat := [0, 0, 0, 6, 15, 0, 63, 127, 255]
theorem paymasterref14_Join.tab6 : rtab .any (opsOf Tryd.f60 6) = paymasterref14_Join.T6 := by kernel_rfl
theorem paymasterref14_Join.bits6 : waitsOk paymasterref14_Join.T6.2 paymasterref14_Join.B6 = true := by kernel_rfl
set_option maxHeartbeats 8000000 in
set_option maxRecDepth 100000 in
theorem paymasterref14_Join.calls (k : Nat) (a0 : Int) (a1_0 : ByteArray) (a1_1 : Int) (a1_2 : Int) (a2_0 : ByteArray) (a2_1 : Int) (a2_2 : Int) (r1 : ByteArray) (r2 : Int) (r3 : Int) (r4 : Int) (w : World) (h : paymasterref14_Join.f k a0 a1_0 a1_1 a1_2 a2_0 a2_1 a2_2 = some (r1, r2, r3, r4)) :
  Calls Tryd.prog 60 #[.int .i64 a0, .agg #[.string a1_0, .int .u64 a1_1, .int .u64 a1_2], .agg #[.string a2_0, .int .u64 a2_1, .int .u64 a2_2]] w fun e w' => e = .returned (.tuple #[.agg #[.string r1, .int .u64 r2, .int .u64 r3], .int .i64 r4]) ∧ Below w.heap.size w w' := by
 have hu28 := Tryd.underlying28
 have hu26 := Tryd.underlying26
 have HB := aM' (Below.refl w.heap.size w)
 have H : ((paymasterref14_Of.f a0 a1_0 a1_1 a1_2).bind fun t159 => (if t159 = true then ((paymasterref14_Of.f a0 a2_0 a2_1 a2_2).bind fun t160 => (paymasterref14_Join.j0 k a0 (!t160) a1_0 a1_1 a1_2 a2_0 a2_1 a2_2)) else (paymasterref14_Join.j0 k a0 true a1_0 a1_1 a1_2 a2_0 a2_1 a2_2))) = some (r1, r2, r3, r4) := h
 clear h
 have HC4 := aM' H
 clear H
 go_enter Tryd.func60, Tryd.ntmps60
 go_upto_region 1 with (first | ((with_reducible refine gate_dst (N := 4) rfl ?_); refine box_event ?hg (N := 4) ?hd (cs := #[.string a1_0, .int .u64 a1_1, .int .u64 a1_2]) (t := 28) ?hr ?_; (case hd => rfl); (case hg => rfl); (case hr => first | (go_simp; done) | (go_simp; rfl)); intro gb156 hg w5 hbox hb; have n0_ := aM' (below_step (by repeat (first | (with_reducible first | exact HB.out | apply below_alloc | apply pw_below_drewN | apply below_drew1) | exact HB.out)) hb); have n1_ := aM' (hbox); have n2_ := aM' ((by rw [hg]; exact (below_size (by repeat (first | (with_reducible first | exact HB.out | apply below_alloc | apply pw_below_drewN | apply below_drew1) | exact HB.out))) : w.heap.size ≤ gb156)); have n3_ := aM' ((by rw [hg]; exact (below_size (by repeat (first | (with_reducible first | exact HB.out | apply below_alloc | apply pw_below_drewN | apply below_drew1) | exact HB.out))) : w.heap.size ≤ gb156)); clear HB; have HB := n0_; have BK156 := n1_; have GW156 := n2_; have GE156 := n3_; clear n0_ n1_ n2_ n3_; clear hb hbox hg) | ((with_reducible refine gate_dst (N := 5) rfl ?_); refine box_event ?hg (N := 5) ?hd (cs := #[.string a2_0, .int .u64 a2_1, .int .u64 a2_2]) (t := 28) ?hr ?_; (case hd => rfl); (case hg => rfl); (case hr => first | (go_simp; done) | (go_simp; rfl)); intro gb157 hg w6 hbox hb; have n0_ := aM' (blk_below (g := gb156) (o := .cells #[.string a1_0, .int .u64 a1_1, .int .u64 a1_2] 28 (0, 0)) (by (with_reducible repeat (first | refine blk_drewN ?_ _ | refine blk_drew ?_ | refine blk_alloc ?_ _)); exact BK156.out) hb); have n1_ := aM' (below_step (by repeat (first | (with_reducible first | exact HB.out | apply below_alloc | apply pw_below_drewN | apply below_drew1 | refine below_set ?_ GE156.out) | exact HB.out)) hb); have n2_ := aM' (hbox); have n3_ := aM' ((by rw [hg]; exact (below_size (by repeat (first | (with_reducible first | exact HB.out | apply below_alloc | apply pw_below_drewN | apply below_drew1 | refine below_set ?_ GE156.out) | exact HB.out))) : w.heap.size ≤ gb157)); have n4_ := aM' ((by rw [hg]; exact (below_size (by repeat (first | (with_reducible first | exact HB.out | apply below_alloc | apply pw_below_drewN | apply below_drew1 | refine below_set ?_ GE156.out) | exact HB.out))) : w.heap.size ≤ gb157)); have n5_ := aM' ((by rw [hg]; exact Nat.ne_of_lt (blk_lt (g := gb156) (o := .cells #[.string a1_0, .int .u64 a1_1, .int .u64 a1_2] 28 (0, 0)) (by (with_reducible repeat (first | refine blk_drewN ?_ _ | refine blk_drew ?_ | refine blk_alloc ?_ _)); exact BK156.out)) : gb156 ≠ gb157)); have n6_ := aM' ((by rw [hg]; exact Nat.ne_of_gt (blk_lt (g := gb156) (o := .cells #[.string a1_0, .int .u64 a1_1, .int .u64 a1_2] 28 (0, 0)) (by (with_reducible repeat (first | refine blk_drewN ?_ _ | refine blk_drew ?_ | refine blk_alloc ?_ _)); exact BK156.out)) : gb157 ≠ gb156)); clear BK156; clear HB; have BK156 := n0_; have HB := n1_; have BK157 := n2_; have GW157 := n3_; have GE157 := n4_; have NB156_157 := n5_; have NB157_156 := n6_; clear n0_ n1_ n2_ n3_ n4_ n5_ n6_; clear hb hbox hg) | ((with_reducible refine gate_dst (N := 6) rfl ?_); refine box_event ?hg (N := 6) ?hd (cs := #[.string (⟨#[]⟩ : ByteArray), .int .u64 0, .int .u64 0]) (t := 28) ?hr ?_; (case hd => rfl); (case hg => rfl); (case hr => first | (go_simp; done) | (go_simp; rfl)); intro gb158 hg w7 hbox hb; have n0_ := aM' (blk_below (g := gb156) (o := .cells #[.string a1_0, .int .u64 a1_1, .int .u64 a1_2] 28 (0, 0)) (by (with_reducible repeat (first | refine blk_drewN ?_ _ | refine blk_drew ?_ | refine blk_alloc ?_ _)); exact BK156.out) hb); have n1_ := aM' (blk_below (g := gb157) (o := .cells #[.string a2_0, .int .u64 a2_1, .int .u64 a2_2] 28 (0, 0)) (by (with_reducible repeat (first | refine blk_drewN ?_ _ | refine blk_drew ?_ | refine blk_alloc ?_ _)); exact BK157.out) hb); have n2_ := aM' (below_step (by repeat (first | (with_reducible first | exact HB.out | apply below_alloc | apply pw_below_drewN | apply below_drew1 | refine below_set ?_ GE156.out | refine below_set ?_ GE157.out) | exact HB.out)) hb); have n3_ := aM' (hbox); have n4_ := aM' ((by rw [hg]; exact (below_size (by repeat (first | (with_reducible first | exact HB.out | apply below_alloc | apply pw_below_drewN | apply below_drew1 | refine below_set ?_ GE156.out | refine below_set ?_ GE157.out) | exact HB.out))) : w.heap.size ≤ gb158)); have n5_ := aM' ((by rw [hg]; exact (below_size (by repeat (first | (with_reducible first | exact HB.out | apply below_alloc | apply pw_below_drewN | apply below_drew1 | refine below_set ?_ GE156.out | refine below_set ?_ GE157.out) | exact HB.out))) : w.heap.size ≤ gb158)); have n6_ := aM' ((by rw [hg]; exact Nat.ne_of_lt (blk_lt (g := gb156) (o := .cells #[.string a1_0, .int .u64 a1_1, .int .u64 a1_2] 28 (0, 0)) (by (with_reducible repeat (first | refine blk_drewN ?_ _ | refine blk_drew ?_ | refine blk_alloc ?_ _)); exact BK156.out)) : gb156 ≠ gb158)); have n7_ := aM' ((by rw [hg]; exact Nat.ne_of_gt (blk_lt (g := gb156) (o := .cells #[.string a1_0, .int .u64 a1_1, .int .u64 a1_2] 28 (0, 0)) (by (with_reducible repeat (first | refine blk_drewN ?_ _ | refine blk_drew ?_ | refine blk_alloc ?_ _)); exact BK156.out)) : gb158 ≠ gb156)); have n8_ := aM' ((by rw [hg]; exact Nat.ne_of_lt (blk_lt (g := gb157) (o := .cells #[.string a2_0, .int .u64 a2_1, .int .u64 a2_2] 28 (0, 0)) (by (with_reducible repeat (first | refine blk_drewN ?_ _ | refine blk_drew ?_ | refine blk_alloc ?_ _)); exact BK157.out)) : gb157 ≠ gb158)); have n9_ := aM' ((by rw [hg]; exact Nat.ne_of_gt (blk_lt (g := gb157) (o := .cells #[.string a2_0, .int .u64 a2_1, .int .u64 a2_2] 28 (0, 0)) (by (with_reducible repeat (first | refine blk_drewN ?_ _ | refine blk_drew ?_ | refine blk_alloc ?_ _)); exact BK157.out)) : gb158 ≠ gb157)); clear BK156; clear BK157; clear HB; have BK156 := n0_; have BK157 := n1_; have HB := n2_; have BK158 := n3_; have GW158 := n4_; have GE158 := n5_; have NB156_158 := n6_; have NB158_156 := n7_; have NB157_158 := n8_; have NB158_157 := n9_; clear n0_ n1_ n2_ n3_ n4_ n5_ n6_ n7_ n8_ n9_; clear hb hbox hg))
 (try simp only [Act.put, List.setIfInBounds_toArray, List.set_cons_zero, List.set_cons_succ])
 go_cut [19] (fun v19 wc => ∃ (kq : Nat) (x19_3 : Bool), v19 = .bool x19_3 ∧ Aside0 (paymasterref14_Join.j0 kq a0 x19_3 a1_0 a1_1 a1_2 a2_0 a2_1 a2_2 = some (r1, r2, r3, r4)) ∧ Aside0 (kq ≤ k) ∧ Aside0 (wc.heap[gb156]? = some (.cells #[.string a1_0, .int .u64 a1_1, .int .u64 a1_2] 28 (0, 0))) ∧ Aside0 (wc.heap[gb157]? = some (.cells #[.string a2_0, .int .u64 a2_1, .int .u64 a2_2] 28 (0, 0))) ∧ Aside0 (wc.heap[gb158]? = some (.cells #[.string (⟨#[]⟩ : ByteArray), .int .u64 0, .int .u64 0] 28 (0, 0))) ∧ Aside0 (Below w.heap.size w wc))
 case first =>
  have H := HC4.out
  clear HC4
  replace H := Option.bind_eq_some_iff.mp H
  obtain ⟨t159, A80, H⟩ := H
  replace H : (if t159 = true then ((paymasterref14_Of.f a0 a2_0 a2_1 a2_2).bind fun t160 => (paymasterref14_Join.j0 k a0 (!t160) a1_0 a1_1 a1_2 a2_0 a2_1 a2_2)) else (paymasterref14_Join.j0 k a0 true a1_0 a1_1 a1_2 a2_0 a2_1 a2_2)) = some (r1, r2, r3, r4) := H
  have A8 := aM' A80
  clear A80
  by_cases c9 : t159 = true
  ·
   subst c9
   have H1 : ((paymasterref14_Of.f a0 a2_0 a2_1 a2_2).bind fun t160 => (paymasterref14_Join.j0 k a0 (!t160) a1_0 a1_1 a1_2 a2_0 a2_1 a2_2)) = some (r1, r2, r3, r4) := by rw [if_pos rfl] at H; exact H
   clear H
   have H := H1
   clear H1
   replace H := Option.bind_eq_some_iff.mp H
   obtain ⟨t160, A100, H⟩ := H
   replace H : (paymasterref14_Join.j0 k a0 (!t160) a1_0 a1_1 a1_2 a2_0 a2_1 a2_2) = some (r1, r2, r3, r4) := H
   have A10 := aM' A100
   clear A100
   have H' := aM' H
   clear H
   have hnb11 := NB156_157.out
   have hnc11 := NB157_156.out
   have hnb12 := NB156_158.out
   have hnc12 := NB158_156.out
   have hcz13_0 : w7.cell? ⟨gb156, 0, none⟩ = some (.string a1_0) := (blk_cell BK156.out 0).trans rfl
   have hcz13_1 : w7.cell? ⟨gb156, 1, none⟩ = some (.int .u64 a1_1) := (blk_cell BK156.out 1).trans rfl
   have hcz13_2 : w7.cell? ⟨gb156, 2, none⟩ = some (.int .u64 a1_2) := (blk_cell BK156.out 2).trans rfl
   have hfz13_0 := blk_frozen BK156.out 0
   have hfz13_1 := blk_frozen BK156.out 1
   have hfz13_2 := blk_frozen BK156.out 2
   go_wp2_with (first | ((with_reducible refine gate_callee (f := 101) rfl ?_); refine goesL_ (some 12) rfl rfl Tryd.func101 (by kernel_rfl) rfl #[.int .i64 a0, .agg #[.string a1_0, .int .u64 a1_1, .int .u64 a1_2]] rfl (by (try simp only [List.map_toArray, List.map_cons, List.map_nil]); first | done | rfl | (simp only [List.length_drop, List.length_take]; rfl)) ?_; (with_reducible refine (paymasterref14_Of.calls a0 a1_0 a1_1 a1_2 true _ A8.out).mono ?_); rintro e w14 ⟨rfl, hb⟩; refine ⟨_, rfl, ?_⟩; have n0_ := aM' (blk_below (g := gb156) (o := .cells #[.string a1_0, .int .u64 a1_1, .int .u64 a1_2] 28 (0, 0)) (by (with_reducible repeat (first | refine blk_drewN ?_ _ | refine blk_drew ?_ | refine blk_alloc ?_ _)); exact BK156.out) hb); have n1_ := aM' (blk_below (g := gb157) (o := .cells #[.string a2_0, .int .u64 a2_1, .int .u64 a2_2] 28 (0, 0)) (by (with_reducible repeat (first | refine blk_drewN ?_ _ | refine blk_drew ?_ | refine blk_alloc ?_ _)); exact BK157.out) hb); have n2_ := aM' (blk_below (g := gb158) (o := .cells #[.string (⟨#[]⟩ : ByteArray), .int .u64 0, .int .u64 0] 28 (0, 0)) (by (with_reducible repeat (first | refine blk_drewN ?_ _ | refine blk_drew ?_ | refine blk_alloc ?_ _)); exact BK158.out) hb); have n3_ := aM' (below_step (by repeat (first | (with_reducible first | exact HB.out | apply below_alloc | apply pw_below_drewN | apply below_drew1 | refine below_set ?_ GE156.out | refine below_set ?_ GE157.out | refine below_set ?_ GE158.out) | exact HB.out)) hb); clear BK156; clear BK157; clear BK158; clear HB; have BK156 := n0_; have BK157 := n1_; have BK158 := n2_; have HB := n3_; clear n0_ n1_ n2_ n3_; (try clear hb); (try clear hb2); (try clear hk); (try clear hi); have hnb15 := NB157_158.out; have hnc15 := NB158_157.out; have hcz16_0 : w14.cell? ⟨gb157, 0, none⟩ = some (.string a2_0) := (blk_cell BK157.out 0).trans rfl; have hcz16_1 : w14.cell? ⟨gb157, 1, none⟩ = some (.int .u64 a2_1) := (blk_cell BK157.out 1).trans rfl; have hcz16_2 : w14.cell? ⟨gb157, 2, none⟩ = some (.int .u64 a2_2) := (blk_cell BK157.out 2).trans rfl; have hfz16_0 := blk_frozen BK157.out 0; have hfz16_1 := blk_frozen BK157.out 1; have hfz16_2 := blk_frozen BK157.out 2) | (go_at_call 101; (with_reducible refine (paymasterref14_Of.calls a0 a2_0 a2_1 a2_2 t160 _ A10.out).mono ?_); rintro e w17 ⟨rfl, hb⟩; have n0_ := aM' (blk_below (g := gb156) (o := .cells #[.string a1_0, .int .u64 a1_1, .int .u64 a1_2] 28 (0, 0)) (by (with_reducible repeat (first | refine blk_drewN ?_ _ | refine blk_drew ?_ | refine blk_alloc ?_ _)); exact BK156.out) hb); have n1_ := aM' (blk_below (g := gb157) (o := .cells #[.string a2_0, .int .u64 a2_1, .int .u64 a2_2] 28 (0, 0)) (by (with_reducible repeat (first | refine blk_drewN ?_ _ | refine blk_drew ?_ | refine blk_alloc ?_ _)); exact BK157.out) hb); have n2_ := aM' (blk_below (g := gb158) (o := .cells #[.string (⟨#[]⟩ : ByteArray), .int .u64 0, .int .u64 0] 28 (0, 0)) (by (with_reducible repeat (first | refine blk_drewN ?_ _ | refine blk_drew ?_ | refine blk_alloc ?_ _)); exact BK158.out) hb); have n3_ := aM' (below_step (by repeat (first | (with_reducible first | exact HB.out | apply below_alloc | apply pw_below_drewN | apply below_drew1 | refine below_set ?_ GE156.out | refine below_set ?_ GE157.out | refine below_set ?_ GE158.out) | exact HB.out)) hb); clear BK156; clear BK157; clear BK158; clear HB; have BK156 := n0_; have BK157 := n1_; have BK158 := n2_; have HB := n3_; clear n0_ n1_ n2_ n3_; (try clear hb); (try clear hb2); (try clear hk); (try clear hi)))
   go_meet
   case rel => exact ⟨_, (!t160), (by first | rfl | (simp; done) | (simp [*]; done)), H', ⟨by first | omega | exact Nat.le_refl _⟩, ⟨by (with_reducible repeat (first | refine blk_drewN ?_ _ | refine blk_drew ?_ | refine blk_alloc ?_ _)); exact BK156.out⟩, ⟨by (with_reducible repeat (first | refine blk_drewN ?_ _ | refine blk_drew ?_ | refine blk_alloc ?_ _)); exact BK157.out⟩, ⟨by (with_reducible repeat (first | refine blk_drewN ?_ _ | refine blk_drew ?_ | refine blk_alloc ?_ _)); exact BK158.out⟩, ⟨by repeat (first | (with_reducible first | exact HB.out | apply below_alloc | apply pw_below_drewN | apply below_drew1 | refine below_set ?_ GE156.out | refine below_set ?_ GE157.out | refine below_set ?_ GE158.out) | exact HB.out)⟩⟩
  ·
   replace c9 := Bool.eq_false_iff.mpr c9
   subst c9
   have H1 : (paymasterref14_Join.j0 k a0 true a1_0 a1_1 a1_2 a2_0 a2_1 a2_2) = some (r1, r2, r3, r4) := by rw [if_neg (show ¬ (false = true) by decide)] at H; exact H
   clear H
   have H := H1
   clear H1
   have H' := aM' H
   clear H
   have hnb18 := NB156_157.out
   have hnc18 := NB157_156.out
   have hnb19 := NB156_158.out
   have hnc19 := NB158_156.out
   have hcz20_0 : w7.cell? ⟨gb156, 0, none⟩ = some (.string a1_0) := (blk_cell BK156.out 0).trans rfl
   have hcz20_1 : w7.cell? ⟨gb156, 1, none⟩ = some (.int .u64 a1_1) := (blk_cell BK156.out 1).trans rfl
   have hcz20_2 : w7.cell? ⟨gb156, 2, none⟩ = some (.int .u64 a1_2) := (blk_cell BK156.out 2).trans rfl
   have hfz20_0 := blk_frozen BK156.out 0
   have hfz20_1 := blk_frozen BK156.out 1
   have hfz20_2 := blk_frozen BK156.out 2
   go_wp2_with (first | ((with_reducible refine gate_callee (f := 101) rfl ?_); refine goesL_ (some 12) rfl rfl Tryd.func101 (by kernel_rfl) rfl #[.int .i64 a0, .agg #[.string a1_0, .int .u64 a1_1, .int .u64 a1_2]] rfl (by (try simp only [List.map_toArray, List.map_cons, List.map_nil]); first | done | rfl | (simp only [List.length_drop, List.length_take]; rfl)) ?_; (with_reducible refine (paymasterref14_Of.calls a0 a1_0 a1_1 a1_2 false _ A8.out).mono ?_); rintro e w21 ⟨rfl, hb⟩; refine ⟨_, rfl, ?_⟩; have n0_ := aM' (blk_below (g := gb156) (o := .cells #[.string a1_0, .int .u64 a1_1, .int .u64 a1_2] 28 (0, 0)) (by (with_reducible repeat (first | refine blk_drewN ?_ _ | refine blk_drew ?_ | refine blk_alloc ?_ _)); exact BK156.out) hb); have n1_ := aM' (blk_below (g := gb157) (o := .cells #[.string a2_0, .int .u64 a2_1, .int .u64 a2_2] 28 (0, 0)) (by (with_reducible repeat (first | refine blk_drewN ?_ _ | refine blk_drew ?_ | refine blk_alloc ?_ _)); exact BK157.out) hb); have n2_ := aM' (blk_below (g := gb158) (o := .cells #[.string (⟨#[]⟩ : ByteArray), .int .u64 0, .int .u64 0] 28 (0, 0)) (by (with_reducible repeat (first | refine blk_drewN ?_ _ | refine blk_drew ?_ | refine blk_alloc ?_ _)); exact BK158.out) hb); have n3_ := aM' (below_step (by repeat (first | (with_reducible first | exact HB.out | apply below_alloc | apply pw_below_drewN | apply below_drew1 | refine below_set ?_ GE156.out | refine below_set ?_ GE157.out | refine below_set ?_ GE158.out) | exact HB.out)) hb); clear BK156; clear BK157; clear BK158; clear HB; have BK156 := n0_; have BK157 := n1_; have BK158 := n2_; have HB := n3_; clear n0_ n1_ n2_ n3_; (try clear hb); (try clear hb2); (try clear hk); (try clear hi)))
   go_meet
   case rel => exact ⟨_, (true), (by first | rfl | (simp; done) | (simp [*]; done)), H', ⟨by first | omega | exact Nat.le_refl _⟩, ⟨by (with_reducible repeat (first | refine blk_drewN ?_ _ | refine blk_drew ?_ | refine blk_alloc ?_ _)); exact BK156.out⟩, ⟨by (with_reducible repeat (first | refine blk_drewN ?_ _ | refine blk_drew ?_ | refine blk_alloc ?_ _)); exact BK157.out⟩, ⟨by (with_reducible repeat (first | refine blk_drewN ?_ _ | refine blk_drew ?_ | refine blk_alloc ?_ _)); exact BK158.out⟩, ⟨by repeat (first | (with_reducible first | exact HB.out | apply below_alloc | apply pw_below_drewN | apply below_drew1 | refine below_set ?_ GE156.out | refine below_set ?_ GE157.out | refine below_set ?_ GE158.out) | exact HB.out)⟩⟩
 case rest =>
  clear HC4
  try clear c1
  try clear p2
  try clear c6
  try clear c9
  try clear c10
  try clear c11
  try clear c12
  try clear c15
  try clear c18
  try clear c19
  try clear hcz13_0
  try clear hcz13_1
  try clear hcz13_2
  try clear hcz16_0
  try clear hcz16_1
  try clear hcz16_2
  try clear hcz20_0
  try clear hcz20_1
  try clear hcz20_2
  try clear hfz13_0
  try clear hfz13_1
  try clear hfz13_2
  try clear hfz16_0
  try clear hfz16_1
  try clear hfz16_2
  try clear hfz20_0
  try clear hfz20_1
  try clear hfz20_2
  obtain ⟨kq, x19_3, rfl, HA, HJ3, BK156, BK157, BK158, HB⟩ := hcut
  cases kq with
  | zero => exact absurd HA.out (by simp [paymasterref14_Join.j0])
  | succ kj3 =>
   have H := HA.out
   clear HA
   simp only [paymasterref14_Join.j0] at H
   by_cases c22 : x19_3 = true
   ·
    subst c22
    have H1 : (some ((⟨#[]⟩ : ByteArray), 0, 0, 70)) = some (r1, r2, r3, r4) := by rw [if_pos rfl] at H; exact H
    clear H
    have H := H1
    clear H1
    simp only [Option.some.injEq, Prod.mk.injEq] at H
    obtain ⟨rfl, rfl, rfl, rfl⟩ := H
    have hnb23 := NB158_156.out
    have hnc23 := NB156_158.out
    have hnb24 := NB158_157.out
    have hnc24 := NB157_158.out
    have hcz25_0 : wc.cell? ⟨gb158, 0, none⟩ = some (.string (⟨#[]⟩ : ByteArray)) := (blk_cell BK158.out 0).trans rfl
    have hcz25_1 : wc.cell? ⟨gb158, 1, none⟩ = some (.int .u64 0) := (blk_cell BK158.out 1).trans rfl
    have hcz25_2 : wc.cell? ⟨gb158, 2, none⟩ = some (.int .u64 0) := (blk_cell BK158.out 2).trans rfl
    have hfz25_0 := blk_frozen BK158.out 0
    have hfz25_1 := blk_frozen BK158.out 1
    have hfz25_2 := blk_frozen BK158.out 2
    go_wp2
    refine bodyPost_ret (results_ct rfl _ _ gb158 28 #[.string (⟨#[]⟩ : ByteArray), .int .u64 0, .int .u64 0] (0, 0) _ rfl (by (with_reducible repeat (first | refine blk_drewN ?_ _ | refine blk_drew ?_ | refine blk_alloc ?_ _)); refine blk_put (cs := #[.string (⟨#[]⟩ : ByteArray), .int .u64 0, .int .u64 0]) ?_ 2 _ rfl; (with_reducible repeat (first | refine blk_drewN ?_ _ | refine blk_drew ?_ | refine blk_alloc ?_ _)); refine blk_put (cs := #[.string (⟨#[]⟩ : ByteArray), .int .u64 0, .int .u64 0]) ?_ 1 _ rfl; (with_reducible repeat (first | refine blk_drewN ?_ _ | refine blk_drew ?_ | refine blk_alloc ?_ _)); refine blk_put (cs := #[.string (⟨#[]⟩ : ByteArray), .int .u64 0, .int .u64 0]) ?_ 0 _ rfl; (with_reducible repeat (first | refine blk_drewN ?_ _ | refine blk_drew ?_ | refine blk_alloc ?_ _)); exact BK158.out) Tryd.underlying28 rfl (by kernel_rfl)) rfl ?_
    exact ⟨by first | rfl | (simp [errW_none, errW_some] <;> rfl) | (simp [*, errW_none, errW_some] <;> rfl), by repeat (first | (with_reducible first | exact HB.out | apply below_alloc | apply pw_below_drewN | apply below_drew1 | refine below_set ?_ GE156.out | refine below_set ?_ GE157.out | refine below_set ?_ GE158.out) | exact HB.out)⟩
   ·
    replace c22 := Bool.eq_false_iff.mpr c22
    subst c22
    have H1 : ((paymasterref01_Add.f kj3 a1_1 a1_2 a2_1 a2_2).bind fun bt161 => (if bt161.2.2 = 0 then ((paymasterref07_NodeText.f kj3 a1_0 a1_1 a1_2 a2_0 a2_1 a2_2).bind fun t165 => ((paymasterref07_Digest.f a0 t165).bind fun t166 => (some (t166, bt161.1, bt161.2.1, 0)))) else (some ((⟨#[]⟩ : ByteArray), 0, 0, 10)))) = some (r1, r2, r3, r4) := by rw [if_neg (show ¬ (false = true) by decide)] at H; exact H
    clear H
    have H := H1
    clear H1
    replace H := Option.bind_eq_some_iff.mp H
    obtain ⟨⟨t161, t162, t163⟩, A260, H⟩ := H
    replace H : (if t163 = 0 then ((paymasterref07_NodeText.f kj3 a1_0 a1_1 a1_2 a2_0 a2_1 a2_2).bind fun t165 => ((paymasterref07_Digest.f a0 t165).bind fun t166 => (some (t166, t161, t162, 0)))) else (some ((⟨#[]⟩ : ByteArray), 0, 0, 10))) = some (r1, r2, r3, r4) := H
    have A26 := aM' A260
    clear A260
    by_cases c27 : t163 = 0
    ·
     rw [if_pos c27] at H
     have c27b0 : (t163 == 0) = true := beq_iff_eq.mpr c27
     have c27b1 : (t163 != 0) = false := bne_eq_false_iff_eq.mpr c27
     clear c27
     replace H := Option.bind_eq_some_iff.mp H
     obtain ⟨t165, A280, H⟩ := H
     replace H : ((paymasterref07_Digest.f a0 t165).bind fun t166 => (some (t166, t161, t162, 0))) = some (r1, r2, r3, r4) := H
     have A28 := aM' A280
     clear A280
     replace H := Option.bind_eq_some_iff.mp H
     obtain ⟨t166, A290, H⟩ := H
     replace H : (some (t166, t161, t162, 0)) = some (r1, r2, r3, r4) := H
     have A29 := aM' A290
     clear A290
     simp only [Option.some.injEq, Prod.mk.injEq] at H
     obtain ⟨rfl, rfl, rfl, rfl⟩ := H
     have hnb30 := NB156_157.out
     have hnc30 := NB157_156.out
     have hnb31 := NB156_158.out
     have hnc31 := NB158_156.out
     have hcz32_0 : wc.cell? ⟨gb156, 0, none⟩ = some (.string a1_0) := (blk_cell BK156.out 0).trans rfl
     have hcz32_1 : wc.cell? ⟨gb156, 1, none⟩ = some (.int .u64 a1_1) := (blk_cell BK156.out 1).trans rfl
     have hcz32_2 : wc.cell? ⟨gb156, 2, none⟩ = some (.int .u64 a1_2) := (blk_cell BK156.out 2).trans rfl
     have hfz32_0 := blk_frozen BK156.out 0
     have hfz32_1 := blk_frozen BK156.out 1
     have hfz32_2 := blk_frozen BK156.out 2
     have hnb33 := NB157_158.out
     have hnc33 := NB158_157.out
     have hcz34_0 : wc.cell? ⟨gb157, 0, none⟩ = some (.string a2_0) := (blk_cell BK157.out 0).trans rfl
     have hcz34_1 : wc.cell? ⟨gb157, 1, none⟩ = some (.int .u64 a2_1) := (blk_cell BK157.out 1).trans rfl
     have hcz34_2 : wc.cell? ⟨gb157, 2, none⟩ = some (.int .u64 a2_2) := (blk_cell BK157.out 2).trans rfl
     have hfz34_0 := blk_frozen BK157.out 0
     have hfz34_1 := blk_frozen BK157.out 1
     have hfz34_2 := blk_frozen BK157.out 2
     try go_wp2_with (first | ((with_reducible refine gate_callee (f := 68) rfl ?_); refine goesL_ (some 26) rfl rfl Tryd.func68 (by kernel_rfl) rfl #[.agg #[.int .u64 a1_1, .int .u64 a1_2], .agg #[.int .u64 a2_1, .int .u64 a2_2]] rfl (by (try simp only [List.map_toArray, List.map_cons, List.map_nil]); first | done | rfl | (simp only [List.length_drop, List.length_take]; rfl)) ?_; (with_reducible refine (paymasterref01_Add.calls kj3 a1_1 a1_2 a2_1 a2_2 t161 t162 t163 _ A26.out).mono ?_); rintro e w35 ⟨rfl, hb⟩; refine ⟨_, rfl, ?_⟩; have n0_ := aM' (blk_below (g := gb156) (o := .cells #[.string a1_0, .int .u64 a1_1, .int .u64 a1_2] 28 (0, 0)) (by (with_reducible repeat (first | refine blk_drewN ?_ _ | refine blk_drew ?_ | refine blk_alloc ?_ _)); exact BK156.out) hb); have n1_ := aM' (blk_below (g := gb157) (o := .cells #[.string a2_0, .int .u64 a2_1, .int .u64 a2_2] 28 (0, 0)) (by (with_reducible repeat (first | refine blk_drewN ?_ _ | refine blk_drew ?_ | refine blk_alloc ?_ _)); exact BK157.out) hb); have n2_ := aM' (blk_below (g := gb158) (o := .cells #[.string (⟨#[]⟩ : ByteArray), .int .u64 0, .int .u64 0] 28 (0, 0)) (by (with_reducible repeat (first | refine blk_drewN ?_ _ | refine blk_drew ?_ | refine blk_alloc ?_ _)); exact BK158.out) hb); have n3_ := aM' (below_step (by repeat (first | (with_reducible first | exact HB.out | apply below_alloc | apply pw_below_drewN | apply below_drew1 | refine below_set ?_ GE156.out | refine below_set ?_ GE157.out | refine below_set ?_ GE158.out) | exact HB.out)) hb); clear BK156; clear BK157; clear BK158; clear HB; have BK156 := n0_; have BK157 := n1_; have BK158 := n2_; have HB := n3_; clear n0_ n1_ n2_ n3_; (try clear hb); (try clear hb2); (try clear hk); (try clear hi)) | ((with_reducible refine gate_dst (N := 8) rfl ?_); refine box_event ?hg (N := 8) ?hd (cs := #[.int .u64 0, .int .u64 0]) (t := 26) ?hr ?_; (case hd => rfl); (case hg => rfl); (case hr => first | (go_simp; done) | (go_simp; rfl)); intro gb164 hg w36 hbox hb; have n0_ := aM' (blk_below (g := gb156) (o := .cells #[.string a1_0, .int .u64 a1_1, .int .u64 a1_2] 28 (0, 0)) (by (with_reducible repeat (first | refine blk_drewN ?_ _ | refine blk_drew ?_ | refine blk_alloc ?_ _)); exact BK156.out) hb); have n1_ := aM' (blk_below (g := gb157) (o := .cells #[.string a2_0, .int .u64 a2_1, .int .u64 a2_2] 28 (0, 0)) (by (with_reducible repeat (first | refine blk_drewN ?_ _ | refine blk_drew ?_ | refine blk_alloc ?_ _)); exact BK157.out) hb); have n2_ := aM' (blk_below (g := gb158) (o := .cells #[.string (⟨#[]⟩ : ByteArray), .int .u64 0, .int .u64 0] 28 (0, 0)) (by (with_reducible repeat (first | refine blk_drewN ?_ _ | refine blk_drew ?_ | refine blk_alloc ?_ _)); exact BK158.out) hb); have n3_ := aM' (below_step (by repeat (first | (with_reducible first | exact HB.out | apply below_alloc | apply pw_below_drewN | apply below_drew1 | refine below_set ?_ GE156.out | refine below_set ?_ GE157.out | refine below_set ?_ GE158.out) | exact HB.out)) hb); have n4_ := aM' (hbox); have n5_ := aM' ((by rw [hg]; exact (below_size (by repeat (first | (with_reducible first | exact HB.out | apply below_alloc | apply pw_below_drewN | apply below_drew1 | refine below_set ?_ GE156.out | refine below_set ?_ GE157.out | refine below_set ?_ GE158.out) | exact HB.out))) : w.heap.size ≤ gb164)); have n6_ := aM' ((by rw [hg]; exact (below_size (by repeat (first | (with_reducible first | exact HB.out | apply below_alloc | apply pw_below_drewN | apply below_drew1 | refine below_set ?_ GE156.out | refine below_set ?_ GE157.out | refine below_set ?_ GE158.out) | exact HB.out))) : w.heap.size ≤ gb164)); have n7_ := aM' ((by rw [hg]; exact Nat.ne_of_lt (blk_lt (g := gb156) (o := .cells #[.string a1_0, .int .u64 a1_1, .int .u64 a1_2] 28 (0, 0)) (by (with_reducible repeat (first | refine blk_drewN ?_ _ | refine blk_drew ?_ | refine blk_alloc ?_ _)); exact BK156.out)) : gb156 ≠ gb164)); have n8_ := aM' ((by rw [hg]; exact Nat.ne_of_gt (blk_lt (g := gb156) (o := .cells #[.string a1_0, .int .u64 a1_1, .int .u64 a1_2] 28 (0, 0)) (by (with_reducible repeat (first | refine blk_drewN ?_ _ | refine blk_drew ?_ | refine blk_alloc ?_ _)); exact BK156.out)) : gb164 ≠ gb156)); have n9_ := aM' ((by rw [hg]; exact Nat.ne_of_lt (blk_lt (g := gb157) (o := .cells #[.string a2_0, .int .u64 a2_1, .int .u64 a2_2] 28 (0, 0)) (by (with_reducible repeat (first | refine blk_drewN ?_ _ | refine blk_drew ?_ | refine blk_alloc ?_ _)); exact BK157.out)) : gb157 ≠ gb164)); have n10_ := aM' ((by rw [hg]; exact Nat.ne_of_gt (blk_lt (g := gb157) (o := .cells #[.string a2_0, .int .u64 a2_1, .int .u64 a2_2] 28 (0, 0)) (by (with_reducible repeat (first | refine blk_drewN ?_ _ | refine blk_drew ?_ | refine blk_alloc ?_ _)); exact BK157.out)) : gb164 ≠ gb157)); have n11_ := aM' ((by rw [hg]; exact Nat.ne_of_lt (blk_lt (g := gb158) (o := .cells #[.string (⟨#[]⟩ : ByteArray), .int .u64 0, .int .u64 0] 28 (0, 0)) (by (with_reducible repeat (first | refine blk_drewN ?_ _ | refine blk_drew ?_ | refine blk_alloc ?_ _)); exact BK158.out)) : gb158 ≠ gb164)); have n12_ := aM' ((by rw [hg]; exact Nat.ne_of_gt (blk_lt (g := gb158) (o := .cells #[.string (⟨#[]⟩ : ByteArray), .int .u64 0, .int .u64 0] 28 (0, 0)) (by (with_reducible repeat (first | refine blk_drewN ?_ _ | refine blk_drew ?_ | refine blk_alloc ?_ _)); exact BK158.out)) : gb164 ≠ gb158)); clear BK156; clear BK157; clear BK158; clear HB; have BK156 := n0_; have BK157 := n1_; have BK158 := n2_; have HB := n3_; have BK164 := n4_; have GW164 := n5_; have GE164 := n6_; have NB156_164 := n7_; have NB164_156 := n8_; have NB157_164 := n9_; have NB164_157 := n10_; have NB158_164 := n11_; have NB164_158 := n12_; clear n0_ n1_ n2_ n3_ n4_ n5_ n6_ n7_ n8_ n9_ n10_ n11_ n12_; clear hb hbox hg; have hnb37 := NB164_156.out; have hnc37 := NB156_164.out; have hnb38 := NB164_157.out; have hnc38 := NB157_164.out; have hnb39 := NB164_158.out; have hnc39 := NB158_164.out; have hcz40_0 : w36.cell? ⟨gb164, 0, none⟩ = some (.int .u64 0) := (blk_cell BK164.out 0).trans rfl; have hcz40_1 : w36.cell? ⟨gb164, 1, none⟩ = some (.int .u64 0) := (blk_cell BK164.out 1).trans rfl; have hfz40_0 := blk_frozen BK164.out 0; have hfz40_1 := blk_frozen BK164.out 1))
     have n0_ : Aside0 (((w36.setCell ⟨gb164, 0, none⟩ (.int .u64 t161)).setCell ⟨gb164, 1, none⟩ (.int .u64 t162)).heap[gb156]? = some (.cells #[.string a1_0, .int .u64 a1_1, .int .u64 a1_2] 28 (0, 0))) := ⟨by (with_reducible repeat (first | refine blk_drewN ?_ _ | refine blk_drew ?_ | refine blk_alloc ?_ _)); refine blk_far ?_ NB156_164.out _; (with_reducible repeat (first | refine blk_drewN ?_ _ | refine blk_drew ?_ | refine blk_alloc ?_ _)); refine blk_far ?_ NB156_164.out _; (with_reducible repeat (first | refine blk_drewN ?_ _ | refine blk_drew ?_ | refine blk_alloc ?_ _)); exact BK156.out⟩
     have n1_ : Aside0 (((w36.setCell ⟨gb164, 0, none⟩ (.int .u64 t161)).setCell ⟨gb164, 1, none⟩ (.int .u64 t162)).heap[gb157]? = some (.cells #[.string a2_0, .int .u64 a2_1, .int .u64 a2_2] 28 (0, 0))) := ⟨by (with_reducible repeat (first | refine blk_drewN ?_ _ | refine blk_drew ?_ | refine blk_alloc ?_ _)); refine blk_far ?_ NB157_164.out _; (with_reducible repeat (first | refine blk_drewN ?_ _ | refine blk_drew ?_ | refine blk_alloc ?_ _)); refine blk_far ?_ NB157_164.out _; (with_reducible repeat (first | refine blk_drewN ?_ _ | refine blk_drew ?_ | refine blk_alloc ?_ _)); exact BK157.out⟩
     have n2_ : Aside0 (((w36.setCell ⟨gb164, 0, none⟩ (.int .u64 t161)).setCell ⟨gb164, 1, none⟩ (.int .u64 t162)).heap[gb158]? = some (.cells #[.string (⟨#[]⟩ : ByteArray), .int .u64 0, .int .u64 0] 28 (0, 0))) := ⟨by (with_reducible repeat (first | refine blk_drewN ?_ _ | refine blk_drew ?_ | refine blk_alloc ?_ _)); refine blk_far ?_ NB158_164.out _; (with_reducible repeat (first | refine blk_drewN ?_ _ | refine blk_drew ?_ | refine blk_alloc ?_ _)); refine blk_far ?_ NB158_164.out _; (with_reducible repeat (first | refine blk_drewN ?_ _ | refine blk_drew ?_ | refine blk_alloc ?_ _)); exact BK158.out⟩
     have n3_ : Aside0 (((w36.setCell ⟨gb164, 0, none⟩ (.int .u64 t161)).setCell ⟨gb164, 1, none⟩ (.int .u64 t162)).heap[gb164]? = some (.cells #[.int .u64 t161, .int .u64 t162] 26 (0, 0))) := ⟨by (with_reducible repeat (first | refine blk_drewN ?_ _ | refine blk_drew ?_ | refine blk_alloc ?_ _)); refine blk_put (cs := #[.int .u64 t161, .int .u64 0]) ?_ 1 _ rfl; (with_reducible repeat (first | refine blk_drewN ?_ _ | refine blk_drew ?_ | refine blk_alloc ?_ _)); refine blk_put (cs := #[.int .u64 0, .int .u64 0]) ?_ 0 _ rfl; (with_reducible repeat (first | refine blk_drewN ?_ _ | refine blk_drew ?_ | refine blk_alloc ?_ _)); exact BK164.out⟩
     have n4_ : Aside0 (Below w.heap.size w ((w36.setCell ⟨gb164, 0, none⟩ (.int .u64 t161)).setCell ⟨gb164, 1, none⟩ (.int .u64 t162))) := ⟨by repeat (first | (with_reducible first | exact HB.out | apply below_alloc | apply pw_below_drewN | apply below_drew1 | refine below_set ?_ GE156.out | refine below_set ?_ GE157.out | refine below_set ?_ GE158.out | refine below_set ?_ GE164.out) | exact HB.out)⟩
     (try clear BK156)
     (try clear BK157)
     (try clear BK158)
     (try clear BK164)
     (try clear HB)
     generalize ((w36.setCell ⟨gb164, 0, none⟩ (.int .u64 t161)).setCell ⟨gb164, 1, none⟩ (.int .u64 t162)) = w41 at n0_ n1_ n2_ n3_ n4_ ⊢
     have BK156 := n0_
     have BK157 := n1_
     have BK158 := n2_
     have BK164 := n3_
     have HB := n4_
     clear n0_ n1_ n2_ n3_ n4_
     have n0_ := aM' (blk_drew BK156.out)
     have n1_ := aM' (blk_drew BK157.out)
     have n2_ := aM' (blk_drew BK158.out)
     have n3_ := aM' (blk_drew BK164.out)
     have n4_ := aM' (below_drew1 HB.out)
     clear BK156
     clear BK157
     clear BK158
     clear BK164
     clear HB
     have BK156 := n0_
     have BK157 := n1_
     have BK158 := n2_
     have BK164 := n3_
     have HB := n4_
     clear n0_ n1_ n2_ n3_ n4_
     refine start_ (n := 9) (S := fun w' => w'.cell? ⟨gb156, 0, none⟩ = some (.string a1_0) ∧ w'.cell? ⟨gb156, 1, none⟩ = some (.int .u64 a1_1) ∧ w'.cell? ⟨gb156, 2, none⟩ = some (.int .u64 a1_2) ∧ w'.cell? ⟨gb157, 0, none⟩ = some (.string a2_0) ∧ w'.cell? ⟨gb157, 1, none⟩ = some (.int .u64 a2_1) ∧ w'.cell? ⟨gb157, 2, none⟩ = some (.int .u64 a2_2) ∧ w'.cell? ⟨gb164, 0, none⟩ = some (.int .u64 t161) ∧ w'.cell? ⟨gb164, 1, none⟩ = some (.int .u64 t162)) (ds := []) #[false, false, false, false, false, false, false, false, false] (by kernel_rfl) rfl rfl ⟨(blk_cell BK156.out 0).trans rfl, (blk_cell BK156.out 1).trans rfl, (blk_cell BK156.out 2).trans rfl, (blk_cell BK157.out 0).trans rfl, (blk_cell BK157.out 1).trans rfl, (blk_cell BK157.out 2).trans rfl, (blk_cell BK164.out 0).trans rfl, (blk_cell BK164.out 1).trans rfl⟩ (fun hHeld => ?_); refine with_tabW paymasterref14_Join.tab6 paymasterref14_Join.bits6 (fun HT_ HW_ => ?_)
     generalize w41.drew = w42 at BK156 BK157 BK158 BK164 HB hHeld ⊢
     refine pure_ (i := 0) (N := some 32) (v := ?_) (a' := ?_) #[true, false, false, false, false, false, false, false, false] rfl rfl (any_of HT_.out (by kernel_rfl)) (fun _ _ _ h => h) (Or.inl ⟨by rfl, ?_⟩) ?_ ?_
     rotate_left
     ·
      intro w'
      go_simp
      with_reducible rfl
     rotate_left
     ·
      simp only [Act.put, List.setIfInBounds_toArray, List.set_cons_zero, List.set_cons_succ, i64_w, i32_w]
      rfl
     refine take_ (i := 1) (N := some 33) (v := ?_) (a' := ?_) #[true, true, false, false, false, false, false, false, false] rfl rfl (take_ofW HT_.out HW_.out (by kernel_rfl)) (fun _ _ _ h => h) (Or.inl ⟨by rfl, ?_⟩) hHeld ?_ ?_
     rotate_left
     ·
      rintro w' ⟨s0, s1, s2, s3, s4, s5, s6, s7⟩
      go_simp
      with_reducible rfl
     rotate_left
     ·
      simp only [Act.put, List.setIfInBounds_toArray, List.set_cons_zero, List.set_cons_succ, i64_w, i32_w]
      rfl
     refine take_ (i := 2) (N := some 34) (v := ?_) (a' := ?_) #[true, true, true, false, false, false, false, false, false] rfl rfl (take_ofW HT_.out HW_.out (by kernel_rfl)) (fun _ _ _ h => h) (Or.inl ⟨by rfl, ?_⟩) hHeld ?_ ?_
     rotate_left
     ·
      rintro w' ⟨s0, s1, s2, s3, s4, s5, s6, s7⟩
      go_simp
      with_reducible rfl
     rotate_left
     ·
      simp only [Act.put, List.setIfInBounds_toArray, List.set_cons_zero, List.set_cons_succ, i64_w, i32_w]
      rfl
     refine take_ (i := 5) (N := some 37) (v := ?_) (a' := ?_) #[true, true, true, false, false, true, false, false, false] rfl rfl (take_ofW HT_.out HW_.out (by kernel_rfl)) (fun _ _ _ h => h) (Or.inl ⟨by rfl, ?_⟩) hHeld ?_ ?_
     rotate_left
     ·
      rintro w' ⟨s0, s1, s2, s3, s4, s5, s6, s7⟩
      go_simp
      with_reducible rfl
     rotate_left
     ·
      simp only [Act.put, List.setIfInBounds_toArray, List.set_cons_zero, List.set_cons_succ, i64_w, i32_w]
      rfl
     refine one_ (i := 3) (N := some 35) #[true, true, true, true, false, true, false, false, false] rfl rfl (one_of HT_.out (by kernel_rfl)) (by decide) (fun K hK => ?_)
     refine goes_ Tryd.func102 (by kernel_rfl) rfl #[.agg #[.string a1_0, .int .u64 a1_1, .int .u64 a1_2], .agg #[.string a2_0, .int .u64 a2_1, .int .u64 a2_2]] (by rfl) rfl rfl (by (try simp only [List.map_toArray, List.map_cons, List.map_nil]); first | done | rfl | (simp only [List.length_drop, List.length_take]; rfl)) ?_
     with_reducible refine (paymasterref07_NodeText.calls kj3 a1_0 a1_1 a1_2 a2_0 a2_1 a2_2 t165 _ A28.out).mono ?_
     rintro e w43 ⟨rfl, hb⟩
     refine ⟨_, rfl, ?_⟩
     have n0_ := aM' (blk_below (g := gb156) (o := .cells #[.string a1_0, .int .u64 a1_1, .int .u64 a1_2] 28 (0, 0)) (by (with_reducible repeat (first | refine blk_drewN ?_ _ | refine blk_drew ?_ | refine blk_alloc ?_ _)); exact BK156.out) hb)
     have n1_ := aM' (blk_below (g := gb157) (o := .cells #[.string a2_0, .int .u64 a2_1, .int .u64 a2_2] 28 (0, 0)) (by (with_reducible repeat (first | refine blk_drewN ?_ _ | refine blk_drew ?_ | refine blk_alloc ?_ _)); exact BK157.out) hb)
     have n2_ := aM' (blk_below (g := gb158) (o := .cells #[.string (⟨#[]⟩ : ByteArray), .int .u64 0, .int .u64 0] 28 (0, 0)) (by (with_reducible repeat (first | refine blk_drewN ?_ _ | refine blk_drew ?_ | refine blk_alloc ?_ _)); exact BK158.out) hb)
     have n3_ := aM' (blk_below (g := gb164) (o := .cells #[.int .u64 t161, .int .u64 t162] 26 (0, 0)) (by (with_reducible repeat (first | refine blk_drewN ?_ _ | refine blk_drew ?_ | refine blk_alloc ?_ _)); exact BK164.out) hb)
     have n4_ := aM' (below_step (by repeat (first | (with_reducible first | exact HB.out | apply below_alloc | apply pw_below_drewN | apply below_drew1 | refine below_set ?_ GE156.out | refine below_set ?_ GE157.out | refine below_set ?_ GE158.out | refine below_set ?_ GE164.out) | exact HB.out)) hb)
     clear BK156
     clear BK157
     clear BK158
     clear BK164
     clear HB
     have BK156 := n0_
     have BK157 := n1_
     have BK158 := n2_
     have BK164 := n3_
     have HB := n4_
     clear n0_ n1_ n2_ n3_ n4_
     (try clear hb)
     (try clear hb2)
     (try clear hk)
     (try clear hi)
     refine hK.out _ _ ⟨(blk_cell BK156.out 0).trans rfl, (blk_cell BK156.out 1).trans rfl, (blk_cell BK156.out 2).trans rfl, (blk_cell BK157.out 0).trans rfl, (blk_cell BK157.out 1).trans rfl, (blk_cell BK157.out 2).trans rfl, (blk_cell BK164.out 0).trans rfl, (blk_cell BK164.out 1).trans rfl⟩ (fun hHeld => ?_)
     clear hK K
     refine norm_ (a' := ?_) ?_ ?_
     rotate_left
     ·
      show Act.put _ (some 35) _ = _
      simp only [Act.put, List.setIfInBounds_toArray, List.set_cons_zero, List.set_cons_succ, i64_w, i32_w]
      rfl
     refine one_ (i := 4) (N := some 36) #[true, true, true, true, true, true, false, false, false] rfl rfl (one_of HT_.out (by kernel_rfl)) (by decide) (fun K hK => ?_)
     refine goes_ Tryd.func67 (by kernel_rfl) rfl #[.int .i64 a0, .string t165] (by rfl) rfl rfl (by (try simp only [List.map_toArray, List.map_cons, List.map_nil]); first | done | rfl | (simp only [List.length_drop, List.length_take]; rfl)) ?_
     with_reducible refine (paymasterref07_Digest.calls a0 t165 t166 _ A29.out).mono ?_
     rintro e w44 ⟨rfl, hb⟩
     refine ⟨_, rfl, ?_⟩
     have n0_ := aM' (blk_below (g := gb156) (o := .cells #[.string a1_0, .int .u64 a1_1, .int .u64 a1_2] 28 (0, 0)) (by (with_reducible repeat (first | refine blk_drewN ?_ _ | refine blk_drew ?_ | refine blk_alloc ?_ _)); exact BK156.out) hb)
     have n1_ := aM' (blk_below (g := gb157) (o := .cells #[.string a2_0, .int .u64 a2_1, .int .u64 a2_2] 28 (0, 0)) (by (with_reducible repeat (first | refine blk_drewN ?_ _ | refine blk_drew ?_ | refine blk_alloc ?_ _)); exact BK157.out) hb)
     have n2_ := aM' (blk_below (g := gb158) (o := .cells #[.string (⟨#[]⟩ : ByteArray), .int .u64 0, .int .u64 0] 28 (0, 0)) (by (with_reducible repeat (first | refine blk_drewN ?_ _ | refine blk_drew ?_ | refine blk_alloc ?_ _)); exact BK158.out) hb)
     have n3_ := aM' (blk_below (g := gb164) (o := .cells #[.int .u64 t161, .int .u64 t162] 26 (0, 0)) (by (with_reducible repeat (first | refine blk_drewN ?_ _ | refine blk_drew ?_ | refine blk_alloc ?_ _)); exact BK164.out) hb)
     have n4_ := aM' (below_step (by repeat (first | (with_reducible first | exact HB.out | apply below_alloc | apply pw_below_drewN | apply below_drew1 | refine below_set ?_ GE156.out | refine below_set ?_ GE157.out | refine below_set ?_ GE158.out | refine below_set ?_ GE164.out) | exact HB.out)) hb)
     clear BK156
     clear BK157
     clear BK158
     clear BK164
     clear HB
     have BK156 := n0_
     have BK157 := n1_
     have BK158 := n2_
     have BK164 := n3_
     have HB := n4_
     clear n0_ n1_ n2_ n3_ n4_
     (try clear hb)
     (try clear hb2)
     (try clear hk)
     (try clear hi)
     refine hK.out _ _ ⟨(blk_cell BK156.out 0).trans rfl, (blk_cell BK156.out 1).trans rfl, (blk_cell BK156.out 2).trans rfl, (blk_cell BK157.out 0).trans rfl, (blk_cell BK157.out 1).trans rfl, (blk_cell BK157.out 2).trans rfl, (blk_cell BK164.out 0).trans rfl, (blk_cell BK164.out 1).trans rfl⟩ (fun hHeld => ?_)
     clear hK K
     refine norm_ (a' := ?_) ?_ ?_
     rotate_left
     ·
      show Act.put _ (some 36) _ = _
      simp only [Act.put, List.setIfInBounds_toArray, List.set_cons_zero, List.set_cons_succ, i64_w, i32_w]
      rfl
     refine pure_ (i := 6) (N := some 38) (v := ?_) (a' := ?_) #[true, true, true, true, true, true, true, false, false] rfl rfl (any_of HT_.out (by kernel_rfl)) (fun _ _ _ h => h) (Or.inl ⟨by rfl, ?_⟩) ?_ ?_
     rotate_left
     ·
      intro w'
      go_simp
      with_reducible rfl
     rotate_left
     ·
      simp only [Act.put, List.setIfInBounds_toArray, List.set_cons_zero, List.set_cons_succ, i64_w, i32_w]
      rfl
     refine one_ (i := 7) (N := none) #[true, true, true, true, true, true, true, true, false] rfl rfl (one_of HT_.out (by kernel_rfl)) (by decide) (fun K hK => ?_)
     have hs45 : w44.cell? ⟨gb158, 0, none⟩ = some (.string (⟨#[]⟩ : ByteArray)) := (blk_cell BK158.out 0).trans rfl
     have hfs45 := blk_frozen BK158.out 0
     have hns45_0 := NB156_158.out
     have hns45_1 := NB157_158.out
     have hns45_3 := NB164_158.out
     have hms45_0 := NB158_156.out
     have hms45_1 := NB158_157.out
     have hms45_3 := NB158_164.out
     have hs46 : w44.cell? ⟨gb158, 1, none⟩ = some (.int .u64 0) := (blk_cell BK158.out 1).trans rfl
     have hfs46 := blk_frozen BK158.out 1
     have hns46_0 := NB156_158.out
     have hns46_1 := NB157_158.out
     have hns46_3 := NB164_158.out
     have hms46_0 := NB158_156.out
     have hms46_1 := NB158_157.out
     have hms46_3 := NB158_164.out
     have hs47 : w44.cell? ⟨gb158, 2, none⟩ = some (.int .u64 0) := (blk_cell BK158.out 2).trans rfl
     have hfs47 := blk_frozen BK158.out 2
     have hns47_0 := NB156_158.out
     have hns47_1 := NB157_158.out
     have hns47_3 := NB164_158.out
     have hms47_0 := NB158_156.out
     have hms47_1 := NB158_157.out
     have hms47_3 := NB158_164.out
     refine skip_ (w1 := ?_) (by rfl) rfl ?_ ?_
     rotate_left
     ·
      go_simp
      rfl
     refine hK.out _ _ ⟨((cell_far (p := ⟨gb158, _, none⟩) NB156_158.out _).trans (((cell_far (p := ⟨gb158, _, none⟩) NB156_158.out _).trans (((cell_far (p := ⟨gb158, _, none⟩) NB156_158.out _).trans (hHeld.1)))))), ((cell_far (p := ⟨gb158, _, none⟩) NB156_158.out _).trans (((cell_far (p := ⟨gb158, _, none⟩) NB156_158.out _).trans (((cell_far (p := ⟨gb158, _, none⟩) NB156_158.out _).trans (hHeld.2.1)))))), ((cell_far (p := ⟨gb158, _, none⟩) NB156_158.out _).trans (((cell_far (p := ⟨gb158, _, none⟩) NB156_158.out _).trans (((cell_far (p := ⟨gb158, _, none⟩) NB156_158.out _).trans (hHeld.2.2.1)))))), ((cell_far (p := ⟨gb158, _, none⟩) NB157_158.out _).trans (((cell_far (p := ⟨gb158, _, none⟩) NB157_158.out _).trans (((cell_far (p := ⟨gb158, _, none⟩) NB157_158.out _).trans (hHeld.2.2.2.1)))))), ((cell_far (p := ⟨gb158, _, none⟩) NB157_158.out _).trans (((cell_far (p := ⟨gb158, _, none⟩) NB157_158.out _).trans (((cell_far (p := ⟨gb158, _, none⟩) NB157_158.out _).trans (hHeld.2.2.2.2.1)))))), ((cell_far (p := ⟨gb158, _, none⟩) NB157_158.out _).trans (((cell_far (p := ⟨gb158, _, none⟩) NB157_158.out _).trans (((cell_far (p := ⟨gb158, _, none⟩) NB157_158.out _).trans (hHeld.2.2.2.2.2.1)))))), ((cell_far (p := ⟨gb158, _, none⟩) NB164_158.out _).trans (((cell_far (p := ⟨gb158, _, none⟩) NB164_158.out _).trans (((cell_far (p := ⟨gb158, _, none⟩) NB164_158.out _).trans (hHeld.2.2.2.2.2.2.1)))))), ((cell_far (p := ⟨gb158, _, none⟩) NB164_158.out _).trans (((cell_far (p := ⟨gb158, _, none⟩) NB164_158.out _).trans (((cell_far (p := ⟨gb158, _, none⟩) NB164_158.out _).trans (hHeld.2.2.2.2.2.2.2))))))⟩ (fun hHeld => ?_)
     clear hK K
     refine pure_ (i := 8) (N := some 7) (v := ?_) (a' := ?_) #[true, true, true, true, true, true, true, true, true] rfl rfl (any_of HT_.out (by kernel_rfl)) (fun _ _ _ h => h) (Or.inl ⟨by rfl, ?_⟩) ?_ ?_
     rotate_left
     ·
      intro w'
      go_simp
      with_reducible rfl
     rotate_left
     ·
      simp only [Act.put, List.setIfInBounds_toArray, List.set_cons_zero, List.set_cons_succ, i64_w, i32_w]
      rfl
     refine done_ (done_of HT_.out (by kernel_rfl)) ?_
     try go_wp2
     refine bodyPost_ret (results_ct rfl _ _ gb158 28 #[.string t166, .int .u64 t161, .int .u64 t162] (0, 0) _ rfl (by (with_reducible repeat (first | refine blk_drewN ?_ _ | refine blk_drew ?_ | refine blk_alloc ?_ _)); refine blk_put (cs := #[.string t166, .int .u64 t161, .int .u64 0]) ?_ 2 _ rfl; (with_reducible repeat (first | refine blk_drewN ?_ _ | refine blk_drew ?_ | refine blk_alloc ?_ _)); refine blk_put (cs := #[.string t166, .int .u64 0, .int .u64 0]) ?_ 1 _ rfl; (with_reducible repeat (first | refine blk_drewN ?_ _ | refine blk_drew ?_ | refine blk_alloc ?_ _)); refine blk_put (cs := #[.string (⟨#[]⟩ : ByteArray), .int .u64 0, .int .u64 0]) ?_ 0 _ rfl; (with_reducible repeat (first | refine blk_drewN ?_ _ | refine blk_drew ?_ | refine blk_alloc ?_ _)); exact BK158.out) Tryd.underlying28 rfl (by kernel_rfl)) rfl ?_
     exact ⟨by first | rfl | (simp [errW_none, errW_some] <;> rfl) | (simp [*, errW_none, errW_some] <;> rfl), by repeat (first | (with_reducible first | exact HB.out | apply below_alloc | apply pw_below_drewN | apply below_drew1 | refine below_set ?_ GE156.out | refine below_set ?_ GE157.out | refine below_set ?_ GE158.out | refine below_set ?_ GE164.out) | exact HB.out)⟩
    ·
     rw [if_neg c27] at H
     have c27b0 : (t163 == 0) = false := beq_eq_false_iff_ne.mpr c27
     have c27b1 : (t163 != 0) = true := bne_iff_ne.mpr c27
     simp only [Option.some.injEq, Prod.mk.injEq] at H
     obtain ⟨rfl, rfl, rfl, rfl⟩ := H
     have hnb48 := NB156_157.out
     have hnc48 := NB157_156.out
     have hnb49 := NB156_158.out
     have hnc49 := NB158_156.out
     have hcz50_0 : wc.cell? ⟨gb156, 0, none⟩ = some (.string a1_0) := (blk_cell BK156.out 0).trans rfl
     have hcz50_1 : wc.cell? ⟨gb156, 1, none⟩ = some (.int .u64 a1_1) := (blk_cell BK156.out 1).trans rfl
     have hcz50_2 : wc.cell? ⟨gb156, 2, none⟩ = some (.int .u64 a1_2) := (blk_cell BK156.out 2).trans rfl
     have hfz50_0 := blk_frozen BK156.out 0
     have hfz50_1 := blk_frozen BK156.out 1
     have hfz50_2 := blk_frozen BK156.out 2
     have hnb51 := NB157_158.out
     have hnc51 := NB158_157.out
     have hcz52_0 : wc.cell? ⟨gb157, 0, none⟩ = some (.string a2_0) := (blk_cell BK157.out 0).trans rfl
     have hcz52_1 : wc.cell? ⟨gb157, 1, none⟩ = some (.int .u64 a2_1) := (blk_cell BK157.out 1).trans rfl
     have hcz52_2 : wc.cell? ⟨gb157, 2, none⟩ = some (.int .u64 a2_2) := (blk_cell BK157.out 2).trans rfl
     have hfz52_0 := blk_frozen BK157.out 0
     have hfz52_1 := blk_frozen BK157.out 1
     have hfz52_2 := blk_frozen BK157.out 2
     go_wp2_with (first | ((with_reducible refine gate_callee (f := 68) rfl ?_); refine goesL_ (some 26) rfl rfl Tryd.func68 (by kernel_rfl) rfl #[.agg #[.int .u64 a1_1, .int .u64 a1_2], .agg #[.int .u64 a2_1, .int .u64 a2_2]] rfl (by (try simp only [List.map_toArray, List.map_cons, List.map_nil]); first | done | rfl | (simp only [List.length_drop, List.length_take]; rfl)) ?_; (with_reducible refine (paymasterref01_Add.calls kj3 a1_1 a1_2 a2_1 a2_2 t161 t162 t163 _ A26.out).mono ?_); rintro e w53 ⟨rfl, hb⟩; refine ⟨_, rfl, ?_⟩; have n0_ := aM' (blk_below (g := gb156) (o := .cells #[.string a1_0, .int .u64 a1_1, .int .u64 a1_2] 28 (0, 0)) (by (with_reducible repeat (first | refine blk_drewN ?_ _ | refine blk_drew ?_ | refine blk_alloc ?_ _)); exact BK156.out) hb); have n1_ := aM' (blk_below (g := gb157) (o := .cells #[.string a2_0, .int .u64 a2_1, .int .u64 a2_2] 28 (0, 0)) (by (with_reducible repeat (first | refine blk_drewN ?_ _ | refine blk_drew ?_ | refine blk_alloc ?_ _)); exact BK157.out) hb); have n2_ := aM' (blk_below (g := gb158) (o := .cells #[.string (⟨#[]⟩ : ByteArray), .int .u64 0, .int .u64 0] 28 (0, 0)) (by (with_reducible repeat (first | refine blk_drewN ?_ _ | refine blk_drew ?_ | refine blk_alloc ?_ _)); exact BK158.out) hb); have n3_ := aM' (below_step (by repeat (first | (with_reducible first | exact HB.out | apply below_alloc | apply pw_below_drewN | apply below_drew1 | refine below_set ?_ GE156.out | refine below_set ?_ GE157.out | refine below_set ?_ GE158.out) | exact HB.out)) hb); clear BK156; clear BK157; clear BK158; clear HB; have BK156 := n0_; have BK157 := n1_; have BK158 := n2_; have HB := n3_; clear n0_ n1_ n2_ n3_; (try clear hb); (try clear hb2); (try clear hk); (try clear hi)) | ((with_reducible refine gate_dst (N := 8) rfl ?_); refine box_event ?hg (N := 8) ?hd (cs := #[.int .u64 0, .int .u64 0]) (t := 26) ?hr ?_; (case hd => rfl); (case hg => rfl); (case hr => first | (go_simp; done) | (go_simp; rfl)); intro gb164 hg w54 hbox hb; have n0_ := aM' (blk_below (g := gb156) (o := .cells #[.string a1_0, .int .u64 a1_1, .int .u64 a1_2] 28 (0, 0)) (by (with_reducible repeat (first | refine blk_drewN ?_ _ | refine blk_drew ?_ | refine blk_alloc ?_ _)); exact BK156.out) hb); have n1_ := aM' (blk_below (g := gb157) (o := .cells #[.string a2_0, .int .u64 a2_1, .int .u64 a2_2] 28 (0, 0)) (by (with_reducible repeat (first | refine blk_drewN ?_ _ | refine blk_drew ?_ | refine blk_alloc ?_ _)); exact BK157.out) hb); have n2_ := aM' (blk_below (g := gb158) (o := .cells #[.string (⟨#[]⟩ : ByteArray), .int .u64 0, .int .u64 0] 28 (0, 0)) (by (with_reducible repeat (first | refine blk_drewN ?_ _ | refine blk_drew ?_ | refine blk_alloc ?_ _)); exact BK158.out) hb); have n3_ := aM' (below_step (by repeat (first | (with_reducible first | exact HB.out | apply below_alloc | apply pw_below_drewN | apply below_drew1 | refine below_set ?_ GE156.out | refine below_set ?_ GE157.out | refine below_set ?_ GE158.out) | exact HB.out)) hb); have n4_ := aM' (hbox); have n5_ := aM' ((by rw [hg]; exact (below_size (by repeat (first | (with_reducible first | exact HB.out | apply below_alloc | apply pw_below_drewN | apply below_drew1 | refine below_set ?_ GE156.out | refine below_set ?_ GE157.out | refine below_set ?_ GE158.out) | exact HB.out))) : w.heap.size ≤ gb164)); have n6_ := aM' ((by rw [hg]; exact (below_size (by repeat (first | (with_reducible first | exact HB.out | apply below_alloc | apply pw_below_drewN | apply below_drew1 | refine below_set ?_ GE156.out | refine below_set ?_ GE157.out | refine below_set ?_ GE158.out) | exact HB.out))) : w.heap.size ≤ gb164)); have n7_ := aM' ((by rw [hg]; exact Nat.ne_of_lt (blk_lt (g := gb156) (o := .cells #[.string a1_0, .int .u64 a1_1, .int .u64 a1_2] 28 (0, 0)) (by (with_reducible repeat (first | refine blk_drewN ?_ _ | refine blk_drew ?_ | refine blk_alloc ?_ _)); exact BK156.out)) : gb156 ≠ gb164)); have n8_ := aM' ((by rw [hg]; exact Nat.ne_of_gt (blk_lt (g := gb156) (o := .cells #[.string a1_0, .int .u64 a1_1, .int .u64 a1_2] 28 (0, 0)) (by (with_reducible repeat (first | refine blk_drewN ?_ _ | refine blk_drew ?_ | refine blk_alloc ?_ _)); exact BK156.out)) : gb164 ≠ gb156)); have n9_ := aM' ((by rw [hg]; exact Nat.ne_of_lt (blk_lt (g := gb157) (o := .cells #[.string a2_0, .int .u64 a2_1, .int .u64 a2_2] 28 (0, 0)) (by (with_reducible repeat (first | refine blk_drewN ?_ _ | refine blk_drew ?_ | refine blk_alloc ?_ _)); exact BK157.out)) : gb157 ≠ gb164)); have n10_ := aM' ((by rw [hg]; exact Nat.ne_of_gt (blk_lt (g := gb157) (o := .cells #[.string a2_0, .int .u64 a2_1, .int .u64 a2_2] 28 (0, 0)) (by (with_reducible repeat (first | refine blk_drewN ?_ _ | refine blk_drew ?_ | refine blk_alloc ?_ _)); exact BK157.out)) : gb164 ≠ gb157)); have n11_ := aM' ((by rw [hg]; exact Nat.ne_of_lt (blk_lt (g := gb158) (o := .cells #[.string (⟨#[]⟩ : ByteArray), .int .u64 0, .int .u64 0] 28 (0, 0)) (by (with_reducible repeat (first | refine blk_drewN ?_ _ | refine blk_drew ?_ | refine blk_alloc ?_ _)); exact BK158.out)) : gb158 ≠ gb164)); have n12_ := aM' ((by rw [hg]; exact Nat.ne_of_gt (blk_lt (g := gb158) (o := .cells #[.string (⟨#[]⟩ : ByteArray), .int .u64 0, .int .u64 0] 28 (0, 0)) (by (with_reducible repeat (first | refine blk_drewN ?_ _ | refine blk_drew ?_ | refine blk_alloc ?_ _)); exact BK158.out)) : gb164 ≠ gb158)); clear BK156; clear BK157; clear BK158; clear HB; have BK156 := n0_; have BK157 := n1_; have BK158 := n2_; have HB := n3_; have BK164 := n4_; have GW164 := n5_; have GE164 := n6_; have NB156_164 := n7_; have NB164_156 := n8_; have NB157_164 := n9_; have NB164_157 := n10_; have NB158_164 := n11_; have NB164_158 := n12_; clear n0_ n1_ n2_ n3_ n4_ n5_ n6_ n7_ n8_ n9_ n10_ n11_ n12_; clear hb hbox hg; have hnb55 := NB164_156.out; have hnc55 := NB156_164.out; have hnb56 := NB164_157.out; have hnc56 := NB157_164.out; have hnb57 := NB164_158.out; have hnc57 := NB158_164.out; have hcz58_0 : w54.cell? ⟨gb164, 0, none⟩ = some (.int .u64 0) := (blk_cell BK164.out 0).trans rfl; have hcz58_1 : w54.cell? ⟨gb164, 1, none⟩ = some (.int .u64 0) := (blk_cell BK164.out 1).trans rfl; have hfz58_0 := blk_frozen BK164.out 0; have hfz58_1 := blk_frozen BK164.out 1; have hcz59_0 : w54.cell? ⟨gb158, 0, none⟩ = some (.string (⟨#[]⟩ : ByteArray)) := (blk_cell BK158.out 0).trans rfl; have hcz59_1 : w54.cell? ⟨gb158, 1, none⟩ = some (.int .u64 0) := (blk_cell BK158.out 1).trans rfl; have hcz59_2 : w54.cell? ⟨gb158, 2, none⟩ = some (.int .u64 0) := (blk_cell BK158.out 2).trans rfl; have hfz59_0 := blk_frozen BK158.out 0; have hfz59_1 := blk_frozen BK158.out 1; have hfz59_2 := blk_frozen BK158.out 2))
     refine bodyPost_ret (results_ct rfl _ _ gb158 28 #[.string (⟨#[]⟩ : ByteArray), .int .u64 0, .int .u64 0] (0, 0) _ rfl (by (with_reducible repeat (first | refine blk_drewN ?_ _ | refine blk_drew ?_ | refine blk_alloc ?_ _)); refine blk_put (cs := #[.string (⟨#[]⟩ : ByteArray), .int .u64 0, .int .u64 0]) ?_ 2 _ rfl; (with_reducible repeat (first | refine blk_drewN ?_ _ | refine blk_drew ?_ | refine blk_alloc ?_ _)); refine blk_put (cs := #[.string (⟨#[]⟩ : ByteArray), .int .u64 0, .int .u64 0]) ?_ 1 _ rfl; (with_reducible repeat (first | refine blk_drewN ?_ _ | refine blk_drew ?_ | refine blk_alloc ?_ _)); refine blk_put (cs := #[.string (⟨#[]⟩ : ByteArray), .int .u64 0, .int .u64 0]) ?_ 0 _ rfl; (with_reducible repeat (first | refine blk_drewN ?_ _ | refine blk_drew ?_ | refine blk_alloc ?_ _)); refine blk_far ?_ NB158_164.out _; (with_reducible repeat (first | refine blk_drewN ?_ _ | refine blk_drew ?_ | refine blk_alloc ?_ _)); refine blk_far ?_ NB158_164.out _; (with_reducible repeat (first | refine blk_drewN ?_ _ | refine blk_drew ?_ | refine blk_alloc ?_ _)); exact BK158.out) Tryd.underlying28 rfl (by kernel_rfl)) rfl ?_
     exact ⟨by first | rfl | (simp [errW_none, errW_some] <;> rfl) | (simp [*, errW_none, errW_some] <;> rfl), by repeat (first | (with_reducible first | exact HB.out | apply below_alloc | apply pw_below_drewN | apply below_drew1 | refine below_set ?_ GE156.out | refine below_set ?_ GE157.out | refine below_set ?_ GE158.out | refine below_set ?_ GE164.out) | exact HB.out)⟩
def tag_Digest.f (a0 : Int) (a1 : ByteArray) : Option (ByteArray) := (tag_MayWidth.f a0).bind fun t168 => (if t168 = true then ((sha_Sum.f a1).bind fun t169 => (if 0 ≤ a0 then (if a0 ≤ (t169.size : Int) then (some (t169.extract 0 (a0 : Int).toNat)) else (none)) else (none))) else (some (⟨#[]⟩ : ByteArray)))
set_option maxHeartbeats 8000000 in
set_option maxRecDepth 100000 in
theorem tag_Digest.calls (a0 : Int) (a1 : ByteArray) (r : ByteArray) (w : World) (hK : Laid w) (h : tag_Digest.f a0 a1 = some r) :
  Calls Tryd.prog 63 #[.int .i64 a0, .string a1] w fun e w' => e = .returned (.string r) ∧ Below w.heap.size w w' := by
 have HB := aM' (Below.refl w.heap.size w)
 have HLD := aM' hK
 clear hK
 have H : ((tag_MayWidth.f a0).bind fun t168 => (if t168 = true then ((sha_Sum.f a1).bind fun t169 => (if 0 ≤ a0 then (if a0 ≤ (t169.size : Int) then (some (t169.extract 0 (a0 : Int).toNat)) else (none)) else (none))) else (some (⟨#[]⟩ : ByteArray)))) = some r := h
 clear h
 replace H := Option.bind_eq_some_iff.mp H
 obtain ⟨t168, A30, H⟩ := H
 replace H : (if t168 = true then ((sha_Sum.f a1).bind fun t169 => (if 0 ≤ a0 then (if a0 ≤ (t169.size : Int) then (some (t169.extract 0 (a0 : Int).toNat)) else (none)) else (none))) else (some (⟨#[]⟩ : ByteArray))) = some r := H
 have A3 := aM' A30
 clear A30
 by_cases c4 : t168 = true
 ·
  subst c4
  have H1 : ((sha_Sum.f a1).bind fun t169 => (if 0 ≤ a0 then (if a0 ≤ (t169.size : Int) then (some (t169.extract 0 (a0 : Int).toNat)) else (none)) else (none))) = some r := by rw [if_pos rfl] at H; exact H
  clear H
  have H := H1
  clear H1
  replace H := Option.bind_eq_some_iff.mp H
  obtain ⟨t169, A50, H⟩ := H
  replace H : (if 0 ≤ a0 then (if a0 ≤ (t169.size : Int) then (some (t169.extract 0 (a0 : Int).toNat)) else (none)) else (none)) = some r := H
  have A5 := aM' A50
  clear A50
  by_cases c6 : 0 ≤ a0
  ·
   rw [if_pos c6] at H
   have c6b0 := eq_true c6
   have c6b1 : decide (0 ≤ a0) = true := decide_eq_true c6
   clear c6
   by_cases c7 : a0 ≤ (t169.size : Int)
   ·
    rw [if_pos c7] at H
    have c7b0 := eq_true c7
    have c7b1 : decide (a0 ≤ (t169.size : Int)) = true := decide_eq_true c7
    clear c7
    obtain rfl := Option.some.inj H
    go_enter Tryd.func63, Tryd.ntmps63
    go_wp2_with (first | ((with_reducible refine gate_callee (f := 105) rfl ?_); refine goesL_ (some 6) rfl rfl Tryd.func105 (by kernel_rfl) rfl #[.int .i64 a0] rfl (by (try simp only [List.map_toArray, List.map_cons, List.map_nil]); first | done | rfl | (simp only [List.length_drop, List.length_take]; rfl)) ?_; (with_reducible refine (tag_MayWidth.calls a0 true _ A3.out).mono ?_); rintro e w' ⟨rfl, ⟨nd, rfl⟩⟩; refine ⟨_, rfl, ?_⟩) | ((with_reducible refine gate_callee (f := 106) rfl ?_); refine goesL_ (some 9) rfl rfl Tryd.func106 (by kernel_rfl) rfl #[.string a1] rfl (by (try simp only [List.map_toArray, List.map_cons, List.map_nil]); first | done | rfl | (simp only [List.length_drop, List.length_take]; rfl)) ?_; (with_reducible refine (sha_Sum.calls a1 t169 _ ?side1 A5.out).mono ?_); (case side1 => exact Laid.below HLD.out (by repeat (first | (with_reducible first | exact HB.out | apply below_alloc | apply pw_below_drewN | apply below_drew1) | exact HB.out))); rintro e w8 ⟨rfl, hb⟩; refine ⟨_, rfl, ?_⟩; have n0_ := aM' (below_step (by repeat (first | (with_reducible first | exact HB.out | apply below_alloc | apply pw_below_drewN | apply below_drew1) | exact HB.out)) hb); clear HB; have HB := n0_; clear n0_; (try clear hb); (try clear hb2); (try clear hk); (try clear hi)))
    go_ret
    exact ⟨by first | rfl | (simp [errW_none, errW_some] <;> rfl) | (simp [*, errW_none, errW_some] <;> rfl), by repeat (first | (with_reducible first | exact HB.out | apply below_alloc | apply pw_below_drewN | apply below_drew1) | exact HB.out)⟩
   ·
    rw [if_neg c7] at H
    exact absurd H (by simp)
  ·
   rw [if_neg c6] at H
   exact absurd H (by simp)
 ·
  replace c4 := Bool.eq_false_iff.mpr c4
  subst c4
  have H1 : (some (⟨#[]⟩ : ByteArray)) = some r := by rw [if_neg (show ¬ (false = true) by decide)] at H; exact H
  clear H
  have H := H1
  clear H1
  obtain rfl := Option.some.inj H
  go_enter Tryd.func63, Tryd.ntmps63
  go_wp2_with (first | ((with_reducible refine gate_callee (f := 105) rfl ?_); refine goesL_ (some 6) rfl rfl Tryd.func105 (by kernel_rfl) rfl #[.int .i64 a0] rfl (by (try simp only [List.map_toArray, List.map_cons, List.map_nil]); first | done | rfl | (simp only [List.length_drop, List.length_take]; rfl)) ?_; (with_reducible refine (tag_MayWidth.calls a0 false _ A3.out).mono ?_); rintro e w' ⟨rfl, ⟨nd, rfl⟩⟩; refine ⟨_, rfl, ?_⟩))
  go_ret
  exact ⟨by first | rfl | (simp [errW_none, errW_some] <;> rfl) | (simp [*, errW_none, errW_some] <;> rfl), by repeat (first | (with_reducible first | exact HB.out | apply below_alloc | apply pw_below_drewN | apply below_drew1) | exact HB.out)⟩
end Go.Proofs.YtijfifphcchbbaaDoor.P
namespace Go.Proofs.YtijfifphcchbbaaDoor.P
open Go.RowKit Go.Proofs.YtijfifphcchbbaaDoorW.PrintWords Go.Proofs.YtijfifphcchbbaaDoorW.PrintLast Go.Proofs.YtijfifphcchbbaaDoorW.PrintMore
set_option linter.unusedVariables false
set_option linter.unusedSimpArgs false
set_option linter.unnecessarySimpa false
theorem add64_runs (x y c : Int) (hx : 0 ≤ x) (hy : 0 ≤ y) (hc0 : 0 ≤ c) (hc : c ≤ 1) (w : World) : (callFunc 103 #[.int .u64 x, .int .u64 y, .int .u64 c]).run Tryd.prog w =
  .ok (.value (.tuple #[.int .u64 ((x + y + c) % 18446744073709551616), .int .u64 ((x + y + c) / 18446744073709551616)])) w := by
 rw [run_callFunc_extern Tryd.func103 (by kernel_rfl) (by kernel_rfl) (by kernel_rfl) (e := add64Entry) (by kernel_rfl), run_add64 x y c hx hy hc0 hc]
 rfl
def u128_Add.f (a0_0 a0_1 a1_0 a1_1 : Int) : Option (Int × Int × Int) :=
 if ((0 ≤ a0_0 ∧ a0_0 < 18446744073709551616) ∧ (0 ≤ a0_1 ∧ a0_1 < 18446744073709551616)) ∧ ((0 ≤ a1_0 ∧ a1_0 < 18446744073709551616) ∧ (0 ≤ a1_1 ∧ a1_1 < 18446744073709551616)) then
  (if a0_0 + a1_0 + (a0_1 + a1_1) / 18446744073709551616 < 18446744073709551616 then some (a0_0 + a1_0 + (a0_1 + a1_1) / 18446744073709551616, (a0_1 + a1_1) % 18446744073709551616, 0) else some (0, 0, 10))
 else none
set_option maxRecDepth 100000 in
theorem u128_Add.calls (a0_0 : Int) (a0_1 : Int) (a1_0 : Int) (a1_1 : Int) (r1 : Int) (r2 : Int) (r3 : Int) (w : World) (h : u128_Add.f a0_0 a0_1 a1_0 a1_1 = some (r1, r2, r3)) :
  Calls Tryd.prog 61 #[.agg #[.int .u64 a0_0, .int .u64 a0_1], .agg #[.int .u64 a1_0, .int .u64 a1_1]] w fun e w' => e = .returned (.tuple #[.agg #[.int .u64 r1, .int .u64 r2], .int .i64 r3]) ∧ Below w.heap.size w w' := by
 have hu := Tryd.underlying26
 unfold u128_Add.f at h
 split at h
 ·
  rename_i hb
  obtain ⟨⟨⟨h00, h01⟩, h02, h03⟩, ⟨h10, h11⟩, h12, h13⟩ := hb
  have ha := add64_runs a0_1 a1_1 0 h02 h12 (by omega) (by omega)
  have hc := add64_runs a0_0 a1_0 ((a0_1 + a1_1) / 18446744073709551616) h00 h10 (by omega) (by omega)
  rw [Int.add_zero] at ha
  split at h
  ·
   rename_i hs
   simp only [Option.some.injEq, Prod.mk.injEq] at h
   obtain ⟨rfl, rfl, rfl⟩ := h
   have e1 : (a0_0 + a1_0 + (a0_1 + a1_1) / 18446744073709551616) / 18446744073709551616 = 0 := by omega
   have e2 : (a0_0 + a1_0 + (a0_1 + a1_1) / 18446744073709551616) % 18446744073709551616 = a0_0 + a1_0 + (a0_1 + a1_1) / 18446744073709551616 := by omega
   have E2 := aM' e2
   have hc2 : ∀ w : World, (callFunc 103 #[.int .u64 a0_0, .int .u64 a1_0, .int .u64 ((a0_1 + a1_1) / 18446744073709551616)]).run Tryd.prog w = .ok (.value (.tuple #[.int .u64 (a0_0 + a1_0 + (a0_1 + a1_1) / 18446744073709551616), .int .u64 0])) w := by
    intro w; rw [hc w, e1, e2]
   clear hc e1 e2 h00 h01 h02 h03 h10 h11 h12 h13 hs
   go_enter Tryd.func61, Tryd.ntmps61
   go_wp2_with fail
   refine bodyPost_ret (v := .tuple #[.agg #[.int .u64 (a0_0 + a1_0 + (a0_1 + a1_1) / 18446744073709551616), .int .u64 ((a0_1 + a1_1) % 18446744073709551616)], .int .i64 0]) ?_ rfl ⟨rfl, ?_⟩
   ·
    simp [results, Tryd.results61, go_sem, hu]
   ·
    repeat (with_reducible first | exact Below.refl _ _ | apply below_alloc | refine below_set ?_ (Nat.le_refl _))
  ·
   rename_i hs
   simp only [Option.some.injEq, Prod.mk.injEq] at h
   obtain ⟨rfl, rfl, rfl⟩ := h
   have e1 : (a0_0 + a1_0 + (a0_1 + a1_1) / 18446744073709551616) / 18446744073709551616 = 1 := by omega
   have hc2 : ∀ w : World, (callFunc 103 #[.int .u64 a0_0, .int .u64 a1_0, .int .u64 ((a0_1 + a1_1) / 18446744073709551616)]).run Tryd.prog w = .ok (.value (.tuple #[.int .u64 ((a0_0 + a1_0 + (a0_1 + a1_1) / 18446744073709551616) % 18446744073709551616), .int .u64 1])) w := by
    intro w; rw [hc w, e1]
   clear hc e1 h00 h01 h02 h03 h10 h11 h12 h13 hs
   go_enter Tryd.func61, Tryd.ntmps61
   go_wp2_with fail
   refine bodyPost_ret (v := .tuple #[.agg #[.int .u64 0, .int .u64 0], .int .i64 10]) ?_ rfl ⟨rfl, ?_⟩
   ·
    simp [results, Tryd.results61, go_sem, hu]
   ·
    repeat (with_reducible first | exact Below.refl _ _ | apply below_alloc | refine below_set ?_ (Nat.le_refl _))
 ·
  cases h
def halfB (x : Int) (i : Nat) : Int := x / 2 ^ (56 - 8 * i) % 256
def u128B (hi lo : Int) : ByteArray := strOfNums ((List.range 8).map (halfB hi) ++ (List.range 8).map (halfB lo))
def rowB (hi lo : Int) (k : Nat) : Array Value :=
 #[.int .u8 (if 0 < k then halfB hi 0 else 0), .int .u8 (if 1 < k then halfB hi 1 else 0), .int .u8 (if 2 < k then halfB hi 2 else 0), .int .u8 (if 3 < k then halfB hi 3 else 0), .int .u8 (if 4 < k then halfB hi 4 else 0), .int .u8 (if 5 < k then halfB hi 5 else 0), .int .u8 (if 6 < k then halfB hi 6 else 0), .int .u8 (if 7 < k then halfB hi 7 else 0),
  .int .u8 (if 0 < k then halfB lo 0 else 0), .int .u8 (if 1 < k then halfB lo 1 else 0), .int .u8 (if 2 < k then halfB lo 2 else 0), .int .u8 (if 3 < k then halfB lo 3 else 0), .int .u8 (if 4 < k then halfB lo 4 else 0), .int .u8 (if 5 < k then halfB lo 5 else 0), .int .u8 (if 6 < k then halfB lo 6 else 0), .int .u8 (if 7 < k then halfB lo 7 else 0)]
theorem rowB_step (hi lo : Int) (k : Nat) (h : k < 8) : ((rowB hi lo k).setIfInBounds k (.int .u8 (halfB hi k))).setIfInBounds (k + 8) (.int .u8 (halfB lo k)) = rowB hi lo (k + 1) := by
 have : k = 0 ∨ k = 1 ∨ k = 2 ∨ k = 3 ∨ k = 4 ∨ k = 5 ∨ k = 6 ∨ k = 7 := by omega
 rcases this with h | h | h | h | h | h | h | h <;> subst h <;> rfl
def u128_Bytes.f (a0_0 a0_1 : Int) : Option ByteArray := some (u128B a0_0 a0_1)
set_option maxRecDepth 100000 in
set_option maxHeartbeats 2000000 in
theorem u128Bytes.calls (hi lo : Int) (w : World) :
  Calls Tryd.prog 107 #[.agg #[.int .u64 hi, .int .u64 lo]] w fun e w' => e = .returned (.string (u128B hi lo)) ∧ Below w.heap.size w w' := by
 have hu := Tryd.underlying26
 have hu2 := Tryd.underlying207
 go_enter Tryd.func107, Tryd.ntmps107
 go_wp2_with fail
 go_loopw [5] (fun v wr => ∃ k : Nat, v = .int .i64 k ∧ k ≤ 8 ∧ Aside0 (wr.heap[w.heap.size + 1]? = some (.cells (rowB hi lo k) 207 (0, 0))) ∧ Aside0 (wr.heap[w.heap.size]? = some (.cells #[.int .u64 hi, .int .u64 lo] 26 (0, 0))) ∧ Aside0 (Below w.heap.size w wr)) (fun v _ => 8 - (intOf v).toNat)
 case atStart =>
  refine ⟨0, rfl, by omega, ⟨?_⟩, ⟨?_⟩, ⟨?_⟩⟩
  ·
   have := blk_new (w.alloc (.cells #[.int .u64 hi, .int .u64 lo] 26)) (.cells (rowB hi lo 0) 207)
   rw [show (w.alloc (.cells #[.int .u64 hi, .int .u64 lo] 26)).heap.size = w.heap.size + 1 by simp] at this
   exact this
  ·
   exact blk_alloc (blk_new w _) _
  ·
   repeat (first | exact Below.refl _ _ | apply below_alloc)
 case round =>
  obtain ⟨k, rfl, hk, HO, HX, HB⟩ := hrel
  by_cases hlt : k < 8
  ·
   have b1 : decide ((k : Int) < 8) = true := decide_eq_true (by omega)
   have c0 : wr.cell? ⟨w.heap.size, 0, none⟩ = some (.int .u64 hi) := blk_cell HX.out 0
   have c1 : wr.cell? ⟨w.heap.size, 1, none⟩ = some (.int .u64 lo) := blk_cell HX.out 1
   have hf : ∀ i, wr.frozen? ⟨w.heap.size + 1, i, none⟩ = false := fun i => blk_frozen HO.out i
   have p0 : (0 : Int) ≤ (k : Int) := by omega
   have p1 : (k : Int) < 16 := by omega
   have p2 : (k : Int) + 8 < 16 := by omega
   have p3 : (0 : Int) ≤ 56 - 8 * (k : Int) := by omega
   obtain ⟨v0, hv0⟩ : ∃ v, wr.cell? ⟨w.heap.size + 1, k, none⟩ = some v := by
    rw [blk_cell HO.out k, Array.getElem?_eq_getElem (by show k < 16; omega)]; exact ⟨_, rfl⟩
   obtain ⟨v1, hv1⟩ : ∃ v, wr.cell? ⟨w.heap.size + 1, k + 8, none⟩ = some v := by
    rw [blk_cell HO.out (k + 8), Array.getElem?_eq_getElem (by show k + 8 < 16; omega)]; exact ⟨_, rfl⟩
   have h8 := aM' (rowB_step hi lo k hlt)
   go_wp2_with fail
   clear hv0 hv1 hf c0 c1 b1 p0 p1 p2 p3
   go_roundw
   case rel =>
    refine ⟨k + 1, by go_num, by omega, ⟨?_⟩, ⟨?_⟩, ⟨?_⟩⟩
    ·
     rw [← h8.out]
     exact blk_set (blk_set HO.out k _) (k + 8) _
    ·
     exact blk_far (blk_far HX.out (show w.heap.size ≠ w.heap.size + 1 by omega) _) (show w.heap.size ≠ w.heap.size + 1 by omega) _
    ·
     exact below_set (below_set HB.out (Nat.le_add_right _ _)) (Nat.le_add_right _ _)
   case measure => simp [intOf]; omega
  ·
   have b1 : decide ((k : Int) < 8) = false := decide_eq_false (by omega)
   obtain rfl : k = 8 := by omega
   have hcv := run_convert_bytes_arg wr 54 5 Tryd.underlying54 Tryd.underlying5 (w.heap.size + 1) 0 16 16 ((List.range 8).map (halfB hi) ++ (List.range 8).map (halfB lo)) (by simp) (fun i hi16 => by
    rw [Nat.zero_add, blk_cell HO.out i]
    have : i = 0 ∨ i = 1 ∨ i = 2 ∨ i = 3 ∨ i = 4 ∨ i = 5 ∨ i = 6 ∨ i = 7 ∨ i = 8 ∨ i = 9 ∨ i = 10 ∨ i = 11 ∨ i = 12 ∨ i = 13 ∨ i = 14 ∨ i = 15 := by omega
    rcases this with h | h | h | h | h | h | h | h | h | h | h | h | h | h | h | h <;> subst h <;> rfl) 9 Tryd.underlying9
   go_wp2_with fail
   go_ret
   exact ⟨rfl, HB.out⟩
theorem u128_Bytes.calls (a0_0 : Int) (a0_1 : Int) (r : ByteArray) (w : World) (h : u128_Bytes.f a0_0 a0_1 = some r) :
  Calls Tryd.prog 107 #[.agg #[.int .u64 a0_0, .int .u64 a0_1]] w fun e w' => e = .returned (.string r) ∧ Below w.heap.size w w' := by
 cases h
 exact u128Bytes.calls a0_0 a0_1 w
end Go.Proofs.YtijfifphcchbbaaDoor.P
namespace Go.Proofs.YtijfifphcchbbaaDoor.P
open Go.RowKit Go.Proofs.YtijfifphcchbbaaDoorW.PrintWords Go.Proofs.YtijfifphcchbbaaDoorW.PrintLast Go.Proofs.YtijfifphcchbbaaDoorW.PrintMore
set_option linter.unusedVariables false
set_option linter.unusedSimpArgs false
set_option linter.unnecessarySimpa false
theorem dig_l0_step {l r : List Int} {x4 hi lo : Int} (hx : 0 ≤ x4 ∧ x4 < 4) (h0 : 0 ≤ lo) (h1 : lo < 18446744073709551616) (hl : l.length < 1000)
  (h : Ev (fun k => paymasterref01_digits.l0 k (l ++ [lo % 65536]) (x4 + 1) hi (lo / 65536)) r) : Ev (fun k => paymasterref01_digits.l0 k l x4 hi lo) r := by
 refine Ev.step (f := fun k => paymasterref01_digits.l0 k (l ++ [lo % 65536]) (x4 + 1) hi (lo / 65536)) (fun k => ?_) h
 have e1 : Int.tmod lo 65536 = lo % 65536 := Int.tmod_eq_emod_of_nonneg h0
 have e2 : Int.tdiv lo 65536 = lo / 65536 := Int.tdiv_eq_ediv_of_nonneg h0
 rw [paymasterref01_digits.l0, if_pos hx.2, if_pos (by omega), e1, e2, wrap64_id (by omega) (by omega), wrapu64_id (by omega) (by omega)]
theorem dig_l1_step {l r : List Int} {x5 hi lo : Int} (hx : 0 ≤ x5 ∧ x5 < 4) (h0 : 0 ≤ hi) (h1 : hi < 18446744073709551616) (hl : l.length < 1000)
  (h : Ev (fun k => paymasterref01_digits.l1 k (l ++ [hi % 65536]) (x5 + 1) (hi / 65536) lo) r) : Ev (fun k => paymasterref01_digits.l1 k l x5 hi lo) r := by
 refine Ev.step (f := fun k => paymasterref01_digits.l1 k (l ++ [hi % 65536]) (x5 + 1) (hi / 65536) lo) (fun k => ?_) h
 have e1 : Int.tmod hi 65536 = hi % 65536 := Int.tmod_eq_emod_of_nonneg h0
 have e2 : Int.tdiv hi 65536 = hi / 65536 := Int.tdiv_eq_ediv_of_nonneg h0
 rw [paymasterref01_digits.l1, if_pos hx.2, if_pos (by omega), e1, e2, wrap64_id (by omega) (by omega), wrapu64_id (by omega) (by omega)]
def digsI (hi lo : Int) : List Int := [lo % 65536, lo / 65536 % 65536, lo / 65536 / 65536 % 65536, lo / 65536 / 65536 / 65536 % 65536, hi % 65536, hi / 65536 % 65536, hi / 65536 / 65536 % 65536, hi / 65536 / 65536 / 65536 % 65536]
theorem digits_ev (hi lo : Int) (h0 : 0 ≤ hi) (h1 : hi < 18446744073709551616) (l0 : 0 ≤ lo) (l1 : lo < 18446744073709551616) : Ev (fun k => paymasterref01_digits.f k hi lo) (digsI hi lo) := by
 unfold paymasterref01_digits.f
 refine dig_l0_step (by omega) l0 l1 (by simp) ?_
 refine dig_l0_step (by omega) (by omega) (by omega) (by simp) ?_
 refine dig_l0_step (by omega) (by omega) (by omega) (by simp) ?_
 refine dig_l0_step (by omega) (by omega) (by omega) (by simp) ?_
 refine Ev.step (f := fun k => paymasterref01_digits.l1 k ([] ++ [lo % 65536] ++ [lo / 65536 % 65536] ++ [lo / 65536 / 65536 % 65536] ++ [lo / 65536 / 65536 / 65536 % 65536]) 0 hi (lo / 65536 / 65536 / 65536 / 65536)) (fun k => by rw [paymasterref01_digits.l0, if_neg (by decide)]) ?_
 refine dig_l1_step (by omega) h0 h1 (by simp) ?_
 refine dig_l1_step (by omega) (by omega) (by omega) (by simp) ?_
 refine dig_l1_step (by omega) (by omega) (by omega) (by simp) ?_
 refine dig_l1_step (by omega) (by omega) (by omega) (by simp) ?_
 refine Ev.step (f := fun _ => some (digsI hi lo)) (fun k => by rw [paymasterref01_digits.l1, if_neg (by decide)]; rfl) (Ev.now _)
theorem num_hi {l : List Int} {i h lo : Int} {r : Int × Int × Bool} (hi : 4 ≤ i ∧ i < 8) (hl : i < (l.length : Int)) (b0 : 0 ≤ h) (b1 : h < 281474976710656) (d0 : 0 ≤ rd l i) (d1 : rd l i < 65536)
  (k : Ev (fun k => paymasterref01_number.l0 k l (i - 1) (h * 65536 + rd l i) lo) r) : Ev (fun k => paymasterref01_number.l0 k l i h lo) r := by
 refine Ev.step (f := fun k => paymasterref01_number.j1 k l i false h lo) (fun k => by rw [paymasterref01_number.l0, if_pos (by omega), if_neg (by omega)]) ?_
 refine Ev.step (f := fun k => paymasterref01_number.j2 k l i true h lo) (fun k => by rw [paymasterref01_number.j1, if_neg (by decide), if_pos hi.2, decide_eq_true (by omega)]) ?_
 refine Ev.step (f := fun k => paymasterref01_number.l0 k l (i - 1) (h * 65536 + rd l i) lo) (fun k => ?_) k
 rw [paymasterref01_number.j2, if_pos rfl, if_pos (by omega), if_pos hl, if_neg (by omega), wrap64_id (by omega) (by omega), wrapu64_id (x := h * 65536) (by omega) (by omega), wrapu64_id (by omega) (by omega)]
theorem num_lo {l : List Int} {i h lo : Int} {r : Int × Int × Bool} (hi : 0 ≤ i ∧ i < 4) (hl : i < (l.length : Int)) (b0 : 0 ≤ lo) (b1 : lo < 281474976710656) (d0 : 0 ≤ rd l i) (d1 : rd l i < 65536)
  (k : Ev (fun k => paymasterref01_number.l0 k l (i - 1) h (lo * 65536 + rd l i)) r) : Ev (fun k => paymasterref01_number.l0 k l i h lo) r := by
 refine Ev.step (f := fun k => paymasterref01_number.j1 k l i false h lo) (fun k => by rw [paymasterref01_number.l0, if_pos (by omega), if_neg (by omega)]) ?_
 refine Ev.step (f := fun k => paymasterref01_number.j2 k l i false h lo) (fun k => by rw [paymasterref01_number.j1, if_neg (by decide), if_pos (by omega), decide_eq_false (by omega)]) ?_
 refine Ev.step (f := fun k => paymasterref01_number.l0 k l (i - 1) h (lo * 65536 + rd l i)) (fun k => ?_) k
 rw [paymasterref01_number.j2, if_neg (by decide), if_pos (by omega), if_pos (by omega), if_pos hl, wrap64_id (by omega) (by omega), wrapu64_id (x := lo * 65536) (by omega) (by omega), wrapu64_id (by omega) (by omega)]
structure Dig (x : Int) : Prop where
 h0 : 0 ≤ x
 h1 : x < 65536
theorem number_ev (d0 d1 d2 d3 d4 d5 d6 d7 c : Int) (h0 : Dig d0) (h1 : Dig d1) (h2 : Dig d2) (h3 : Dig d3) (h4 : Dig d4) (h5 : Dig d5) (h6 : Dig d6) (h7 : Dig d7) :
  Ev (fun k => paymasterref01_number.f k [d0, d1, d2, d3, d4, d5, d6, d7, c]) (if c = 0 then (((d7 * 65536 + d6) * 65536 + d5) * 65536 + d4, ((d3 * 65536 + d2) * 65536 + d1) * 65536 + d0, true) else (0, 0, false)) := by
 have e8 : rd [d0, d1, d2, d3, d4, d5, d6, d7, c] 8 = c := rfl
 have e7 : rd [d0, d1, d2, d3, d4, d5, d6, d7, c] 7 = d7 := rfl
 have e6 : rd [d0, d1, d2, d3, d4, d5, d6, d7, c] 6 = d6 := rfl
 have e5 : rd [d0, d1, d2, d3, d4, d5, d6, d7, c] 5 = d5 := rfl
 have e4 : rd [d0, d1, d2, d3, d4, d5, d6, d7, c] 4 = d4 := rfl
 have e3 : rd [d0, d1, d2, d3, d4, d5, d6, d7, c] 3 = d3 := rfl
 have e2 : rd [d0, d1, d2, d3, d4, d5, d6, d7, c] 2 = d2 := rfl
 have e1 : rd [d0, d1, d2, d3, d4, d5, d6, d7, c] 1 = d1 := rfl
 have e0 : rd [d0, d1, d2, d3, d4, d5, d6, d7, c] 0 = d0 := rfl
 obtain ⟨⟨a0, b0⟩, ⟨a1, b1⟩, ⟨a2, b2⟩, ⟨a3, b3⟩, ⟨a4, b4⟩, ⟨a5, b5⟩, ⟨a6, b6⟩, ⟨a7, b7⟩⟩ := And.intro h0 (And.intro h1 (And.intro h2 (And.intro h3 (And.intro h4 (And.intro h5 (And.intro h6 h7))))))
 unfold paymasterref01_number.f
 have ew : wrap64 (([d0, d1, d2, d3, d4, d5, d6, d7, c].length : Int) - 1) = 8 := by rw [wrap64_id] <;> simp
 rw [ew]
 by_cases hc : c = 0
 ·
  rw [if_pos hc]
  refine Ev.step (f := fun k => paymasterref01_number.j1 k [d0, d1, d2, d3, d4, d5, d6, d7, c] 8 false 0 0) (fun k => ?_) ?_
  ·
   rw [paymasterref01_number.l0, if_pos (by omega), if_pos (by omega), if_pos (by omega), if_pos (by simp), e8, hc]; rfl
  refine Ev.step (f := fun k => paymasterref01_number.j2 k [d0, d1, d2, d3, d4, d5, d6, d7, c] 8 false 0 0) (fun k => by rw [paymasterref01_number.j1, if_neg (by decide), if_neg (by decide)]) ?_
  refine Ev.step (f := fun k => paymasterref01_number.l0 k [d0, d1, d2, d3, d4, d5, d6, d7, c] 7 0 0) (fun k => by rw [paymasterref01_number.j2, if_neg (by decide), if_neg (by decide), wrap64_id (by decide) (by decide)]; rfl) ?_
  refine num_hi (by omega) (by simp) (by omega) (by omega) (by rw [e7]; omega) (by rw [e7]; omega) ?_
  rw [e7]
  refine num_hi (by omega) (by simp) (by omega) (by omega) (by simp only [Int.reduceSub]; rw [e6]; omega) (by simp only [Int.reduceSub]; rw [e6]; omega) ?_
  simp only [Int.reduceSub]
  rw [e6]
  refine num_hi (by omega) (by simp) (by omega) (by omega) (by rw [e5]; omega) (by rw [e5]; omega) ?_
  simp only [Int.reduceSub]
  rw [e5]
  refine num_hi (by omega) (by simp) (by omega) (by omega) (by rw [e4]; omega) (by rw [e4]; omega) ?_
  simp only [Int.reduceSub]
  rw [e4]
  refine num_lo (by omega) (by simp) (by omega) (by omega) (by rw [e3]; omega) (by rw [e3]; omega) ?_
  simp only [Int.reduceSub]
  rw [e3]
  refine num_lo (by omega) (by simp) (by omega) (by omega) (by rw [e2]; omega) (by rw [e2]; omega) ?_
  simp only [Int.reduceSub]
  rw [e2]
  refine num_lo (by omega) (by simp) (by omega) (by omega) (by rw [e1]; omega) (by rw [e1]; omega) ?_
  simp only [Int.reduceSub]
  rw [e1]
  refine num_lo (by omega) (by simp) (by omega) (by omega) (by rw [e0]; omega) (by rw [e0]; omega) ?_
  simp only [Int.reduceSub]
  rw [e0]
  refine Ev.step (f := fun _ => some _) (fun k => by rw [paymasterref01_number.l0, if_neg (by decide)]) (ev_eq (Ev.now _) ?_)
  simp only [Int.zero_mul, Int.zero_add]
 ·
  rw [if_neg hc]
  refine Ev.step (f := fun k => paymasterref01_number.j1 k [d0, d1, d2, d3, d4, d5, d6, d7, c] 8 true 0 0) (fun k => ?_) ?_
  ·
   rw [paymasterref01_number.l0, if_pos (by omega), if_pos (by omega), if_pos (by omega), if_pos (by simp), e8, bne_iff_ne.2 hc]
  exact Ev.step (f := fun _ => some (0, 0, false)) (fun k => by rw [paymasterref01_number.j1, if_pos rfl]) (Ev.now _)
theorem add_step {x y l : List Int} {c i : Int} (d e : Int) {r : Int × Int × Int} (hi : 0 ≤ i ∧ i < 8) (hx : x.length = 8) (hy : y.length = 8) (hl : l.length < 1000) (ex : rd x i = d) (ey : rd y i = e) (hd : Dig d) (he : Dig e) (hc : 0 ≤ c ∧ c ≤ 1)
  (k : Ev (fun k => paymasterref01_Add.l0 k x y ((d + e + c) / 65536) (l ++ [(d + e + c) % 65536]) (i + 1)) r) : Ev (fun k => paymasterref01_Add.l0 k x y c l i) r := by
 obtain ⟨a0, b0⟩ := hd
 obtain ⟨a1, b1⟩ := he
 refine Ev.step (f := fun k => paymasterref01_Add.l0 k x y ((d + e + c) / 65536) (l ++ [(d + e + c) % 65536]) (i + 1)) (fun k => ?_) k
 rw [paymasterref01_Add.l0, if_pos hi.2, if_pos hi.1, if_pos (by omega), if_pos (by omega), if_pos (by omega), ex, ey, wrapu64_id (x := d + e) (by omega) (by omega), wrapu64_id (x := d + e + c) (by omega) (by omega), Int.tdiv_eq_ediv_of_nonneg (by omega), Int.tmod_eq_emod_of_nonneg (by omega), wrapu64_id (by omega) (by omega), wrap64_id (by omega) (by omega)]
def addI128 (a0 a1 b0 b1 : Int) : Int × Int × Int :=
 if a0 + b0 + (a1 + b1) / 18446744073709551616 < 18446744073709551616 then (a0 + b0 + (a1 + b1) / 18446744073709551616, (a1 + b1) % 18446744073709551616, 0) else (0, 0, 10)
theorem u128Add_eq (a0 a1 b0 b1 : Int) (ha0 : 0 ≤ a0 ∧ a0 < 18446744073709551616) (ha1 : 0 ≤ a1 ∧ a1 < 18446744073709551616) (hb0 : 0 ≤ b0 ∧ b0 < 18446744073709551616) (hb1 : 0 ≤ b1 ∧ b1 < 18446744073709551616) :
  u128_Add.f a0 a1 b0 b1 = some (addI128 a0 a1 b0 b1) := by
 unfold u128_Add.f addI128
 rw [if_pos ⟨⟨ha0, ha1⟩, hb0, hb1⟩]
 split <;> rfl
theorem dig_mod (x : Int) : Dig (x % 65536) := ⟨by omega, by omega⟩
theorem val4 (x : Int) (h0 : 0 ≤ x) (h1 : x < 18446744073709551616) : ((x / 65536 / 65536 / 65536 % 65536 * 65536 + x / 65536 / 65536 % 65536) * 65536 + x / 65536 % 65536) * 65536 + x % 65536 = x := by omega
theorem refAdd_ev (a0 a1 b0 b1 : Int) (ha0 : 0 ≤ a0 ∧ a0 < 18446744073709551616) (ha1 : 0 ≤ a1 ∧ a1 < 18446744073709551616) (hb0 : 0 ≤ b0 ∧ b0 < 18446744073709551616) (hb1 : 0 ≤ b1 ∧ b1 < 18446744073709551616) :
  Ev (fun k => paymasterref01_Add.f k a0 a1 b0 b1) (addI128 a0 a1 b0 b1) := by
 unfold paymasterref01_Add.f
 refine Ev.bind (digits_ev a0 a1 ha0.1 ha0.2 ha1.1 ha1.2) (Ev.bind (digits_ev b0 b1 hb0.1 hb0.2 hb1.1 hb1.2) ?_)
 have va0 := val4 a0 ha0.1 ha0.2
 have va1 := val4 a1 ha1.1 ha1.2
 have vb0 := val4 b0 hb0.1 hb0.2
 have vb1 := val4 b1 hb1.1 hb1.2
 unfold digsI
 have g0 := dig_mod a1
 have g1 := dig_mod (a1 / 65536)
 have g2 := dig_mod (a1 / 65536 / 65536)
 have g3 := dig_mod (a1 / 65536 / 65536 / 65536)
 have g4 := dig_mod a0
 have g5 := dig_mod (a0 / 65536)
 have g6 := dig_mod (a0 / 65536 / 65536)
 have g7 := dig_mod (a0 / 65536 / 65536 / 65536)
 have k0 := dig_mod b1
 have k1 := dig_mod (b1 / 65536)
 have k2 := dig_mod (b1 / 65536 / 65536)
 have k3 := dig_mod (b1 / 65536 / 65536 / 65536)
 have k4 := dig_mod b0
 have k5 := dig_mod (b0 / 65536)
 have k6 := dig_mod (b0 / 65536 / 65536)
 have k7 := dig_mod (b0 / 65536 / 65536 / 65536)
 generalize a1 % 65536 = x0 at *
 generalize a1 / 65536 % 65536 = x1 at *
 generalize a1 / 65536 / 65536 % 65536 = x2 at *
 generalize a1 / 65536 / 65536 / 65536 % 65536 = x3 at *
 generalize a0 % 65536 = x4 at *
 generalize a0 / 65536 % 65536 = x5 at *
 generalize a0 / 65536 / 65536 % 65536 = x6 at *
 generalize a0 / 65536 / 65536 / 65536 % 65536 = x7 at *
 generalize b1 % 65536 = y0 at *
 generalize b1 / 65536 % 65536 = y1 at *
 generalize b1 / 65536 / 65536 % 65536 = y2 at *
 generalize b1 / 65536 / 65536 / 65536 % 65536 = y3 at *
 generalize b0 % 65536 = y4 at *
 generalize b0 / 65536 % 65536 = y5 at *
 generalize b0 / 65536 / 65536 % 65536 = y6 at *
 generalize b0 / 65536 / 65536 / 65536 % 65536 = y7 at *
 have step : ∀ c d e : Int, Dig d → Dig e → 0 ≤ c ∧ c ≤ 1 → 0 ≤ (d + e + c) / 65536 ∧ (d + e + c) / 65536 ≤ 1 := fun c d e hd he hc => by have := hd.1; have := hd.2; have := he.1; have := he.2; omega
 have s0 : (0 : Int) ≤ 0 ∧ (0 : Int) ≤ 1 := by omega
 have s1 := step 0 x0 y0 g0 k0 s0
 have s2 := step _ x1 y1 g1 k1 s1
 have s3 := step _ x2 y2 g2 k2 s2
 have s4 := step _ x3 y3 g3 k3 s3
 have s5 := step _ x4 y4 g4 k4 s4
 have s6 := step _ x5 y5 g5 k5 s5
 have s7 := step _ x6 y6 g6 k6 s6
 refine add_step x0 y0 (by omega) rfl rfl (by simp) rfl rfl g0 k0 s0 ?_
 refine add_step x1 y1 (by omega) rfl rfl (by simp) rfl rfl g1 k1 s1 ?_
 refine add_step x2 y2 (by omega) rfl rfl (by simp) rfl rfl g2 k2 s2 ?_
 refine add_step x3 y3 (by omega) rfl rfl (by simp) rfl rfl g3 k3 s3 ?_
 refine add_step x4 y4 (by omega) rfl rfl (by simp) rfl rfl g4 k4 s4 ?_
 refine add_step x5 y5 (by omega) rfl rfl (by simp) rfl rfl g5 k5 s5 ?_
 refine add_step x6 y6 (by omega) rfl rfl (by simp) rfl rfl g6 k6 s6 ?_
 refine add_step x7 y7 (by omega) rfl rfl (by simp) rfl rfl g7 k7 s7 ?_
 clear step
 refine Ev.step (f := fun k => _) (fun k => by rw [paymasterref01_Add.l0, if_neg (by decide), if_pos (by simp)]) ?_
 refine Ev.bind (number_ev _ _ _ _ _ _ _ _ _ (dig_mod _) (dig_mod _) (dig_mod _) (dig_mod _) (dig_mod _) (dig_mod _) (dig_mod _) (dig_mod _)) ?_
 have qr : ∀ n : Int, ∃ q m : Int, n / 65536 = q ∧ n % 65536 = m ∧ n = q * 65536 + m ∧ 0 ≤ m ∧ m < 65536 := fun n => ⟨_, _, rfl, rfl, by omega, by omega, by omega⟩
 obtain ⟨q0, m0, hq0, hm0, e0, l0, u0⟩ := qr (x0 + y0 + 0)
 simp only [hq0, hm0] at s1 s2 s3 s4 s5 s6 s7 ⊢
 clear hq0 hm0
 obtain ⟨q1, m1, hq1, hm1, e1, l1, u1⟩ := qr (x1 + y1 + q0)
 simp only [hq1, hm1] at s2 s3 s4 s5 s6 s7 ⊢
 clear hq1 hm1
 obtain ⟨q2, m2, hq2, hm2, e2, l2, u2⟩ := qr (x2 + y2 + q1)
 simp only [hq2, hm2] at s3 s4 s5 s6 s7 ⊢
 clear hq2 hm2
 obtain ⟨q3, m3, hq3, hm3, e3, l3, u3⟩ := qr (x3 + y3 + q2)
 simp only [hq3, hm3] at s4 s5 s6 s7 ⊢
 clear hq3 hm3
 obtain ⟨q4, m4, hq4, hm4, e4, l4, u4⟩ := qr (x4 + y4 + q3)
 simp only [hq4, hm4] at s5 s6 s7 ⊢
 clear hq4 hm4
 obtain ⟨q5, m5, hq5, hm5, e5, l5, u5⟩ := qr (x5 + y5 + q4)
 simp only [hq5, hm5] at s6 s7 ⊢
 clear hq5 hm5
 obtain ⟨q6, m6, hq6, hm6, e6, l6, u6⟩ := qr (x6 + y6 + q5)
 simp only [hq6, hm6] at s7 ⊢
 clear hq6 hm6
 obtain ⟨q7, m7, hq7, hm7, e7, l7, u7⟩ := qr (x7 + y7 + q6)
 simp only [hq7, hm7]
 clear hq7 hm7
 have hq70 : 0 ≤ q7 := by have := g7.h0; have := k7.h0; omega
 have hlo : a1 + b1 = q3 * 18446744073709551616 + (((m3 * 65536 + m2) * 65536 + m1) * 65536 + m0) := by omega
 have hhi : a0 + b0 + q3 = q7 * 18446744073709551616 + (((m7 * 65536 + m6) * 65536 + m5) * 65536 + m4) := by omega
 have hL : 0 ≤ ((m3 * 65536 + m2) * 65536 + m1) * 65536 + m0 ∧ ((m3 * 65536 + m2) * 65536 + m1) * 65536 + m0 < 18446744073709551616 := by omega
 have hH : 0 ≤ ((m7 * 65536 + m6) * 65536 + m5) * 65536 + m4 ∧ ((m7 * 65536 + m6) * 65536 + m5) * 65536 + m4 < 18446744073709551616 := by omega
 generalize ((m3 * 65536 + m2) * 65536 + m1) * 65536 + m0 = L at *
 generalize ((m7 * 65536 + m6) * 65536 + m5) * 65536 + m4 = H at *
 have h4 : (a1 + b1) / 18446744073709551616 = q3 := by omega
 have h5 : (a1 + b1) % 18446744073709551616 = L := by omega
 clear hlo e0 e1 e2 e3 e4 e5 e6 e7 va0 va1 vb0 vb1 s0 s1 s2 s3 s4 s5 s6 s7 l0 l1 l2 l3 l4 l5 l6 l7 u0 u1 u2 u3 u4 u5 u6 u7
 unfold addI128
 rw [h4, h5]
 clear h4 h5
 by_cases hq : q7 = 0
 ·
  have hs : a0 + b0 + q3 = H := by rw [hhi, hq]; omega
  rw [hs, if_pos hH.2]
  exact Ev.some_ (fun k => by simp [hq])
 ·
  have hs : ¬ a0 + b0 + q3 < 18446744073709551616 := by omega
  rw [if_neg hs]
  exact Ev.some_ (fun k => by simp [hq])
theorem bytes_step {x l : List Int} {i : Int} {r : ByteArray} (hi : 0 ≤ i ∧ i < 8) (hx : x.length = 8) (hl : l.length < 1000) (d : Int) (ex : rd x i = d) (hd : Dig d)
  (k : Ev (fun k => paymasterref01_Bytes.l0 k x (l ++ [d / 256, d % 256]) (i - 1)) r) : Ev (fun k => paymasterref01_Bytes.l0 k x l i) r := by
 obtain ⟨a0, b0⟩ := hd
 refine Ev.step (f := fun k => paymasterref01_Bytes.l0 k x (l ++ [d / 256, d % 256]) (i - 1)) (fun k => ?_) k
 rw [paymasterref01_Bytes.l0, if_pos (by omega), if_pos hi.1, if_pos (by omega), ex, Int.tdiv_eq_ediv_of_nonneg (by omega), Int.tmod_eq_emod_of_nonneg (by omega), wrapu64_id (by omega) (by omega)]
 simp only [Option.bind_some]
 rw [if_pos (by simp; omega), wrap64_id (by omega) (by omega), show d / 256 % 256 = d / 256 by omega, show d % 256 % 256 = d % 256 by omega]
theorem refBytes_ev (hi lo : Int) (h0 : 0 ≤ hi ∧ hi < 18446744073709551616) (l0 : 0 ≤ lo ∧ lo < 18446744073709551616) : Ev (fun k => paymasterref01_Bytes.f k hi lo) (u128B hi lo) := by
 unfold paymasterref01_Bytes.f
 refine Ev.bind (digits_ev hi lo h0.1 h0.2 l0.1 l0.2) ?_
 unfold digsI
 refine bytes_step (by omega) rfl (by simp) (hi / 65536 / 65536 / 65536 % 65536) rfl (dig_mod _) ?_
 refine bytes_step (by omega) rfl (by simp) (hi / 65536 / 65536 % 65536) rfl (dig_mod _) ?_
 refine bytes_step (by omega) rfl (by simp) (hi / 65536 % 65536) rfl (dig_mod _) ?_
 refine bytes_step (by omega) rfl (by simp) (hi % 65536) rfl (dig_mod _) ?_
 refine bytes_step (by omega) rfl (by simp) (lo / 65536 / 65536 / 65536 % 65536) rfl (dig_mod _) ?_
 refine bytes_step (by omega) rfl (by simp) (lo / 65536 / 65536 % 65536) rfl (dig_mod _) ?_
 refine bytes_step (by omega) rfl (by simp) (lo / 65536 % 65536) rfl (dig_mod _) ?_
 refine bytes_step (by omega) rfl (by simp) (lo % 65536) rfl (dig_mod _) ?_
 refine Ev.step (f := fun _ => some _) (fun k => by rw [paymasterref01_Bytes.l0, if_neg (by decide)]) (ev_eq (Ev.now _) ?_)
 unfold u128B
 congr 1
 simp only [List.range, List.range.loop, List.map_cons, List.map_nil, List.nil_append, List.cons_append, halfB, Nat.reduceMul, Nat.reduceSub, Int.reducePow, List.cons.injEq, and_true]
 refine ⟨?_, ?_, ?_, ?_, ?_, ?_, ?_, ?_, ?_, ?_, ?_, ?_, ?_, ?_, ?_, ?_⟩ <;> omega
theorem u128B_size (hi lo : Int) : (u128B hi lo).size = 16 := by rw [u128B, strOfNums_size]; rfl
theorem u128Bytes_eq (hi lo : Int) : u128_Bytes.f hi lo = some (u128B hi lo) := rfl
end Go.Proofs.YtijfifphcchbbaaDoor.P
namespace Go.Proofs.YtijfifphcchbbaaDoor.P
open Go.RowKit Go.Proofs.YtijfifphcchbbaaDoorW.PrintWords Go.Proofs.YtijfifphcchbbaaDoorW.PrintLast Go.Proofs.YtijfifphcchbbaaDoorW.PrintMore
set_option linter.unusedVariables false
set_option linter.unusedSimpArgs false
set_option linter.unnecessarySimpa false
def nodeOf (w : Int) (n : SNode) : Bool := decide (1 ≤ w) && (decide (w ≤ 32) && ((n.f0.size : Int) == w))
theorem node_Of_eq (w : Int) (n : SNode) : node_Of.f w n.f0 n.f1.f0 n.f1.f1 = some (nodeOf w n) := by
 unfold node_Of.f nodeOf
 by_cases h1 : w ≥ 1
 ·
  by_cases h2 : w ≤ 32
  ·
   rw [if_pos h1, if_pos h2]
   have h1' : 1 ≤ w := h1
   simp [h1', h2]
  ·
   rw [if_pos h1, if_neg h2]; simp [h2]
 ·
  rw [if_neg h1]
  have h1' : ¬ 1 ≤ w := h1
  simp [h1']
theorem ref14Of_eq (w : Int) (n : SNode) : paymasterref14_Of.f w n.f0 n.f1.f0 n.f1.f1 = some (nodeOf w n) := by
 rw [← node_Of_eq]; rfl
theorem rdNode_nat (l : List SNode) (i : Nat) (h : i < l.length) : rd_TNode l (i : Int) = l[i] := by simp [rd_TNode, h]
theorem great14_loop (l : List SNode) (hl : l.length ≤ 9223372036854775807) : ∀ d i : Nat, i + d = l.length → Ev (fun k => paymasterlaw14_Great.l0 k l (i : Int)) ((l.drop i).any fun n => decide (60 < n.f0.size)) := by
 intro d
 induction d with
 | zero =>
  intro i hi
  refine Ev.step (f := fun _ => some false) (fun k => ?_) (ev_eq (Ev.now false) ?_)
  ·
   simp only [paymasterlaw14_Great.l0]; rw [if_neg (by omega)]
  ·
   rw [List.drop_of_length_le (by omega)]; rfl
 | succ d ih =>
  intro i hi
  have hlt : i < l.length := by omega
  rw [any_drop_succ _ l i hlt]
  by_cases hb : 60 < l[i].f0.size
  ·
   refine Ev.step (f := fun _ => some true) (fun k => ?_) (ev_eq (Ev.now true) (by simp [hb]))
   simp only [paymasterlaw14_Great.l0]; rw [if_pos (by omega), if_pos (by omega), rdNode_nat l i hlt, if_pos (by omega)]
  ·
   refine Ev.step (f := fun k => paymasterlaw14_Great.l0 k l ((i + 1 : Nat) : Int)) (fun k => ?_) (ev_eq (ih (i + 1) (by omega)) (by simp [hb]))
   simp only [paymasterlaw14_Great.l0]; rw [if_pos (by omega), if_pos (by omega), rdNode_nat l i hlt, if_neg (by omega), wrap64_id (by omega) (by omega)]; rfl
def greatN (l : List SNode) : Bool := decide (300 < l.length) || l.any fun n => decide (60 < n.f0.size)
theorem great14_ev (l : List SNode) (hl : l.length ≤ 9223372036854775807) : Ev (fun k => paymasterlaw14_Great.f k l) (greatN l) := by
 unfold paymasterlaw14_Great.f greatN
 by_cases h : 300 < l.length
 ·
  exact Ev.some_ (fun k => by rw [if_pos (by omega)]; simp [h])
 ·
  refine Ev.congr (fun k => by rw [if_neg (by omega)]; rfl) (ev_eq (great14_loop l hl l.length 0 (by omega)) (by simp [h]))
end Go.Proofs.YtijfifphcchbbaaDoor.P
namespace Go.Proofs.YtijfifphcchbbaaDoor.P
open Go.RowKit Go.Proofs.YtijfifphcchbbaaDoorW.PrintWords Go.Proofs.YtijfifphcchbbaaDoorW.PrintLast Go.Proofs.YtijfifphcchbbaaDoorW.PrintMore
set_option linter.unusedVariables false
set_option linter.unusedSimpArgs false
set_option linter.unnecessarySimpa false
def sel (b : Bool) (v u : Value) : Value := match b with | true => v | false => u
theorem sel_true (v u : Value) : sel true v u = v := rfl
def rgNeeds (o : Oper) : List Nat := (o.after.toList.filter (fun e => Region.binds .any e)).map (fun e => e.on)
def rgOrd (ops : Array Oper) : Bool := (List.range ops.size).all fun i => match ops[i]? with
 | some o => (rgNeeds o).all (fun j => decide (j < i))
 | none => true
def upd (l : Nat → Bool) (i : Nat) : Nat → Bool := fun j => if j = i then true else l j
def rgUndone (n : Nat) (l : Nat → Bool) : Nat := (List.range n).countP (fun j => !l j)
theorem rgUndone_zero {n : Nat} {l : Nat → Bool} (h : rgUndone n l = 0) : ∀ i, i < n → l i = true := by
 intro i hi
 have := List.countP_eq_zero.1 h i (List.mem_range.2 hi)
 simpa using this
theorem countP_upd (l : Nat → Bool) (i : Nat) (hl : l i = false) : ∀ L : List Nat, L.Nodup → i ∈ L → L.countP (fun j => !upd l i j) + 1 = L.countP (fun j => !l j)
 | [], _, h => absurd h (List.not_mem_nil)
 | x :: L, hn, h => by
  rw [List.countP_cons, List.countP_cons]
  by_cases e : x = i
  ·
   subst e
   have hx : x ∉ L := (List.nodup_cons.1 hn).1
   have e1 : L.countP (fun j => !upd l x j) = L.countP (fun j => !l j) := by
    refine List.countP_congr (fun j hj => ?_)
    have : j ≠ x := fun e => hx (e ▸ hj)
    simp [upd, this]
   rw [e1]; simp [upd, hl]
  ·
   have := countP_upd l i hl L (List.nodup_cons.1 hn).2 ((List.mem_cons.1 h).resolve_left (fun e' => e e'.symm))
   have e2 : upd l i x = l x := by simp [upd, e]
   rw [e2]; omega
theorem rgUndone_upd {n i : Nat} {l : Nat → Bool} (hi : i < n) (hl : l i = false) : rgUndone n (upd l i) + 1 = rgUndone n l := countP_upd l i hl _ List.nodup_range (List.mem_range.2 hi)
section
variable {P : Program} {ops : Array Oper} {Q : Exit → Act → World → Prop}
def StepAt (P : Program) (ops : Array Oper) (Q : Exit → Act → World → Prop) (I : (Nat → Bool) → Act → World → Prop) (i : Nat) : Prop :=
 ∀ o, ops[i]? = some o → ∀ l a w, I l a w → l i = false → (∀ j ∈ rgNeeds o, l j = true) → if Region.wanted o (yielded ops a.tmps) = true then o.wp P a w (fun a' w' => I (upd l i) a' w') Q else I (upd l i) (a.put o.dst undef) w
theorem rg_any (I : (Nat → Bool) → Act → World → Prop) (hord : rgOrd ops = true) (hstep : ∀ i, i < ops.size → StepAt P ops Q I i) (hend : ∀ l a w, I l a w → (∀ i, i < ops.size → l i = true) → Q .normal a w) :
  ∀ (fuel : Nat) (arr : Array Bool) (a : Act) (w : World), arr.size = ops.size → I (fun j => arr.getD j false) a w → rgUndone ops.size (fun j => arr.getD j false) ≤ fuel → wpAny P .any ops Q fuel arr a w := by
 have hready : ∀ arr : Array Bool, arr.size = ops.size → Region.ready .any ops arr = [] → ∀ i, i < ops.size → arr.getD i false = true := by
  intro arr hs hr i
  induction i using Nat.strongRecOn with
  | ind i ih =>
   intro hi
   cases hb : arr.getD i false with
   | true => rfl
   | false =>
    exfalso
    have ho : ops[i]? = some ops[i] := Array.getElem?_eq_getElem hi
    have hall : (rgNeeds ops[i]).all (fun j => decide (j < i)) = true := by
     have := List.all_eq_true.1 hord i (List.mem_range.2 hi)
     simp only [ho] at this
     exact this
    have hmem : i ∈ Region.ready .any ops arr := by
     unfold Region.ready
     rw [List.mem_filter]
     refine ⟨List.mem_range.2 hi, ?_⟩
     have h1 : arr.getD i true = false := by
      simp only [Array.getD_eq_getD_getElem?] at hb ⊢
      rw [Array.getElem?_eq_getElem (by omega)] at hb ⊢
      simpa using hb
     simp only [h1, Bool.not_false, Bool.true_and, ho, Option.map_some, Option.getD_some]
     rw [← Array.all_toList, List.all_eq_true]
     intro e he
     cases hbd : Region.binds .any e with
     | false => rfl
     | true =>
      have hj : e.on ∈ rgNeeds ops[i] := List.mem_map.2 ⟨e, List.mem_filter.2 ⟨he, hbd⟩, rfl⟩
      have hlt : e.on < i := by simpa using List.all_eq_true.1 hall e.on hj
      rw [ih e.on hlt (by omega)]; rfl
    rw [hr] at hmem
    exact absurd hmem (List.not_mem_nil)
 intro fuel
 induction fuel with
 | zero =>
  intro arr a w hs hI hu
  have hd := rgUndone_zero (Nat.le_zero.1 hu)
  refine ⟨?_, hend _ a w hI hd⟩
  unfold Region.ready
  rw [List.filter_eq_nil_iff]
  intro i hi
  have h1 := hd i (List.mem_range.1 hi)
  have h2 : arr.getD i true = true := by
   have hlt := List.mem_range.1 hi
   simp only [Array.getD_eq_getD_getElem?] at h1 ⊢
   rw [Array.getElem?_eq_getElem (by omega)] at h1 ⊢
   simpa using h1
  simp [h2]
 | succ fuel ih =>
  intro arr a w hs hI hu
  refine ⟨fun hr => hend _ a w hI (hready arr hs hr), fun i hi => ?_⟩
  unfold Region.ready at hi
  rw [List.mem_filter] at hi
  obtain ⟨hir, hi2⟩ := hi
  have hlt := List.mem_range.1 hir
  have ho : ops[i]? = some ops[i] := Array.getElem?_eq_getElem hlt
  simp only [ho, Option.map_some, Option.getD_some, Bool.and_eq_true, Bool.not_eq_true'] at hi2
  have hb : arr.getD i false = false := by
   have h1 := hi2.1
   simp only [Array.getD_eq_getD_getElem?] at h1 ⊢
   rw [Array.getElem?_eq_getElem (by omega)] at h1 ⊢
   simpa using h1
  have hn : ∀ j ∈ rgNeeds ops[i], arr.getD j false = true := by
   intro j hj
   obtain ⟨e, he, rfl⟩ := List.mem_map.1 hj
   obtain ⟨he1, he2⟩ := List.mem_filter.1 he
   have h3 := hi2.2
   rw [← Array.all_toList, List.all_eq_true] at h3
   have := h3 e he1
   rw [he2] at this
   simpa using this
  have hst := hstep i hlt _ ho _ a w hI hb hn
  have hK : ∀ a' w', I (upd (fun j => arr.getD j false) i) a' w' → wpAny P .any ops Q fuel (arr.setIfInBounds i true) a' w' := by
   intro a' w' h'
   have e : (fun j => (arr.setIfInBounds i true).getD j false) = upd (fun j => arr.getD j false) i := by
    funext j
    unfold upd
    simp only [Array.getD_eq_getD_getElem?]
    by_cases e : j = i
    ·
     subst e
     rw [if_pos rfl, Array.getElem?_setIfInBounds_self_of_lt (by omega)]; rfl
    ·
     rw [if_neg e, Array.getElem?_setIfInBounds_ne (fun h => e h.symm)]
   refine ih _ a' w' (by simpa using hs) (by rw [e]; exact h') ?_
   rw [e]
   have := rgUndone_upd (l := fun j => arr.getD j false) hlt hb
   omega
  unfold wpOp
  rw [ho]
  dsimp only
  split
  ·
   rename_i hw
   rw [if_pos hw] at hst
   exact .inl (Oper.wp_mono hK hst)
  ·
   rename_i hw
   rw [if_neg hw] at hst
   exact hK _ _ hst
theorem region_inv {id : Nat} {a : Act} {w : World} (I : (Nat → Bool) → Act → World → Prop) (n : Nat) (hm : P.follows .mixedOrders = true) (hn : ops.size = n) (hord : rgOrd ops = true) (h0 : I (fun _ => false) a w.drew)
  (hend : ∀ l a w, I l a w → (∀ i, i < n → l i = true) → Q .normal a w) (hstep : ∀ i, i < n → StepAt P ops Q I i) : (Code.region id ops true).wp P Q a w := by
 subst hn
 refine wp_region_any hm (rg_any I hord hstep hend ops.size _ a _ (by simp) ?_ ?_)
 ·
  have e : (fun j => (Array.replicate ops.size false).getD j false) = fun _ => false := by
   funext j
   simp only [Array.getD_eq_getD_getElem?, Array.getElem?_replicate]
   split <;> rfl
  rw [e]; exact h0
 ·
  unfold rgUndone
  have := List.countP_le_length (p := fun j => !(Array.replicate ops.size false).getD j false) (l := List.range ops.size)
  simpa using this
theorem rg_cons {p : Nat → Prop} {n : Nat} (h : ∀ i, i < n → p i) (hn : p n) : ∀ i, i < n + 1 → p i := fun i hi => by
 by_cases e : i = n
 ·
  subst e; exact hn
 ·
  exact h i (by omega)
theorem rg_nil {p : Nat → Prop} : ∀ i, i < 0 → p i := fun i hi => absurd hi (Nat.not_lt_zero _)
theorem rg_step {I : (Nat → Bool) → Act → World → Prop} {i : Nat} {oi : Oper} (hi : ops[i]? = some oi)
  (h : ∀ l a w, I l a w → l i = false → (∀ j ∈ rgNeeds oi, l j = true) → if Region.wanted oi (yielded ops a.tmps) = true then oi.wp P a w (fun a' w' => I (upd l i) a' w') Q else I (upd l i) (a.put oi.dst undef) w) : StepAt P ops Q I i := by
 intro o ho
 rw [hi] at ho
 cases ho
 exact h
theorem rg_val {K : Act → World → Prop} {oi : Oper} {a : Act} {w w' : World} {v : Value} (hw : Region.wanted oi (yielded ops a.tmps) = true) (hrun : (execOp a.eval oi).run P w = .ok (.value v) w') (hK : K (a.put oi.dst v) w') :
  if Region.wanted oi (yielded ops a.tmps) = true then oi.wp P a w K Q else K (a.put oi.dst undef) w := by
 rw [if_pos hw]; unfold Oper.wp; rw [hrun]; exact hK
theorem rg_call {K : Act → World → Prop} {oi : Oper} {a : Act} {w : World} {f : FuncId} {args : Array Value} (hw : Region.wanted oi (yielded ops a.tmps) = true) (hrun : (execOp a.eval oi).run P w = .ok (.enter f args) w)
  (h : Calls P f args w fun e w' => ∃ v, e = .returned v ∧ K (a.put oi.dst v) w') :
  if Region.wanted oi (yielded ops a.tmps) = true then oi.wp P a w K Q else K (a.put oi.dst undef) w := by
 rw [if_pos hw]; unfold Oper.wp; rw [hrun]
 exact h.mono fun e w' ⟨v, he, hk⟩ => by subst he; exact hk
end
end Go.Proofs.YtijfifphcchbbaaDoor.P
namespace Go.Proofs.YtijfifphcchbbaaDoor.P
open Go.RowKit Go.Proofs.YtijfifphcchbbaaDoorW.PrintWords Go.Proofs.YtijfifphcchbbaaDoorW.PrintLast Go.Proofs.YtijfifphcchbbaaDoorW.PrintMore
set_option linter.unusedVariables false
set_option linter.unusedSimpArgs false
set_option linter.unnecessarySimpa false
attribute [local go_sem] sel_true
def nodeText (l r : SNode) : ByteArray := (⟨#[1]⟩ : ByteArray) ++ l.f0 ++ u128B l.f1.f0 l.f1.f1 ++ r.f0 ++ u128B r.f1.f0 r.f1.f1
theorem nodeText_size (l r : SNode) : (nodeText l r).size = 33 + l.f0.size + r.f0.size := by
 simp only [nodeText, ByteArray.size_append, u128B_size]
 show 1 + _ + _ + _ + _ = _
 omega
structure NtS (w W : World) (l r : SNode) : Prop where
 hB : Below w.heap.size w W
 h0 : W.heap[w.heap.size]? = some (.cells #[.string l.f0, .int .u64 l.f1.f0, .int .u64 l.f1.f1] 28 (0, 0))
 h1 : W.heap[w.heap.size + 1]? = some (.cells #[.string r.f0, .int .u64 r.f1.f0, .int .u64 r.f1.f1] 28 (0, 0))
theorem NtS.below {w W W' : World} {l r : SNode} (h : NtS w W l r) (hb : Below W.heap.size W W') : NtS w W' l r := ⟨h.hB.trans (hb.mono h.hB.size), blk_below h.h0 hb, blk_below h.h1 hb⟩
set_option maxRecDepth 100000 in
set_option maxHeartbeats 2000000 in
theorem nodeText.calls (l r : SNode) (hl : l.f0.size ≤ 1000000) (hr : r.f0.size ≤ 1000000) (w : World) :
  Calls Tryd.prog 64 #[.agg #[.string l.f0, .int .u64 l.f1.f0, .int .u64 l.f1.f1], .agg #[.string r.f0, .int .u64 r.f1.f0, .int .u64 r.f1.f1]] w fun e w' => e = .returned (.string (nodeText l r)) ∧ Below w.heap.size w w' := by
 have HL := aM' hl
 have HR := aM' hr
 have HT := aM' (show nodeText l r = (⟨#[1]⟩ : ByteArray) ++ l.f0 ++ u128B l.f1.f0 l.f1.f1 ++ r.f0 ++ u128B r.f1.f0 r.f1.f1 from rfl)
 have hz1 : ByteArray.size (⟨#[1]⟩ : ByteArray) = 1 := rfl
 have HZ := aM' hz1
 clear hl hr hz1
 obtain ⟨bl, hbl⟩ : ∃ b, b = u128B l.f1.f0 l.f1.f1 := ⟨_, rfl⟩
 obtain ⟨br, hbr⟩ : ∃ b, b = u128B r.f1.f0 r.f1.f1 := ⟨_, rfl⟩
 have HBl := aM' (show bl.size = 16 by rw [hbl, u128B_size])
 have HBr := aM' (show br.size = 16 by rw [hbr, u128B_size])
 have HFl := aM' (show u128_Bytes.f l.f1.f0 l.f1.f1 = some bl by rw [hbl]; exact u128Bytes_eq _ _)
 have HFr := aM' (show u128_Bytes.f r.f1.f0 r.f1.f1 = some br by rw [hbr]; exact u128Bytes_eq _ _)
 rw [← hbl, ← hbr] at HT
 clear hbl hbr
 go_enter Tryd.func64, Tryd.ntmps64
 go_wp2
 have HS := aM' (show NtS w ((w.alloc (.cells #[.string l.f0, .int .u64 l.f1.f0, .int .u64 l.f1.f1] 28)).alloc (.cells #[.string r.f0, .int .u64 r.f1.f0, .int .u64 r.f1.f1] 28)) l r from
  ⟨below_alloc (below_alloc (Below.refl _ _) _) _, blk_alloc (blk_new w _) _, by have := blk_new (w.alloc (.cells #[.string l.f0, .int .u64 l.f1.f0, .int .u64 l.f1.f1] 28)) (.cells #[.string r.f0, .int .u64 r.f1.f0, .int .u64 r.f1.f1] 28); rwa [World.size_alloc] at this⟩)
 refine region_inv (fun l_ a W => ∃ γ : Nat, a = ({ tmps := #[.agg #[.string l.f0, .int .u64 l.f1.f0, .int .u64 l.f1.f1], .agg #[.string r.f0, .int .u64 r.f1.f0, .int .u64 r.f1.f1], .pointer (some ⟨w.heap.size, 0, none⟩), .pointer (some ⟨w.heap.size + 1, 0, none⟩), sel (l_ 16) (.string ((⟨#[1]⟩ : ByteArray) ++ l.f0 ++ bl ++ r.f0 ++ br)) (.string ⟨#[]⟩), sel (l_ 0) (.slice (some ⟨γ, 0, none⟩) 1 1) (undef), sel (l_ 1) (.string (⟨#[1]⟩ : ByteArray)) (undef), sel (l_ 2) (.pointer (some ⟨w.heap.size, 0, none⟩)) (undef), sel (l_ 3) (.string l.f0) (undef), sel (l_ 4) (.string ((⟨#[1]⟩ : ByteArray) ++ l.f0)) (undef), sel (l_ 5) (.pointer (some ⟨w.heap.size, 1, none⟩)) (undef), sel (l_ 6) (.agg #[.int .u64 l.f1.f0, .int .u64 l.f1.f1]) (undef), sel (l_ 7) (.string bl) (undef), sel (l_ 8) (.string ((⟨#[1]⟩ : ByteArray) ++ l.f0 ++ bl)) (undef), sel (l_ 9) (.pointer (some ⟨w.heap.size + 1, 0, none⟩)) (undef), sel (l_ 10) (.string r.f0) (undef), sel (l_ 11) (.string ((⟨#[1]⟩ : ByteArray) ++ l.f0 ++ bl ++ r.f0)) (undef), sel (l_ 12) (.pointer (some ⟨w.heap.size + 1, 1, none⟩)) (undef), sel (l_ 13) (.agg #[.int .u64 r.f1.f0, .int .u64 r.f1.f1]) (undef), sel (l_ 14) (.string br) (undef), sel (l_ 15) (.string ((⟨#[1]⟩ : ByteArray) ++ l.f0 ++ bl ++ r.f0 ++ br)) (undef)], defers := [] } : Act) ∧ (NtS w W l r ∧ (l_ 0 = true → W.heap[γ]? = some (.cells #[.int .u8 1] 5 (0, 0))))) 17 rfl rfl (by kernel_rfl) ?h0 ?hend ?hstep
 case h0 => exact ⟨0, rfl, HS.out.below (below_drew (Below.refl _ _)), fun h => by cases h⟩
 case hstep =>
  refine rg_cons (rg_cons (rg_cons (rg_cons (rg_cons (rg_cons (rg_cons (rg_cons (rg_cons (rg_cons (rg_cons (rg_cons (rg_cons (rg_cons (rg_cons (rg_cons (rg_cons (rg_nil) ?s0) ?s1) ?s2) ?s3) ?s4) ?s5) ?s6) ?s7) ?s8) ?s9) ?s10) ?s11) ?s12) ?s13) ?s14) ?s15) ?s16
  case s0 =>
   refine rg_step rfl ?_
   rintro l_ a W ⟨γ, rfl, hI⟩ hl hd
   clear hd
   refine rg_val (v := .slice (some ⟨W.heap.size, 0, none⟩) 1 1) (w' := W.alloc (.cells #[.int .u8 1] 5)) rfl (by go_simp) ?_
   refine ⟨W.heap.size, ?_, ?_⟩
   ·
    simp only [Act.put, List.setIfInBounds_toArray, List.set_cons_zero, List.set_cons_succ]; rfl
   ·
    exact ⟨hI.1.below (below_alloc (Below.refl _ _) _), fun _ => blk_new W _⟩
  case s1 =>
   refine rg_step rfl ?_
   rintro l_ a W ⟨γ, rfl, hI⟩ hl hd
   have d0 := hd 0 (by decide)
   clear hd
   have y0 := blk_cell (hI.2 d0) 0
   simp at y0
   refine rg_val (v := .string (⟨#[1]⟩ : ByteArray)) (w' := W) rfl ?_ ?_
   ·
    have hcv := run_convert_bytes_arg (P := Tryd.prog) (w := W) 54 5 Tryd.underlying54 Tryd.underlying5 γ 0 1 1 [1] rfl (fun i hi => by obtain rfl : i = 0 := (by omega); exact y0) 9 Tryd.underlying9
    rw [show strOfNums [1] = (⟨#[1]⟩ : ByteArray) from rfl] at hcv
    go_simp
   refine ⟨γ, ?_, ?_⟩
   ·
    simp only [Act.put, List.setIfInBounds_toArray, List.set_cons_zero, List.set_cons_succ]; rfl
   ·
    exact hI
  case s2 =>
   refine rg_step rfl ?_
   rintro l_ a W ⟨γ, rfl, hI⟩ hl hd
   clear hd
   refine rg_val (v := .pointer (some ⟨w.heap.size, 0, none⟩)) (w' := W) rfl (by go_simp) ?_
   refine ⟨γ, ?_, ?_⟩
   ·
    simp only [Act.put, List.setIfInBounds_toArray, List.set_cons_zero, List.set_cons_succ]; rfl
   ·
    exact hI
  case s3 =>
   refine rg_step rfl ?_
   rintro l_ a W ⟨γ, rfl, hI⟩ hl hd
   have d2 := hd 2 (by decide)
   clear hd
   have x0 := blk_cell (hI.1.h0) 0
   simp at x0
   refine rg_val (v := .string l.f0) (w' := W) rfl (by go_simp) ?_
   refine ⟨γ, ?_, ?_⟩
   ·
    simp only [Act.put, List.setIfInBounds_toArray, List.set_cons_zero, List.set_cons_succ]; rfl
   ·
    exact hI
  case s4 =>
   refine rg_step rfl ?_
   rintro l_ a W ⟨γ, rfl, hI⟩ hl hd
   have d1 := hd 1 (by decide)
   have d3 := hd 3 (by decide)
   clear hd
   refine rg_val (v := .string ((⟨#[1]⟩ : ByteArray) ++ l.f0)) (w' := W) rfl (by go_simp; have := HL.out; have := HR.out; have := HBl.out; have := HBr.out; omega) ?_
   refine ⟨γ, ?_, ?_⟩
   ·
    simp only [Act.put, List.setIfInBounds_toArray, List.set_cons_zero, List.set_cons_succ]; rfl
   ·
    exact hI
  case s5 =>
   refine rg_step rfl ?_
   rintro l_ a W ⟨γ, rfl, hI⟩ hl hd
   clear hd
   refine rg_val (v := .pointer (some ⟨w.heap.size, 1, none⟩)) (w' := W) rfl (by go_simp) ?_
   refine ⟨γ, ?_, ?_⟩
   ·
    simp only [Act.put, List.setIfInBounds_toArray, List.set_cons_zero, List.set_cons_succ]; rfl
   ·
    exact hI
  case s6 =>
   refine rg_step rfl ?_
   rintro l_ a W ⟨γ, rfl, hI⟩ hl hd
   have d5 := hd 5 (by decide)
   clear hd
   have x1 := blk_cell (hI.1.h0) 1
   have x2 := blk_cell (hI.1.h0) 2
   simp at x1 x2
   refine rg_val (v := .agg #[.int .u64 l.f1.f0, .int .u64 l.f1.f1]) (w' := W) rfl (by go_simp) ?_
   refine ⟨γ, ?_, ?_⟩
   ·
    simp only [Act.put, List.setIfInBounds_toArray, List.set_cons_zero, List.set_cons_succ]; rfl
   ·
    exact hI
  case s7 =>
   refine rg_step rfl ?_
   rintro l_ a W ⟨γ, rfl, hI⟩ hl hd
   have d6 := hd 6 (by decide)
   clear hd
   refine rg_call rfl (by go_simp; exact ⟨rfl, rfl⟩) ?_
   refine (u128_Bytes.calls _ _ _ _ HFl.out).mono ?_
   rintro x W' ⟨rfl, hb⟩
   refine ⟨_, rfl, γ, ?_, ?_⟩
   ·
    simp only [Act.put, List.setIfInBounds_toArray, List.set_cons_zero, List.set_cons_succ]; rfl
   ·
    exact ⟨hI.1.below hb, fun h => blk_below (hI.2 h) hb⟩
  case s8 =>
   refine rg_step rfl ?_
   rintro l_ a W ⟨γ, rfl, hI⟩ hl hd
   have d4 := hd 4 (by decide)
   have d7 := hd 7 (by decide)
   clear hd
   refine rg_val (v := .string ((⟨#[1]⟩ : ByteArray) ++ l.f0 ++ bl)) (w' := W) rfl (by go_simp; have := HL.out; have := HR.out; have := HBl.out; have := HBr.out; omega) ?_
   refine ⟨γ, ?_, ?_⟩
   ·
    simp only [Act.put, List.setIfInBounds_toArray, List.set_cons_zero, List.set_cons_succ]; rfl
   ·
    exact hI
  case s9 =>
   refine rg_step rfl ?_
   rintro l_ a W ⟨γ, rfl, hI⟩ hl hd
   clear hd
   refine rg_val (v := .pointer (some ⟨w.heap.size + 1, 0, none⟩)) (w' := W) rfl (by go_simp) ?_
   refine ⟨γ, ?_, ?_⟩
   ·
    simp only [Act.put, List.setIfInBounds_toArray, List.set_cons_zero, List.set_cons_succ]; rfl
   ·
    exact hI
  case s10 =>
   refine rg_step rfl ?_
   rintro l_ a W ⟨γ, rfl, hI⟩ hl hd
   have d9 := hd 9 (by decide)
   clear hd
   have x0 := blk_cell (hI.1.h1) 0
   simp at x0
   refine rg_val (v := .string r.f0) (w' := W) rfl (by go_simp) ?_
   refine ⟨γ, ?_, ?_⟩
   ·
    simp only [Act.put, List.setIfInBounds_toArray, List.set_cons_zero, List.set_cons_succ]; rfl
   ·
    exact hI
  case s11 =>
   refine rg_step rfl ?_
   rintro l_ a W ⟨γ, rfl, hI⟩ hl hd
   have d8 := hd 8 (by decide)
   have d10 := hd 10 (by decide)
   clear hd
   refine rg_val (v := .string ((⟨#[1]⟩ : ByteArray) ++ l.f0 ++ bl ++ r.f0)) (w' := W) rfl (by go_simp; have := HL.out; have := HR.out; have := HBl.out; have := HBr.out; omega) ?_
   refine ⟨γ, ?_, ?_⟩
   ·
    simp only [Act.put, List.setIfInBounds_toArray, List.set_cons_zero, List.set_cons_succ]; rfl
   ·
    exact hI
  case s12 =>
   refine rg_step rfl ?_
   rintro l_ a W ⟨γ, rfl, hI⟩ hl hd
   clear hd
   refine rg_val (v := .pointer (some ⟨w.heap.size + 1, 1, none⟩)) (w' := W) rfl (by go_simp) ?_
   refine ⟨γ, ?_, ?_⟩
   ·
    simp only [Act.put, List.setIfInBounds_toArray, List.set_cons_zero, List.set_cons_succ]; rfl
   ·
    exact hI
  case s13 =>
   refine rg_step rfl ?_
   rintro l_ a W ⟨γ, rfl, hI⟩ hl hd
   have d12 := hd 12 (by decide)
   clear hd
   have x1 := blk_cell (hI.1.h1) 1
   have x2 := blk_cell (hI.1.h1) 2
   simp at x1 x2
   refine rg_val (v := .agg #[.int .u64 r.f1.f0, .int .u64 r.f1.f1]) (w' := W) rfl (by go_simp) ?_
   refine ⟨γ, ?_, ?_⟩
   ·
    simp only [Act.put, List.setIfInBounds_toArray, List.set_cons_zero, List.set_cons_succ]; rfl
   ·
    exact hI
  case s14 =>
   refine rg_step rfl ?_
   rintro l_ a W ⟨γ, rfl, hI⟩ hl hd
   have d13 := hd 13 (by decide)
   clear hd
   refine rg_call rfl (by go_simp; exact ⟨rfl, rfl⟩) ?_
   refine (u128_Bytes.calls _ _ _ _ HFr.out).mono ?_
   rintro x W' ⟨rfl, hb⟩
   refine ⟨_, rfl, γ, ?_, ?_⟩
   ·
    simp only [Act.put, List.setIfInBounds_toArray, List.set_cons_zero, List.set_cons_succ]; rfl
   ·
    exact ⟨hI.1.below hb, fun h => blk_below (hI.2 h) hb⟩
  case s15 =>
   refine rg_step rfl ?_
   rintro l_ a W ⟨γ, rfl, hI⟩ hl hd
   have d11 := hd 11 (by decide)
   have d14 := hd 14 (by decide)
   clear hd
   refine rg_val (v := .string ((⟨#[1]⟩ : ByteArray) ++ l.f0 ++ bl ++ r.f0 ++ br)) (w' := W) rfl (by go_simp; have := HL.out; have := HR.out; have := HBl.out; have := HBr.out; omega) ?_
   refine ⟨γ, ?_, ?_⟩
   ·
    simp only [Act.put, List.setIfInBounds_toArray, List.set_cons_zero, List.set_cons_succ]; rfl
   ·
    exact hI
  case s16 =>
   refine rg_step rfl ?_
   rintro l_ a W ⟨γ, rfl, hI⟩ hl hd
   have d15 := hd 15 (by decide)
   clear hd
   refine rg_val (v := .string ((⟨#[1]⟩ : ByteArray) ++ l.f0 ++ bl ++ r.f0 ++ br)) (w' := W) rfl (by go_simp) ?_
   refine ⟨γ, ?_, ?_⟩
   ·
    simp only [Act.put, List.setIfInBounds_toArray, List.set_cons_zero, List.set_cons_succ]; rfl
   ·
    exact hI
 case hend =>
  rintro l_ a W ⟨γ, rfl, hI⟩ hall
  have e0 := hall 0 (by decide)
  have e1 := hall 1 (by decide)
  have e2 := hall 2 (by decide)
  have e3 := hall 3 (by decide)
  have e4 := hall 4 (by decide)
  have e5 := hall 5 (by decide)
  have e6 := hall 6 (by decide)
  have e7 := hall 7 (by decide)
  have e8 := hall 8 (by decide)
  have e9 := hall 9 (by decide)
  have e10 := hall 10 (by decide)
  have e11 := hall 11 (by decide)
  have e12 := hall 12 (by decide)
  have e13 := hall 13 (by decide)
  have e14 := hall 14 (by decide)
  have e15 := hall 15 (by decide)
  have e16 := hall 16 (by decide)
  clear hall
  simp only [e0, e1, e2, e3, e4, e5, e6, e7, e8, e9, e10, e11, e12, e13, e14, e15, e16, sel_true]
  clear e0 e1 e2 e3 e4 e5 e6 e7 e8 e9 e10 e11 e12 e13 e14 e15 e16
  have HI := aM' hI.1
  clear hI
  go_wp2
  go_ret
  exact ⟨by rw [HT.out]; rfl, HI.out.hB⟩
def tag_NodeText.f (a0 : ByteArray) (a1 a2 : Int) (b0 : ByteArray) (b1 b2 : Int) : Option ByteArray := if a0.size ≤ 1000000 ∧ b0.size ≤ 1000000 then some (nodeText ⟨a0, ⟨a1, a2⟩⟩ ⟨b0, ⟨b1, b2⟩⟩) else none
theorem tag_NodeText.calls (a0 : ByteArray) (a1 a2 : Int) (b0 : ByteArray) (b1 b2 : Int) (r : ByteArray) (w : World) (h : tag_NodeText.f a0 a1 a2 b0 b1 b2 = some r) :
  Calls Tryd.prog 64 #[.agg #[.string a0, .int .u64 a1, .int .u64 a2], .agg #[.string b0, .int .u64 b1, .int .u64 b2]] w fun e w' => e = .returned (.string r) ∧ Below w.heap.size w w' := by
 unfold tag_NodeText.f at h
 split at h
 ·
  rename_i hh
  obtain rfl := Option.some.inj h
  exact nodeText.calls ⟨a0, ⟨a1, a2⟩⟩ ⟨b0, ⟨b1, b2⟩⟩ hh.1 hh.2 w
 ·
  cases h
end Go.Proofs.YtijfifphcchbbaaDoor.P
namespace Go.Proofs.YtijfifphcchbbaaDoor.P
open Go.RowKit Go.Proofs.YtijfifphcchbbaaDoorW.PrintWords Go.Proofs.YtijfifphcchbbaaDoorW.PrintLast Go.Proofs.YtijfifphcchbbaaDoorW.PrintMore
attribute [local go_sem] max2_int min2_int max_two min_two max_three min_three max_four min_four-- for this text's walks alone
set_option linter.unusedVariables false
set_option linter.unusedSimpArgs false
def node_Join.j0 : Nat → Int → Bool → ByteArray → Int → Int → ByteArray → Int → Int → Option (ByteArray × Int × Int × Int)
 | 0, _, _, _, _, _, _, _, _ => none
 | k + 1, x0, x19, x171000, x171001, x171002, x172000, x172001, x172002 => if x19 = true then (some ((⟨#[]⟩ : ByteArray), 0, 0, 70)) else ((u128_Add.f x171001 x171002 x172001 x172002).bind fun bt175 => (if bt175.2.2 = 0 then ((tag_NodeText.f x171000 x171001 x171002 x172000 x172001 x172002).bind fun t179 => ((tag_Digest.f x0 t179).bind fun t180 => (some (t180, bt175.1, bt175.2.1, 0)))) else (some ((⟨#[]⟩ : ByteArray), 0, 0, 10))))
def node_Join.f (k : Nat) (a0 : Int) (a1_0 : ByteArray) (a1_1 : Int) (a1_2 : Int) (a2_0 : ByteArray) (a2_1 : Int) (a2_2 : Int) : Option (ByteArray × Int × Int × Int) := (node_Of.f a0 a1_0 a1_1 a1_2).bind fun t173 => (if t173 = true then ((node_Of.f a0 a2_0 a2_1 a2_2).bind fun t174 => (node_Join.j0 k a0 (!t174) a1_0 a1_1 a1_2 a2_0 a2_1 a2_2)) else (node_Join.j0 k a0 true a1_0 a1_1 a1_2 a2_0 a2_1 a2_2))
def node_Join.T6 : Bool × List (List Nat × List Nat) := (true, [([], []), ([], []), ([], []), ([1, 2], [1, 2]), ([0, 3, 3], [0, 3]), ([], []), ([4, 5], [4, 5]), ([6, 4, 0, 1, 2, 3, 4, 5, 6], [6]), ([7, 0, 1, 2, 3, 4, 5, 6, 7], [])])
def node_Join.B6 : List Nat := [0, 0, 0, 6, 15, 0, 63, 127, 255]
theorem node_Join.tab6 : rtab .any (opsOf Tryd.f21 6) = node_Join.T6 := by kernel_rfl
theorem node_Join.bits6 : waitsOk node_Join.T6.2 node_Join.B6 = true := by kernel_rfl
set_option maxHeartbeats 8000000 in
set_option maxRecDepth 100000 in
theorem node_Join.calls (k : Nat) (a0 : Int) (a1_0 : ByteArray) (a1_1 : Int) (a1_2 : Int) (a2_0 : ByteArray) (a2_1 : Int) (a2_2 : Int) (r1 : ByteArray) (r2 : Int) (r3 : Int) (r4 : Int) (w : World) (hK : Laid w) (h : node_Join.f k a0 a1_0 a1_1 a1_2 a2_0 a2_1 a2_2 = some (r1, r2, r3, r4)) :
  Calls Tryd.prog 21 #[.int .i64 a0, .agg #[.string a1_0, .int .u64 a1_1, .int .u64 a1_2], .agg #[.string a2_0, .int .u64 a2_1, .int .u64 a2_2]] w fun e w' => e = .returned (.tuple #[.agg #[.string r1, .int .u64 r2, .int .u64 r3], .int .i64 r4]) ∧ Below w.heap.size w w' := by
 have hu28 := Tryd.underlying28
 have hu26 := Tryd.underlying26
 have HB := aM' (Below.refl w.heap.size w)
 have HLD := aM' hK
 clear hK
 have H : ((node_Of.f a0 a1_0 a1_1 a1_2).bind fun t173 => (if t173 = true then ((node_Of.f a0 a2_0 a2_1 a2_2).bind fun t174 => (node_Join.j0 k a0 (!t174) a1_0 a1_1 a1_2 a2_0 a2_1 a2_2)) else (node_Join.j0 k a0 true a1_0 a1_1 a1_2 a2_0 a2_1 a2_2))) = some (r1, r2, r3, r4) := h
 clear h
 have HC4 := aM' H
 clear H
 go_enter Tryd.func21, Tryd.ntmps21
 go_upto_region 1 with (first | ((with_reducible refine gate_dst (N := 4) rfl ?_); refine box_event ?hg (N := 4) ?hd (cs := #[.string a1_0, .int .u64 a1_1, .int .u64 a1_2]) (t := 28) ?hr ?_; (case hd => rfl); (case hg => rfl); (case hr => first | (go_simp; done) | (go_simp; rfl)); intro gb170 hg w5 hbox hb; have n0_ := aM' (below_step (by repeat (first | (with_reducible first | exact HB.out | apply below_alloc | apply pw_below_drewN | apply below_drew1) | exact HB.out)) hb); have n1_ := aM' (hbox); have n2_ := aM' ((by rw [hg]; exact (below_size (by repeat (first | (with_reducible first | exact HB.out | apply below_alloc | apply pw_below_drewN | apply below_drew1) | exact HB.out))) : w.heap.size ≤ gb170)); have n3_ := aM' ((by rw [hg]; exact (below_size (by repeat (first | (with_reducible first | exact HB.out | apply below_alloc | apply pw_below_drewN | apply below_drew1) | exact HB.out))) : w.heap.size ≤ gb170)); clear HB; have HB := n0_; have BK170 := n1_; have GW170 := n2_; have GE170 := n3_; clear n0_ n1_ n2_ n3_; clear hb hbox hg) | ((with_reducible refine gate_dst (N := 5) rfl ?_); refine box_event ?hg (N := 5) ?hd (cs := #[.string a2_0, .int .u64 a2_1, .int .u64 a2_2]) (t := 28) ?hr ?_; (case hd => rfl); (case hg => rfl); (case hr => first | (go_simp; done) | (go_simp; rfl)); intro gb171 hg w6 hbox hb; have n0_ := aM' (blk_below (g := gb170) (o := .cells #[.string a1_0, .int .u64 a1_1, .int .u64 a1_2] 28 (0, 0)) (by (with_reducible repeat (first | refine blk_drewN ?_ _ | refine blk_drew ?_ | refine blk_alloc ?_ _)); exact BK170.out) hb); have n1_ := aM' (below_step (by repeat (first | (with_reducible first | exact HB.out | apply below_alloc | apply pw_below_drewN | apply below_drew1 | refine below_set ?_ GE170.out) | exact HB.out)) hb); have n2_ := aM' (hbox); have n3_ := aM' ((by rw [hg]; exact (below_size (by repeat (first | (with_reducible first | exact HB.out | apply below_alloc | apply pw_below_drewN | apply below_drew1 | refine below_set ?_ GE170.out) | exact HB.out))) : w.heap.size ≤ gb171)); have n4_ := aM' ((by rw [hg]; exact (below_size (by repeat (first | (with_reducible first | exact HB.out | apply below_alloc | apply pw_below_drewN | apply below_drew1 | refine below_set ?_ GE170.out) | exact HB.out))) : w.heap.size ≤ gb171)); have n5_ := aM' ((by rw [hg]; exact Nat.ne_of_lt (blk_lt (g := gb170) (o := .cells #[.string a1_0, .int .u64 a1_1, .int .u64 a1_2] 28 (0, 0)) (by (with_reducible repeat (first | refine blk_drewN ?_ _ | refine blk_drew ?_ | refine blk_alloc ?_ _)); exact BK170.out)) : gb170 ≠ gb171)); have n6_ := aM' ((by rw [hg]; exact Nat.ne_of_gt (blk_lt (g := gb170) (o := .cells #[.string a1_0, .int .u64 a1_1, .int .u64 a1_2] 28 (0, 0)) (by (with_reducible repeat (first | refine blk_drewN ?_ _ | refine blk_drew ?_ | refine blk_alloc ?_ _)); exact BK170.out)) : gb171 ≠ gb170)); clear BK170; clear HB; have BK170 := n0_; have HB := n1_; have BK171 := n2_; have GW171 := n3_; have GE171 := n4_; have NB170_171 := n5_; have NB171_170 := n6_; clear n0_ n1_ n2_ n3_ n4_ n5_ n6_; clear hb hbox hg) | ((with_reducible refine gate_dst (N := 6) rfl ?_); refine box_event ?hg (N := 6) ?hd (cs := #[.string (⟨#[]⟩ : ByteArray), .int .u64 0, .int .u64 0]) (t := 28) ?hr ?_; (case hd => rfl); (case hg => rfl); (case hr => first | (go_simp; done) | (go_simp; rfl)); intro gb172 hg w7 hbox hb; have n0_ := aM' (blk_below (g := gb170) (o := .cells #[.string a1_0, .int .u64 a1_1, .int .u64 a1_2] 28 (0, 0)) (by (with_reducible repeat (first | refine blk_drewN ?_ _ | refine blk_drew ?_ | refine blk_alloc ?_ _)); exact BK170.out) hb); have n1_ := aM' (blk_below (g := gb171) (o := .cells #[.string a2_0, .int .u64 a2_1, .int .u64 a2_2] 28 (0, 0)) (by (with_reducible repeat (first | refine blk_drewN ?_ _ | refine blk_drew ?_ | refine blk_alloc ?_ _)); exact BK171.out) hb); have n2_ := aM' (below_step (by repeat (first | (with_reducible first | exact HB.out | apply below_alloc | apply pw_below_drewN | apply below_drew1 | refine below_set ?_ GE170.out | refine below_set ?_ GE171.out) | exact HB.out)) hb); have n3_ := aM' (hbox); have n4_ := aM' ((by rw [hg]; exact (below_size (by repeat (first | (with_reducible first | exact HB.out | apply below_alloc | apply pw_below_drewN | apply below_drew1 | refine below_set ?_ GE170.out | refine below_set ?_ GE171.out) | exact HB.out))) : w.heap.size ≤ gb172)); have n5_ := aM' ((by rw [hg]; exact (below_size (by repeat (first | (with_reducible first | exact HB.out | apply below_alloc | apply pw_below_drewN | apply below_drew1 | refine below_set ?_ GE170.out | refine below_set ?_ GE171.out) | exact HB.out))) : w.heap.size ≤ gb172)); have n6_ := aM' ((by rw [hg]; exact Nat.ne_of_lt (blk_lt (g := gb170) (o := .cells #[.string a1_0, .int .u64 a1_1, .int .u64 a1_2] 28 (0, 0)) (by (with_reducible repeat (first | refine blk_drewN ?_ _ | refine blk_drew ?_ | refine blk_alloc ?_ _)); exact BK170.out)) : gb170 ≠ gb172)); have n7_ := aM' ((by rw [hg]; exact Nat.ne_of_gt (blk_lt (g := gb170) (o := .cells #[.string a1_0, .int .u64 a1_1, .int .u64 a1_2] 28 (0, 0)) (by (with_reducible repeat (first | refine blk_drewN ?_ _ | refine blk_drew ?_ | refine blk_alloc ?_ _)); exact BK170.out)) : gb172 ≠ gb170)); have n8_ := aM' ((by rw [hg]; exact Nat.ne_of_lt (blk_lt (g := gb171) (o := .cells #[.string a2_0, .int .u64 a2_1, .int .u64 a2_2] 28 (0, 0)) (by (with_reducible repeat (first | refine blk_drewN ?_ _ | refine blk_drew ?_ | refine blk_alloc ?_ _)); exact BK171.out)) : gb171 ≠ gb172)); have n9_ := aM' ((by rw [hg]; exact Nat.ne_of_gt (blk_lt (g := gb171) (o := .cells #[.string a2_0, .int .u64 a2_1, .int .u64 a2_2] 28 (0, 0)) (by (with_reducible repeat (first | refine blk_drewN ?_ _ | refine blk_drew ?_ | refine blk_alloc ?_ _)); exact BK171.out)) : gb172 ≠ gb171)); clear BK170; clear BK171; clear HB; have BK170 := n0_; have BK171 := n1_; have HB := n2_; have BK172 := n3_; have GW172 := n4_; have GE172 := n5_; have NB170_172 := n6_; have NB172_170 := n7_; have NB171_172 := n8_; have NB172_171 := n9_; clear n0_ n1_ n2_ n3_ n4_ n5_ n6_ n7_ n8_ n9_; clear hb hbox hg))
 (try simp only [Act.put, List.setIfInBounds_toArray, List.set_cons_zero, List.set_cons_succ])
 go_cut [19] (fun v19 wc => ∃ (kq : Nat) (x19_3 : Bool), v19 = .bool x19_3 ∧ Aside0 (node_Join.j0 kq a0 x19_3 a1_0 a1_1 a1_2 a2_0 a2_1 a2_2 = some (r1, r2, r3, r4)) ∧ Aside0 (kq ≤ k) ∧ Aside0 (wc.heap[gb170]? = some (.cells #[.string a1_0, .int .u64 a1_1, .int .u64 a1_2] 28 (0, 0))) ∧ Aside0 (wc.heap[gb171]? = some (.cells #[.string a2_0, .int .u64 a2_1, .int .u64 a2_2] 28 (0, 0))) ∧ Aside0 (wc.heap[gb172]? = some (.cells #[.string (⟨#[]⟩ : ByteArray), .int .u64 0, .int .u64 0] 28 (0, 0))) ∧ Aside0 (Below w.heap.size w wc))
 case first =>
  have H := HC4.out
  clear HC4
  replace H := Option.bind_eq_some_iff.mp H
  obtain ⟨t173, A80, H⟩ := H
  replace H : (if t173 = true then ((node_Of.f a0 a2_0 a2_1 a2_2).bind fun t174 => (node_Join.j0 k a0 (!t174) a1_0 a1_1 a1_2 a2_0 a2_1 a2_2)) else (node_Join.j0 k a0 true a1_0 a1_1 a1_2 a2_0 a2_1 a2_2)) = some (r1, r2, r3, r4) := H
  have A8 := aM' A80
  clear A80
  by_cases c9 : t173 = true
  ·
   subst c9
   have H1 : ((node_Of.f a0 a2_0 a2_1 a2_2).bind fun t174 => (node_Join.j0 k a0 (!t174) a1_0 a1_1 a1_2 a2_0 a2_1 a2_2)) = some (r1, r2, r3, r4) := by rw [if_pos rfl] at H; exact H
   clear H
   have H := H1
   clear H1
   replace H := Option.bind_eq_some_iff.mp H
   obtain ⟨t174, A100, H⟩ := H
   replace H : (node_Join.j0 k a0 (!t174) a1_0 a1_1 a1_2 a2_0 a2_1 a2_2) = some (r1, r2, r3, r4) := H
   have A10 := aM' A100
   clear A100
   have H' := aM' H
   clear H
   have hnb11 := NB170_171.out
   have hnc11 := NB171_170.out
   have hnb12 := NB170_172.out
   have hnc12 := NB172_170.out
   have hcz13_0 : w7.cell? ⟨gb170, 0, none⟩ = some (.string a1_0) := (blk_cell BK170.out 0).trans rfl
   have hcz13_1 : w7.cell? ⟨gb170, 1, none⟩ = some (.int .u64 a1_1) := (blk_cell BK170.out 1).trans rfl
   have hcz13_2 : w7.cell? ⟨gb170, 2, none⟩ = some (.int .u64 a1_2) := (blk_cell BK170.out 2).trans rfl
   have hfz13_0 := blk_frozen BK170.out 0
   have hfz13_1 := blk_frozen BK170.out 1
   have hfz13_2 := blk_frozen BK170.out 2
   go_wp2_with (first | ((with_reducible refine gate_callee (f := 20) rfl ?_); refine goesL_ (some 12) rfl rfl Tryd.func20 (by kernel_rfl) rfl #[.int .i64 a0, .agg #[.string a1_0, .int .u64 a1_1, .int .u64 a1_2]] rfl (by (try simp only [List.map_toArray, List.map_cons, List.map_nil]); first | done | rfl | (simp only [List.length_drop, List.length_take]; rfl)) ?_; (with_reducible refine (node_Of.calls a0 a1_0 a1_1 a1_2 true _ A8.out).mono ?_); rintro e w14 ⟨rfl, hb⟩; refine ⟨_, rfl, ?_⟩; have n0_ := aM' (blk_below (g := gb170) (o := .cells #[.string a1_0, .int .u64 a1_1, .int .u64 a1_2] 28 (0, 0)) (by (with_reducible repeat (first | refine blk_drewN ?_ _ | refine blk_drew ?_ | refine blk_alloc ?_ _)); exact BK170.out) hb); have n1_ := aM' (blk_below (g := gb171) (o := .cells #[.string a2_0, .int .u64 a2_1, .int .u64 a2_2] 28 (0, 0)) (by (with_reducible repeat (first | refine blk_drewN ?_ _ | refine blk_drew ?_ | refine blk_alloc ?_ _)); exact BK171.out) hb); have n2_ := aM' (blk_below (g := gb172) (o := .cells #[.string (⟨#[]⟩ : ByteArray), .int .u64 0, .int .u64 0] 28 (0, 0)) (by (with_reducible repeat (first | refine blk_drewN ?_ _ | refine blk_drew ?_ | refine blk_alloc ?_ _)); exact BK172.out) hb); have n3_ := aM' (below_step (by repeat (first | (with_reducible first | exact HB.out | apply below_alloc | apply pw_below_drewN | apply below_drew1 | refine below_set ?_ GE170.out | refine below_set ?_ GE171.out | refine below_set ?_ GE172.out) | exact HB.out)) hb); clear BK170; clear BK171; clear BK172; clear HB; have BK170 := n0_; have BK171 := n1_; have BK172 := n2_; have HB := n3_; clear n0_ n1_ n2_ n3_; (try clear hb); (try clear hb2); (try clear hk); (try clear hi); have hnb15 := NB171_172.out; have hnc15 := NB172_171.out; have hcz16_0 : w14.cell? ⟨gb171, 0, none⟩ = some (.string a2_0) := (blk_cell BK171.out 0).trans rfl; have hcz16_1 : w14.cell? ⟨gb171, 1, none⟩ = some (.int .u64 a2_1) := (blk_cell BK171.out 1).trans rfl; have hcz16_2 : w14.cell? ⟨gb171, 2, none⟩ = some (.int .u64 a2_2) := (blk_cell BK171.out 2).trans rfl; have hfz16_0 := blk_frozen BK171.out 0; have hfz16_1 := blk_frozen BK171.out 1; have hfz16_2 := blk_frozen BK171.out 2) | (go_at_call 20; (with_reducible refine (node_Of.calls a0 a2_0 a2_1 a2_2 t174 _ A10.out).mono ?_); rintro e w17 ⟨rfl, hb⟩; have n0_ := aM' (blk_below (g := gb170) (o := .cells #[.string a1_0, .int .u64 a1_1, .int .u64 a1_2] 28 (0, 0)) (by (with_reducible repeat (first | refine blk_drewN ?_ _ | refine blk_drew ?_ | refine blk_alloc ?_ _)); exact BK170.out) hb); have n1_ := aM' (blk_below (g := gb171) (o := .cells #[.string a2_0, .int .u64 a2_1, .int .u64 a2_2] 28 (0, 0)) (by (with_reducible repeat (first | refine blk_drewN ?_ _ | refine blk_drew ?_ | refine blk_alloc ?_ _)); exact BK171.out) hb); have n2_ := aM' (blk_below (g := gb172) (o := .cells #[.string (⟨#[]⟩ : ByteArray), .int .u64 0, .int .u64 0] 28 (0, 0)) (by (with_reducible repeat (first | refine blk_drewN ?_ _ | refine blk_drew ?_ | refine blk_alloc ?_ _)); exact BK172.out) hb); have n3_ := aM' (below_step (by repeat (first | (with_reducible first | exact HB.out | apply below_alloc | apply pw_below_drewN | apply below_drew1 | refine below_set ?_ GE170.out | refine below_set ?_ GE171.out | refine below_set ?_ GE172.out) | exact HB.out)) hb); clear BK170; clear BK171; clear BK172; clear HB; have BK170 := n0_; have BK171 := n1_; have BK172 := n2_; have HB := n3_; clear n0_ n1_ n2_ n3_; (try clear hb); (try clear hb2); (try clear hk); (try clear hi)))
   go_meet
   case rel => exact ⟨_, (!t174), (by first | rfl | (simp; done) | (simp [*]; done)), H', ⟨by first | omega | exact Nat.le_refl _⟩, ⟨by (with_reducible repeat (first | refine blk_drewN ?_ _ | refine blk_drew ?_ | refine blk_alloc ?_ _)); exact BK170.out⟩, ⟨by (with_reducible repeat (first | refine blk_drewN ?_ _ | refine blk_drew ?_ | refine blk_alloc ?_ _)); exact BK171.out⟩, ⟨by (with_reducible repeat (first | refine blk_drewN ?_ _ | refine blk_drew ?_ | refine blk_alloc ?_ _)); exact BK172.out⟩, ⟨by repeat (first | (with_reducible first | exact HB.out | apply below_alloc | apply pw_below_drewN | apply below_drew1 | refine below_set ?_ GE170.out | refine below_set ?_ GE171.out | refine below_set ?_ GE172.out) | exact HB.out)⟩⟩
  ·
   replace c9 := Bool.eq_false_iff.mpr c9
   subst c9
   have H1 : (node_Join.j0 k a0 true a1_0 a1_1 a1_2 a2_0 a2_1 a2_2) = some (r1, r2, r3, r4) := by rw [if_neg (show ¬ (false = true) by decide)] at H; exact H
   clear H
   have H := H1
   clear H1
   have H' := aM' H
   clear H
   have hnb18 := NB170_171.out
   have hnc18 := NB171_170.out
   have hnb19 := NB170_172.out
   have hnc19 := NB172_170.out
   have hcz20_0 : w7.cell? ⟨gb170, 0, none⟩ = some (.string a1_0) := (blk_cell BK170.out 0).trans rfl
   have hcz20_1 : w7.cell? ⟨gb170, 1, none⟩ = some (.int .u64 a1_1) := (blk_cell BK170.out 1).trans rfl
   have hcz20_2 : w7.cell? ⟨gb170, 2, none⟩ = some (.int .u64 a1_2) := (blk_cell BK170.out 2).trans rfl
   have hfz20_0 := blk_frozen BK170.out 0
   have hfz20_1 := blk_frozen BK170.out 1
   have hfz20_2 := blk_frozen BK170.out 2
   go_wp2_with (first | ((with_reducible refine gate_callee (f := 20) rfl ?_); refine goesL_ (some 12) rfl rfl Tryd.func20 (by kernel_rfl) rfl #[.int .i64 a0, .agg #[.string a1_0, .int .u64 a1_1, .int .u64 a1_2]] rfl (by (try simp only [List.map_toArray, List.map_cons, List.map_nil]); first | done | rfl | (simp only [List.length_drop, List.length_take]; rfl)) ?_; (with_reducible refine (node_Of.calls a0 a1_0 a1_1 a1_2 false _ A8.out).mono ?_); rintro e w21 ⟨rfl, hb⟩; refine ⟨_, rfl, ?_⟩; have n0_ := aM' (blk_below (g := gb170) (o := .cells #[.string a1_0, .int .u64 a1_1, .int .u64 a1_2] 28 (0, 0)) (by (with_reducible repeat (first | refine blk_drewN ?_ _ | refine blk_drew ?_ | refine blk_alloc ?_ _)); exact BK170.out) hb); have n1_ := aM' (blk_below (g := gb171) (o := .cells #[.string a2_0, .int .u64 a2_1, .int .u64 a2_2] 28 (0, 0)) (by (with_reducible repeat (first | refine blk_drewN ?_ _ | refine blk_drew ?_ | refine blk_alloc ?_ _)); exact BK171.out) hb); have n2_ := aM' (blk_below (g := gb172) (o := .cells #[.string (⟨#[]⟩ : ByteArray), .int .u64 0, .int .u64 0] 28 (0, 0)) (by (with_reducible repeat (first | refine blk_drewN ?_ _ | refine blk_drew ?_ | refine blk_alloc ?_ _)); exact BK172.out) hb); have n3_ := aM' (below_step (by repeat (first | (with_reducible first | exact HB.out | apply below_alloc | apply pw_below_drewN | apply below_drew1 | refine below_set ?_ GE170.out | refine below_set ?_ GE171.out | refine below_set ?_ GE172.out) | exact HB.out)) hb); clear BK170; clear BK171; clear BK172; clear HB; have BK170 := n0_; have BK171 := n1_; have BK172 := n2_; have HB := n3_; clear n0_ n1_ n2_ n3_; (try clear hb); (try clear hb2); (try clear hk); (try clear hi)))
   go_meet
   case rel => exact ⟨_, (true), (by first | rfl | (simp; done) | (simp [*]; done)), H', ⟨by first | omega | exact Nat.le_refl _⟩, ⟨by (with_reducible repeat (first | refine blk_drewN ?_ _ | refine blk_drew ?_ | refine blk_alloc ?_ _)); exact BK170.out⟩, ⟨by (with_reducible repeat (first | refine blk_drewN ?_ _ | refine blk_drew ?_ | refine blk_alloc ?_ _)); exact BK171.out⟩, ⟨by (with_reducible repeat (first | refine blk_drewN ?_ _ | refine blk_drew ?_ | refine blk_alloc ?_ _)); exact BK172.out⟩, ⟨by repeat (first | (with_reducible first | exact HB.out | apply below_alloc | apply pw_below_drewN | apply below_drew1 | refine below_set ?_ GE170.out | refine below_set ?_ GE171.out | refine below_set ?_ GE172.out) | exact HB.out)⟩⟩
 case rest =>
  clear HC4
  try clear c1
  try clear c2
  try clear p2
  try clear c9
  try clear c11
  try clear c12
  try clear c15
  try clear c18
  try clear c19
  try clear c20
  try clear c21
  try clear hcz13_0
  try clear hcz13_1
  try clear hcz13_2
  try clear hcz16_0
  try clear hcz16_1
  try clear hcz16_2
  try clear hcz20_0
  try clear hcz20_1
  try clear hcz20_2
  try clear hfz13_0
  try clear hfz13_1
  try clear hfz13_2
  try clear hfz16_0
  try clear hfz16_1
  try clear hfz16_2
  try clear hfz20_0
  try clear hfz20_1
  try clear hfz20_2
  obtain ⟨kq, x19_3, rfl, HA, HJ3, BK170, BK171, BK172, HB⟩ := hcut
  cases kq with
  | zero => exact absurd HA.out (by simp [node_Join.j0])
  | succ kj3 =>
   have H := HA.out
   clear HA
   simp only [node_Join.j0] at H
   by_cases c22 : x19_3 = true
   ·
    subst c22
    have H1 : (some ((⟨#[]⟩ : ByteArray), 0, 0, 70)) = some (r1, r2, r3, r4) := by rw [if_pos rfl] at H; exact H
    clear H
    have H := H1
    clear H1
    simp only [Option.some.injEq, Prod.mk.injEq] at H
    obtain ⟨rfl, rfl, rfl, rfl⟩ := H
    have hnb23 := NB172_170.out
    have hnc23 := NB170_172.out
    have hnb24 := NB172_171.out
    have hnc24 := NB171_172.out
    have hcz25_0 : wc.cell? ⟨gb172, 0, none⟩ = some (.string (⟨#[]⟩ : ByteArray)) := (blk_cell BK172.out 0).trans rfl
    have hcz25_1 : wc.cell? ⟨gb172, 1, none⟩ = some (.int .u64 0) := (blk_cell BK172.out 1).trans rfl
    have hcz25_2 : wc.cell? ⟨gb172, 2, none⟩ = some (.int .u64 0) := (blk_cell BK172.out 2).trans rfl
    have hfz25_0 := blk_frozen BK172.out 0
    have hfz25_1 := blk_frozen BK172.out 1
    have hfz25_2 := blk_frozen BK172.out 2
    go_wp2
    refine bodyPost_ret (results_ct rfl _ _ gb172 28 #[.string (⟨#[]⟩ : ByteArray), .int .u64 0, .int .u64 0] (0, 0) _ rfl (by (with_reducible repeat (first | refine blk_drewN ?_ _ | refine blk_drew ?_ | refine blk_alloc ?_ _)); refine blk_put (cs := #[.string (⟨#[]⟩ : ByteArray), .int .u64 0, .int .u64 0]) ?_ 2 _ rfl; (with_reducible repeat (first | refine blk_drewN ?_ _ | refine blk_drew ?_ | refine blk_alloc ?_ _)); refine blk_put (cs := #[.string (⟨#[]⟩ : ByteArray), .int .u64 0, .int .u64 0]) ?_ 1 _ rfl; (with_reducible repeat (first | refine blk_drewN ?_ _ | refine blk_drew ?_ | refine blk_alloc ?_ _)); refine blk_put (cs := #[.string (⟨#[]⟩ : ByteArray), .int .u64 0, .int .u64 0]) ?_ 0 _ rfl; (with_reducible repeat (first | refine blk_drewN ?_ _ | refine blk_drew ?_ | refine blk_alloc ?_ _)); exact BK172.out) Tryd.underlying28 rfl (by kernel_rfl)) rfl ?_
    exact ⟨by first | rfl | (simp [errW_none, errW_some] <;> rfl) | (simp [*, errW_none, errW_some] <;> rfl), by repeat (first | (with_reducible first | exact HB.out | apply below_alloc | apply pw_below_drewN | apply below_drew1 | refine below_set ?_ GE170.out | refine below_set ?_ GE171.out | refine below_set ?_ GE172.out) | exact HB.out)⟩
   ·
    replace c22 := Bool.eq_false_iff.mpr c22
    subst c22
    have H1 : ((u128_Add.f a1_1 a1_2 a2_1 a2_2).bind fun bt175 => (if bt175.2.2 = 0 then ((tag_NodeText.f a1_0 a1_1 a1_2 a2_0 a2_1 a2_2).bind fun t179 => ((tag_Digest.f a0 t179).bind fun t180 => (some (t180, bt175.1, bt175.2.1, 0)))) else (some ((⟨#[]⟩ : ByteArray), 0, 0, 10)))) = some (r1, r2, r3, r4) := by rw [if_neg (show ¬ (false = true) by decide)] at H; exact H
    clear H
    have H := H1
    clear H1
    replace H := Option.bind_eq_some_iff.mp H
    obtain ⟨⟨t175, t176, t177⟩, A260, H⟩ := H
    replace H : (if t177 = 0 then ((tag_NodeText.f a1_0 a1_1 a1_2 a2_0 a2_1 a2_2).bind fun t179 => ((tag_Digest.f a0 t179).bind fun t180 => (some (t180, t175, t176, 0)))) else (some ((⟨#[]⟩ : ByteArray), 0, 0, 10))) = some (r1, r2, r3, r4) := H
    have A26 := aM' A260
    clear A260
    by_cases c27 : t177 = 0
    ·
     rw [if_pos c27] at H
     have c27b0 : (t177 == 0) = true := beq_iff_eq.mpr c27
     have c27b1 : (t177 != 0) = false := bne_eq_false_iff_eq.mpr c27
     clear c27
     replace H := Option.bind_eq_some_iff.mp H
     obtain ⟨t179, A280, H⟩ := H
     replace H : ((tag_Digest.f a0 t179).bind fun t180 => (some (t180, t175, t176, 0))) = some (r1, r2, r3, r4) := H
     have A28 := aM' A280
     clear A280
     replace H := Option.bind_eq_some_iff.mp H
     obtain ⟨t180, A290, H⟩ := H
     replace H : (some (t180, t175, t176, 0)) = some (r1, r2, r3, r4) := H
     have A29 := aM' A290
     clear A290
     simp only [Option.some.injEq, Prod.mk.injEq] at H
     obtain ⟨rfl, rfl, rfl, rfl⟩ := H
     have hnb30 := NB170_171.out
     have hnc30 := NB171_170.out
     have hnb31 := NB170_172.out
     have hnc31 := NB172_170.out
     have hcz32_0 : wc.cell? ⟨gb170, 0, none⟩ = some (.string a1_0) := (blk_cell BK170.out 0).trans rfl
     have hcz32_1 : wc.cell? ⟨gb170, 1, none⟩ = some (.int .u64 a1_1) := (blk_cell BK170.out 1).trans rfl
     have hcz32_2 : wc.cell? ⟨gb170, 2, none⟩ = some (.int .u64 a1_2) := (blk_cell BK170.out 2).trans rfl
     have hfz32_0 := blk_frozen BK170.out 0
     have hfz32_1 := blk_frozen BK170.out 1
     have hfz32_2 := blk_frozen BK170.out 2
     have hnb33 := NB171_172.out
     have hnc33 := NB172_171.out
     have hcz34_0 : wc.cell? ⟨gb171, 0, none⟩ = some (.string a2_0) := (blk_cell BK171.out 0).trans rfl
     have hcz34_1 : wc.cell? ⟨gb171, 1, none⟩ = some (.int .u64 a2_1) := (blk_cell BK171.out 1).trans rfl
     have hcz34_2 : wc.cell? ⟨gb171, 2, none⟩ = some (.int .u64 a2_2) := (blk_cell BK171.out 2).trans rfl
     have hfz34_0 := blk_frozen BK171.out 0
     have hfz34_1 := blk_frozen BK171.out 1
     have hfz34_2 := blk_frozen BK171.out 2
     try go_wp2_with (first | ((with_reducible refine gate_callee (f := 61) rfl ?_); refine goesL_ (some 26) rfl rfl Tryd.func61 (by kernel_rfl) rfl #[.agg #[.int .u64 a1_1, .int .u64 a1_2], .agg #[.int .u64 a2_1, .int .u64 a2_2]] rfl (by (try simp only [List.map_toArray, List.map_cons, List.map_nil]); first | done | rfl | (simp only [List.length_drop, List.length_take]; rfl)) ?_; (with_reducible refine (u128_Add.calls a1_1 a1_2 a2_1 a2_2 t175 t176 t177 _ A26.out).mono ?_); rintro e w35 ⟨rfl, hb⟩; refine ⟨_, rfl, ?_⟩; have n0_ := aM' (blk_below (g := gb170) (o := .cells #[.string a1_0, .int .u64 a1_1, .int .u64 a1_2] 28 (0, 0)) (by (with_reducible repeat (first | refine blk_drewN ?_ _ | refine blk_drew ?_ | refine blk_alloc ?_ _)); exact BK170.out) hb); have n1_ := aM' (blk_below (g := gb171) (o := .cells #[.string a2_0, .int .u64 a2_1, .int .u64 a2_2] 28 (0, 0)) (by (with_reducible repeat (first | refine blk_drewN ?_ _ | refine blk_drew ?_ | refine blk_alloc ?_ _)); exact BK171.out) hb); have n2_ := aM' (blk_below (g := gb172) (o := .cells #[.string (⟨#[]⟩ : ByteArray), .int .u64 0, .int .u64 0] 28 (0, 0)) (by (with_reducible repeat (first | refine blk_drewN ?_ _ | refine blk_drew ?_ | refine blk_alloc ?_ _)); exact BK172.out) hb); have n3_ := aM' (below_step (by repeat (first | (with_reducible first | exact HB.out | apply below_alloc | apply pw_below_drewN | apply below_drew1 | refine below_set ?_ GE170.out | refine below_set ?_ GE171.out | refine below_set ?_ GE172.out) | exact HB.out)) hb); clear BK170; clear BK171; clear BK172; clear HB; have BK170 := n0_; have BK171 := n1_; have BK172 := n2_; have HB := n3_; clear n0_ n1_ n2_ n3_; (try clear hb); (try clear hb2); (try clear hk); (try clear hi)) | ((with_reducible refine gate_dst (N := 8) rfl ?_); refine box_event ?hg (N := 8) ?hd (cs := #[.int .u64 0, .int .u64 0]) (t := 26) ?hr ?_; (case hd => rfl); (case hg => rfl); (case hr => first | (go_simp; done) | (go_simp; rfl)); intro gb178 hg w36 hbox hb; have n0_ := aM' (blk_below (g := gb170) (o := .cells #[.string a1_0, .int .u64 a1_1, .int .u64 a1_2] 28 (0, 0)) (by (with_reducible repeat (first | refine blk_drewN ?_ _ | refine blk_drew ?_ | refine blk_alloc ?_ _)); exact BK170.out) hb); have n1_ := aM' (blk_below (g := gb171) (o := .cells #[.string a2_0, .int .u64 a2_1, .int .u64 a2_2] 28 (0, 0)) (by (with_reducible repeat (first | refine blk_drewN ?_ _ | refine blk_drew ?_ | refine blk_alloc ?_ _)); exact BK171.out) hb); have n2_ := aM' (blk_below (g := gb172) (o := .cells #[.string (⟨#[]⟩ : ByteArray), .int .u64 0, .int .u64 0] 28 (0, 0)) (by (with_reducible repeat (first | refine blk_drewN ?_ _ | refine blk_drew ?_ | refine blk_alloc ?_ _)); exact BK172.out) hb); have n3_ := aM' (below_step (by repeat (first | (with_reducible first | exact HB.out | apply below_alloc | apply pw_below_drewN | apply below_drew1 | refine below_set ?_ GE170.out | refine below_set ?_ GE171.out | refine below_set ?_ GE172.out) | exact HB.out)) hb); have n4_ := aM' (hbox); have n5_ := aM' ((by rw [hg]; exact (below_size (by repeat (first | (with_reducible first | exact HB.out | apply below_alloc | apply pw_below_drewN | apply below_drew1 | refine below_set ?_ GE170.out | refine below_set ?_ GE171.out | refine below_set ?_ GE172.out) | exact HB.out))) : w.heap.size ≤ gb178)); have n6_ := aM' ((by rw [hg]; exact (below_size (by repeat (first | (with_reducible first | exact HB.out | apply below_alloc | apply pw_below_drewN | apply below_drew1 | refine below_set ?_ GE170.out | refine below_set ?_ GE171.out | refine below_set ?_ GE172.out) | exact HB.out))) : w.heap.size ≤ gb178)); have n7_ := aM' ((by rw [hg]; exact Nat.ne_of_lt (blk_lt (g := gb170) (o := .cells #[.string a1_0, .int .u64 a1_1, .int .u64 a1_2] 28 (0, 0)) (by (with_reducible repeat (first | refine blk_drewN ?_ _ | refine blk_drew ?_ | refine blk_alloc ?_ _)); exact BK170.out)) : gb170 ≠ gb178)); have n8_ := aM' ((by rw [hg]; exact Nat.ne_of_gt (blk_lt (g := gb170) (o := .cells #[.string a1_0, .int .u64 a1_1, .int .u64 a1_2] 28 (0, 0)) (by (with_reducible repeat (first | refine blk_drewN ?_ _ | refine blk_drew ?_ | refine blk_alloc ?_ _)); exact BK170.out)) : gb178 ≠ gb170)); have n9_ := aM' ((by rw [hg]; exact Nat.ne_of_lt (blk_lt (g := gb171) (o := .cells #[.string a2_0, .int .u64 a2_1, .int .u64 a2_2] 28 (0, 0)) (by (with_reducible repeat (first | refine blk_drewN ?_ _ | refine blk_drew ?_ | refine blk_alloc ?_ _)); exact BK171.out)) : gb171 ≠ gb178)); have n10_ := aM' ((by rw [hg]; exact Nat.ne_of_gt (blk_lt (g := gb171) (o := .cells #[.string a2_0, .int .u64 a2_1, .int .u64 a2_2] 28 (0, 0)) (by (with_reducible repeat (first | refine blk_drewN ?_ _ | refine blk_drew ?_ | refine blk_alloc ?_ _)); exact BK171.out)) : gb178 ≠ gb171)); have n11_ := aM' ((by rw [hg]; exact Nat.ne_of_lt (blk_lt (g := gb172) (o := .cells #[.string (⟨#[]⟩ : ByteArray), .int .u64 0, .int .u64 0] 28 (0, 0)) (by (with_reducible repeat (first | refine blk_drewN ?_ _ | refine blk_drew ?_ | refine blk_alloc ?_ _)); exact BK172.out)) : gb172 ≠ gb178)); have n12_ := aM' ((by rw [hg]; exact Nat.ne_of_gt (blk_lt (g := gb172) (o := .cells #[.string (⟨#[]⟩ : ByteArray), .int .u64 0, .int .u64 0] 28 (0, 0)) (by (with_reducible repeat (first | refine blk_drewN ?_ _ | refine blk_drew ?_ | refine blk_alloc ?_ _)); exact BK172.out)) : gb178 ≠ gb172)); clear BK170; clear BK171; clear BK172; clear HB; have BK170 := n0_; have BK171 := n1_; have BK172 := n2_; have HB := n3_; have BK178 := n4_; have GW178 := n5_; have GE178 := n6_; have NB170_178 := n7_; have NB178_170 := n8_; have NB171_178 := n9_; have NB178_171 := n10_; have NB172_178 := n11_; have NB178_172 := n12_; clear n0_ n1_ n2_ n3_ n4_ n5_ n6_ n7_ n8_ n9_ n10_ n11_ n12_; clear hb hbox hg; have hnb37 := NB178_170.out; have hnc37 := NB170_178.out; have hnb38 := NB178_171.out; have hnc38 := NB171_178.out; have hnb39 := NB178_172.out; have hnc39 := NB172_178.out; have hcz40_0 : w36.cell? ⟨gb178, 0, none⟩ = some (.int .u64 0) := (blk_cell BK178.out 0).trans rfl; have hcz40_1 : w36.cell? ⟨gb178, 1, none⟩ = some (.int .u64 0) := (blk_cell BK178.out 1).trans rfl; have hfz40_0 := blk_frozen BK178.out 0; have hfz40_1 := blk_frozen BK178.out 1))
     have n0_ : Aside0 (((w36.setCell ⟨gb178, 0, none⟩ (.int .u64 t175)).setCell ⟨gb178, 1, none⟩ (.int .u64 t176)).heap[gb170]? = some (.cells #[.string a1_0, .int .u64 a1_1, .int .u64 a1_2] 28 (0, 0))) := ⟨by (with_reducible repeat (first | refine blk_drewN ?_ _ | refine blk_drew ?_ | refine blk_alloc ?_ _)); refine blk_far ?_ NB170_178.out _; (with_reducible repeat (first | refine blk_drewN ?_ _ | refine blk_drew ?_ | refine blk_alloc ?_ _)); refine blk_far ?_ NB170_178.out _; (with_reducible repeat (first | refine blk_drewN ?_ _ | refine blk_drew ?_ | refine blk_alloc ?_ _)); exact BK170.out⟩
     have n1_ : Aside0 (((w36.setCell ⟨gb178, 0, none⟩ (.int .u64 t175)).setCell ⟨gb178, 1, none⟩ (.int .u64 t176)).heap[gb171]? = some (.cells #[.string a2_0, .int .u64 a2_1, .int .u64 a2_2] 28 (0, 0))) := ⟨by (with_reducible repeat (first | refine blk_drewN ?_ _ | refine blk_drew ?_ | refine blk_alloc ?_ _)); refine blk_far ?_ NB171_178.out _; (with_reducible repeat (first | refine blk_drewN ?_ _ | refine blk_drew ?_ | refine blk_alloc ?_ _)); refine blk_far ?_ NB171_178.out _; (with_reducible repeat (first | refine blk_drewN ?_ _ | refine blk_drew ?_ | refine blk_alloc ?_ _)); exact BK171.out⟩
     have n2_ : Aside0 (((w36.setCell ⟨gb178, 0, none⟩ (.int .u64 t175)).setCell ⟨gb178, 1, none⟩ (.int .u64 t176)).heap[gb172]? = some (.cells #[.string (⟨#[]⟩ : ByteArray), .int .u64 0, .int .u64 0] 28 (0, 0))) := ⟨by (with_reducible repeat (first | refine blk_drewN ?_ _ | refine blk_drew ?_ | refine blk_alloc ?_ _)); refine blk_far ?_ NB172_178.out _; (with_reducible repeat (first | refine blk_drewN ?_ _ | refine blk_drew ?_ | refine blk_alloc ?_ _)); refine blk_far ?_ NB172_178.out _; (with_reducible repeat (first | refine blk_drewN ?_ _ | refine blk_drew ?_ | refine blk_alloc ?_ _)); exact BK172.out⟩
     have n3_ : Aside0 (((w36.setCell ⟨gb178, 0, none⟩ (.int .u64 t175)).setCell ⟨gb178, 1, none⟩ (.int .u64 t176)).heap[gb178]? = some (.cells #[.int .u64 t175, .int .u64 t176] 26 (0, 0))) := ⟨by (with_reducible repeat (first | refine blk_drewN ?_ _ | refine blk_drew ?_ | refine blk_alloc ?_ _)); refine blk_put (cs := #[.int .u64 t175, .int .u64 0]) ?_ 1 _ rfl; (with_reducible repeat (first | refine blk_drewN ?_ _ | refine blk_drew ?_ | refine blk_alloc ?_ _)); refine blk_put (cs := #[.int .u64 0, .int .u64 0]) ?_ 0 _ rfl; (with_reducible repeat (first | refine blk_drewN ?_ _ | refine blk_drew ?_ | refine blk_alloc ?_ _)); exact BK178.out⟩
     have n4_ : Aside0 (Below w.heap.size w ((w36.setCell ⟨gb178, 0, none⟩ (.int .u64 t175)).setCell ⟨gb178, 1, none⟩ (.int .u64 t176))) := ⟨by repeat (first | (with_reducible first | exact HB.out | apply below_alloc | apply pw_below_drewN | apply below_drew1 | refine below_set ?_ GE170.out | refine below_set ?_ GE171.out | refine below_set ?_ GE172.out | refine below_set ?_ GE178.out) | exact HB.out)⟩
     (try clear BK170)
     (try clear BK171)
     (try clear BK172)
     (try clear BK178)
     (try clear HB)
     generalize ((w36.setCell ⟨gb178, 0, none⟩ (.int .u64 t175)).setCell ⟨gb178, 1, none⟩ (.int .u64 t176)) = w41 at n0_ n1_ n2_ n3_ n4_ ⊢
     have BK170 := n0_
     have BK171 := n1_
     have BK172 := n2_
     have BK178 := n3_
     have HB := n4_
     clear n0_ n1_ n2_ n3_ n4_
     have n0_ := aM' (blk_drew BK170.out)
     have n1_ := aM' (blk_drew BK171.out)
     have n2_ := aM' (blk_drew BK172.out)
     have n3_ := aM' (blk_drew BK178.out)
     have n4_ := aM' (below_drew1 HB.out)
     clear BK170
     clear BK171
     clear BK172
     clear BK178
     clear HB
     have BK170 := n0_
     have BK171 := n1_
     have BK172 := n2_
     have BK178 := n3_
     have HB := n4_
     clear n0_ n1_ n2_ n3_ n4_
     refine start_ (n := 9) (S := fun w' => w'.cell? ⟨gb170, 0, none⟩ = some (.string a1_0) ∧ w'.cell? ⟨gb170, 1, none⟩ = some (.int .u64 a1_1) ∧ w'.cell? ⟨gb170, 2, none⟩ = some (.int .u64 a1_2) ∧ w'.cell? ⟨gb171, 0, none⟩ = some (.string a2_0) ∧ w'.cell? ⟨gb171, 1, none⟩ = some (.int .u64 a2_1) ∧ w'.cell? ⟨gb171, 2, none⟩ = some (.int .u64 a2_2) ∧ w'.cell? ⟨gb178, 0, none⟩ = some (.int .u64 t175) ∧ w'.cell? ⟨gb178, 1, none⟩ = some (.int .u64 t176)) (ds := []) #[false, false, false, false, false, false, false, false, false] (by kernel_rfl) rfl rfl ⟨(blk_cell BK170.out 0).trans rfl, (blk_cell BK170.out 1).trans rfl, (blk_cell BK170.out 2).trans rfl, (blk_cell BK171.out 0).trans rfl, (blk_cell BK171.out 1).trans rfl, (blk_cell BK171.out 2).trans rfl, (blk_cell BK178.out 0).trans rfl, (blk_cell BK178.out 1).trans rfl⟩ (fun hHeld => ?_); refine with_tabW node_Join.tab6 node_Join.bits6 (fun HT_ HW_ => ?_)
     generalize w41.drew = w42 at BK170 BK171 BK172 BK178 HB hHeld ⊢
     refine pure_ (i := 0) (N := some 32) (v := ?_) (a' := ?_) #[true, false, false, false, false, false, false, false, false] rfl rfl (any_of HT_.out (by kernel_rfl)) (fun _ _ _ h => h) (Or.inl ⟨by rfl, ?_⟩) ?_ ?_
     rotate_left
     ·
      intro w'
      go_simp
      with_reducible rfl
     rotate_left
     ·
      simp only [Act.put, List.setIfInBounds_toArray, List.set_cons_zero, List.set_cons_succ, i64_w, i32_w]
      rfl
     refine take_ (i := 1) (N := some 33) (v := ?_) (a' := ?_) #[true, true, false, false, false, false, false, false, false] rfl rfl (take_ofW HT_.out HW_.out (by kernel_rfl)) (fun _ _ _ h => h) (Or.inl ⟨by rfl, ?_⟩) hHeld ?_ ?_
     rotate_left
     ·
      rintro w' ⟨s0, s1, s2, s3, s4, s5, s6, s7⟩
      go_simp
      with_reducible rfl
     rotate_left
     ·
      simp only [Act.put, List.setIfInBounds_toArray, List.set_cons_zero, List.set_cons_succ, i64_w, i32_w]
      rfl
     refine take_ (i := 2) (N := some 34) (v := ?_) (a' := ?_) #[true, true, true, false, false, false, false, false, false] rfl rfl (take_ofW HT_.out HW_.out (by kernel_rfl)) (fun _ _ _ h => h) (Or.inl ⟨by rfl, ?_⟩) hHeld ?_ ?_
     rotate_left
     ·
      rintro w' ⟨s0, s1, s2, s3, s4, s5, s6, s7⟩
      go_simp
      with_reducible rfl
     rotate_left
     ·
      simp only [Act.put, List.setIfInBounds_toArray, List.set_cons_zero, List.set_cons_succ, i64_w, i32_w]
      rfl
     refine take_ (i := 5) (N := some 37) (v := ?_) (a' := ?_) #[true, true, true, false, false, true, false, false, false] rfl rfl (take_ofW HT_.out HW_.out (by kernel_rfl)) (fun _ _ _ h => h) (Or.inl ⟨by rfl, ?_⟩) hHeld ?_ ?_
     rotate_left
     ·
      rintro w' ⟨s0, s1, s2, s3, s4, s5, s6, s7⟩
      go_simp
      with_reducible rfl
     rotate_left
     ·
      simp only [Act.put, List.setIfInBounds_toArray, List.set_cons_zero, List.set_cons_succ, i64_w, i32_w]
      rfl
     refine one_ (i := 3) (N := some 35) #[true, true, true, true, false, true, false, false, false] rfl rfl (one_of HT_.out (by kernel_rfl)) (by decide) (fun K hK => ?_)
     refine goes_ Tryd.func64 (by kernel_rfl) rfl #[.agg #[.string a1_0, .int .u64 a1_1, .int .u64 a1_2], .agg #[.string a2_0, .int .u64 a2_1, .int .u64 a2_2]] (by rfl) rfl rfl (by (try simp only [List.map_toArray, List.map_cons, List.map_nil]); first | done | rfl | (simp only [List.length_drop, List.length_take]; rfl)) ?_
     with_reducible refine (tag_NodeText.calls a1_0 a1_1 a1_2 a2_0 a2_1 a2_2 t179 _ A28.out).mono ?_
     rintro e w43 ⟨rfl, hb⟩
     refine ⟨_, rfl, ?_⟩
     have n0_ := aM' (blk_below (g := gb170) (o := .cells #[.string a1_0, .int .u64 a1_1, .int .u64 a1_2] 28 (0, 0)) (by (with_reducible repeat (first | refine blk_drewN ?_ _ | refine blk_drew ?_ | refine blk_alloc ?_ _)); exact BK170.out) hb)
     have n1_ := aM' (blk_below (g := gb171) (o := .cells #[.string a2_0, .int .u64 a2_1, .int .u64 a2_2] 28 (0, 0)) (by (with_reducible repeat (first | refine blk_drewN ?_ _ | refine blk_drew ?_ | refine blk_alloc ?_ _)); exact BK171.out) hb)
     have n2_ := aM' (blk_below (g := gb172) (o := .cells #[.string (⟨#[]⟩ : ByteArray), .int .u64 0, .int .u64 0] 28 (0, 0)) (by (with_reducible repeat (first | refine blk_drewN ?_ _ | refine blk_drew ?_ | refine blk_alloc ?_ _)); exact BK172.out) hb)
     have n3_ := aM' (blk_below (g := gb178) (o := .cells #[.int .u64 t175, .int .u64 t176] 26 (0, 0)) (by (with_reducible repeat (first | refine blk_drewN ?_ _ | refine blk_drew ?_ | refine blk_alloc ?_ _)); exact BK178.out) hb)
     have n4_ := aM' (below_step (by repeat (first | (with_reducible first | exact HB.out | apply below_alloc | apply pw_below_drewN | apply below_drew1 | refine below_set ?_ GE170.out | refine below_set ?_ GE171.out | refine below_set ?_ GE172.out | refine below_set ?_ GE178.out) | exact HB.out)) hb)
     clear BK170
     clear BK171
     clear BK172
     clear BK178
     clear HB
     have BK170 := n0_
     have BK171 := n1_
     have BK172 := n2_
     have BK178 := n3_
     have HB := n4_
     clear n0_ n1_ n2_ n3_ n4_
     (try clear hb)
     (try clear hb2)
     (try clear hk)
     (try clear hi)
     refine hK.out _ _ ⟨(blk_cell BK170.out 0).trans rfl, (blk_cell BK170.out 1).trans rfl, (blk_cell BK170.out 2).trans rfl, (blk_cell BK171.out 0).trans rfl, (blk_cell BK171.out 1).trans rfl, (blk_cell BK171.out 2).trans rfl, (blk_cell BK178.out 0).trans rfl, (blk_cell BK178.out 1).trans rfl⟩ (fun hHeld => ?_)
     clear hK K
     refine norm_ (a' := ?_) ?_ ?_
     rotate_left
     ·
      show Act.put _ (some 35) _ = _
      simp only [Act.put, List.setIfInBounds_toArray, List.set_cons_zero, List.set_cons_succ, i64_w, i32_w]
      rfl
     refine one_ (i := 4) (N := some 36) #[true, true, true, true, true, true, false, false, false] rfl rfl (one_of HT_.out (by kernel_rfl)) (by decide) (fun K hK => ?_)
     refine goes_ Tryd.func63 (by kernel_rfl) rfl #[.int .i64 a0, .string t179] (by rfl) rfl rfl (by (try simp only [List.map_toArray, List.map_cons, List.map_nil]); first | done | rfl | (simp only [List.length_drop, List.length_take]; rfl)) ?_
     with_reducible refine (tag_Digest.calls a0 t179 t180 _ ?side1 A29.out).mono ?_
     (case side1 => exact Laid.below HLD.out (by repeat (first | (with_reducible first | exact HB.out | apply below_alloc | apply pw_below_drewN | apply below_drew1 | refine below_set ?_ GE170.out | refine below_set ?_ GE171.out | refine below_set ?_ GE172.out | refine below_set ?_ GE178.out) | exact HB.out)))
     rintro e w44 ⟨rfl, hb⟩
     refine ⟨_, rfl, ?_⟩
     have n0_ := aM' (blk_below (g := gb170) (o := .cells #[.string a1_0, .int .u64 a1_1, .int .u64 a1_2] 28 (0, 0)) (by (with_reducible repeat (first | refine blk_drewN ?_ _ | refine blk_drew ?_ | refine blk_alloc ?_ _)); exact BK170.out) hb)
     have n1_ := aM' (blk_below (g := gb171) (o := .cells #[.string a2_0, .int .u64 a2_1, .int .u64 a2_2] 28 (0, 0)) (by (with_reducible repeat (first | refine blk_drewN ?_ _ | refine blk_drew ?_ | refine blk_alloc ?_ _)); exact BK171.out) hb)
     have n2_ := aM' (blk_below (g := gb172) (o := .cells #[.string (⟨#[]⟩ : ByteArray), .int .u64 0, .int .u64 0] 28 (0, 0)) (by (with_reducible repeat (first | refine blk_drewN ?_ _ | refine blk_drew ?_ | refine blk_alloc ?_ _)); exact BK172.out) hb)
     have n3_ := aM' (blk_below (g := gb178) (o := .cells #[.int .u64 t175, .int .u64 t176] 26 (0, 0)) (by (with_reducible repeat (first | refine blk_drewN ?_ _ | refine blk_drew ?_ | refine blk_alloc ?_ _)); exact BK178.out) hb)
     have n4_ := aM' (below_step (by repeat (first | (with_reducible first | exact HB.out | apply below_alloc | apply pw_below_drewN | apply below_drew1 | refine below_set ?_ GE170.out | refine below_set ?_ GE171.out | refine below_set ?_ GE172.out | refine below_set ?_ GE178.out) | exact HB.out)) hb)
     clear BK170
     clear BK171
     clear BK172
     clear BK178
     clear HB
     have BK170 := n0_
     have BK171 := n1_
     have BK172 := n2_
     have BK178 := n3_
     have HB := n4_
     clear n0_ n1_ n2_ n3_ n4_
     (try clear hb)
     (try clear hb2)
     (try clear hk)
     (try clear hi)
     refine hK.out _ _ ⟨(blk_cell BK170.out 0).trans rfl, (blk_cell BK170.out 1).trans rfl, (blk_cell BK170.out 2).trans rfl, (blk_cell BK171.out 0).trans rfl, (blk_cell BK171.out 1).trans rfl, (blk_cell BK171.out 2).trans rfl, (blk_cell BK178.out 0).trans rfl, (blk_cell BK178.out 1).trans rfl⟩ (fun hHeld => ?_)
     clear hK K
     refine norm_ (a' := ?_) ?_ ?_
     rotate_left
     ·
      show Act.put _ (some 36) _ = _
      simp only [Act.put, List.setIfInBounds_toArray, List.set_cons_zero, List.set_cons_succ, i64_w, i32_w]
      rfl
     refine pure_ (i := 6) (N := some 38) (v := ?_) (a' := ?_) #[true, true, true, true, true, true, true, false, false] rfl rfl (any_of HT_.out (by kernel_rfl)) (fun _ _ _ h => h) (Or.inl ⟨by rfl, ?_⟩) ?_ ?_
     rotate_left
     ·
      intro w'
      go_simp
      with_reducible rfl
     rotate_left
     ·
      simp only [Act.put, List.setIfInBounds_toArray, List.set_cons_zero, List.set_cons_succ, i64_w, i32_w]
      rfl
     refine one_ (i := 7) (N := none) #[true, true, true, true, true, true, true, true, false] rfl rfl (one_of HT_.out (by kernel_rfl)) (by decide) (fun K hK => ?_)
     have hs45 : w44.cell? ⟨gb172, 0, none⟩ = some (.string (⟨#[]⟩ : ByteArray)) := (blk_cell BK172.out 0).trans rfl
     have hfs45 := blk_frozen BK172.out 0
     have hns45_0 := NB170_172.out
     have hns45_1 := NB171_172.out
     have hns45_3 := NB178_172.out
     have hms45_0 := NB172_170.out
     have hms45_1 := NB172_171.out
     have hms45_3 := NB172_178.out
     have hs46 : w44.cell? ⟨gb172, 1, none⟩ = some (.int .u64 0) := (blk_cell BK172.out 1).trans rfl
     have hfs46 := blk_frozen BK172.out 1
     have hns46_0 := NB170_172.out
     have hns46_1 := NB171_172.out
     have hns46_3 := NB178_172.out
     have hms46_0 := NB172_170.out
     have hms46_1 := NB172_171.out
     have hms46_3 := NB172_178.out
     have hs47 : w44.cell? ⟨gb172, 2, none⟩ = some (.int .u64 0) := (blk_cell BK172.out 2).trans rfl
     have hfs47 := blk_frozen BK172.out 2
     have hns47_0 := NB170_172.out
     have hns47_1 := NB171_172.out
     have hns47_3 := NB178_172.out
     have hms47_0 := NB172_170.out
     have hms47_1 := NB172_171.out
     have hms47_3 := NB172_178.out
     refine skip_ (w1 := ?_) (by rfl) rfl ?_ ?_
     rotate_left
     ·
      go_simp
      rfl
     refine hK.out _ _ ⟨((cell_far (p := ⟨gb172, _, none⟩) NB170_172.out _).trans (((cell_far (p := ⟨gb172, _, none⟩) NB170_172.out _).trans (((cell_far (p := ⟨gb172, _, none⟩) NB170_172.out _).trans (hHeld.1)))))), ((cell_far (p := ⟨gb172, _, none⟩) NB170_172.out _).trans (((cell_far (p := ⟨gb172, _, none⟩) NB170_172.out _).trans (((cell_far (p := ⟨gb172, _, none⟩) NB170_172.out _).trans (hHeld.2.1)))))), ((cell_far (p := ⟨gb172, _, none⟩) NB170_172.out _).trans (((cell_far (p := ⟨gb172, _, none⟩) NB170_172.out _).trans (((cell_far (p := ⟨gb172, _, none⟩) NB170_172.out _).trans (hHeld.2.2.1)))))), ((cell_far (p := ⟨gb172, _, none⟩) NB171_172.out _).trans (((cell_far (p := ⟨gb172, _, none⟩) NB171_172.out _).trans (((cell_far (p := ⟨gb172, _, none⟩) NB171_172.out _).trans (hHeld.2.2.2.1)))))), ((cell_far (p := ⟨gb172, _, none⟩) NB171_172.out _).trans (((cell_far (p := ⟨gb172, _, none⟩) NB171_172.out _).trans (((cell_far (p := ⟨gb172, _, none⟩) NB171_172.out _).trans (hHeld.2.2.2.2.1)))))), ((cell_far (p := ⟨gb172, _, none⟩) NB171_172.out _).trans (((cell_far (p := ⟨gb172, _, none⟩) NB171_172.out _).trans (((cell_far (p := ⟨gb172, _, none⟩) NB171_172.out _).trans (hHeld.2.2.2.2.2.1)))))), ((cell_far (p := ⟨gb172, _, none⟩) NB178_172.out _).trans (((cell_far (p := ⟨gb172, _, none⟩) NB178_172.out _).trans (((cell_far (p := ⟨gb172, _, none⟩) NB178_172.out _).trans (hHeld.2.2.2.2.2.2.1)))))), ((cell_far (p := ⟨gb172, _, none⟩) NB178_172.out _).trans (((cell_far (p := ⟨gb172, _, none⟩) NB178_172.out _).trans (((cell_far (p := ⟨gb172, _, none⟩) NB178_172.out _).trans (hHeld.2.2.2.2.2.2.2))))))⟩ (fun hHeld => ?_)
     clear hK K
     refine pure_ (i := 8) (N := some 7) (v := ?_) (a' := ?_) #[true, true, true, true, true, true, true, true, true] rfl rfl (any_of HT_.out (by kernel_rfl)) (fun _ _ _ h => h) (Or.inl ⟨by rfl, ?_⟩) ?_ ?_
     rotate_left
     ·
      intro w'
      go_simp
      with_reducible rfl
     rotate_left
     ·
      simp only [Act.put, List.setIfInBounds_toArray, List.set_cons_zero, List.set_cons_succ, i64_w, i32_w]
      rfl
     refine done_ (done_of HT_.out (by kernel_rfl)) ?_
     try go_wp2
     refine bodyPost_ret (results_ct rfl _ _ gb172 28 #[.string t180, .int .u64 t175, .int .u64 t176] (0, 0) _ rfl (by (with_reducible repeat (first | refine blk_drewN ?_ _ | refine blk_drew ?_ | refine blk_alloc ?_ _)); refine blk_put (cs := #[.string t180, .int .u64 t175, .int .u64 0]) ?_ 2 _ rfl; (with_reducible repeat (first | refine blk_drewN ?_ _ | refine blk_drew ?_ | refine blk_alloc ?_ _)); refine blk_put (cs := #[.string t180, .int .u64 0, .int .u64 0]) ?_ 1 _ rfl; (with_reducible repeat (first | refine blk_drewN ?_ _ | refine blk_drew ?_ | refine blk_alloc ?_ _)); refine blk_put (cs := #[.string (⟨#[]⟩ : ByteArray), .int .u64 0, .int .u64 0]) ?_ 0 _ rfl; (with_reducible repeat (first | refine blk_drewN ?_ _ | refine blk_drew ?_ | refine blk_alloc ?_ _)); exact BK172.out) Tryd.underlying28 rfl (by kernel_rfl)) rfl ?_
     exact ⟨by first | rfl | (simp [errW_none, errW_some] <;> rfl) | (simp [*, errW_none, errW_some] <;> rfl), by repeat (first | (with_reducible first | exact HB.out | apply below_alloc | apply pw_below_drewN | apply below_drew1 | refine below_set ?_ GE170.out | refine below_set ?_ GE171.out | refine below_set ?_ GE172.out | refine below_set ?_ GE178.out) | exact HB.out)⟩
    ·
     rw [if_neg c27] at H
     have c27b0 : (t177 == 0) = false := beq_eq_false_iff_ne.mpr c27
     have c27b1 : (t177 != 0) = true := bne_iff_ne.mpr c27
     simp only [Option.some.injEq, Prod.mk.injEq] at H
     obtain ⟨rfl, rfl, rfl, rfl⟩ := H
     have hnb48 := NB170_171.out
     have hnc48 := NB171_170.out
     have hnb49 := NB170_172.out
     have hnc49 := NB172_170.out
     have hcz50_0 : wc.cell? ⟨gb170, 0, none⟩ = some (.string a1_0) := (blk_cell BK170.out 0).trans rfl
     have hcz50_1 : wc.cell? ⟨gb170, 1, none⟩ = some (.int .u64 a1_1) := (blk_cell BK170.out 1).trans rfl
     have hcz50_2 : wc.cell? ⟨gb170, 2, none⟩ = some (.int .u64 a1_2) := (blk_cell BK170.out 2).trans rfl
     have hfz50_0 := blk_frozen BK170.out 0
     have hfz50_1 := blk_frozen BK170.out 1
     have hfz50_2 := blk_frozen BK170.out 2
     have hnb51 := NB171_172.out
     have hnc51 := NB172_171.out
     have hcz52_0 : wc.cell? ⟨gb171, 0, none⟩ = some (.string a2_0) := (blk_cell BK171.out 0).trans rfl
     have hcz52_1 : wc.cell? ⟨gb171, 1, none⟩ = some (.int .u64 a2_1) := (blk_cell BK171.out 1).trans rfl
     have hcz52_2 : wc.cell? ⟨gb171, 2, none⟩ = some (.int .u64 a2_2) := (blk_cell BK171.out 2).trans rfl
     have hfz52_0 := blk_frozen BK171.out 0
     have hfz52_1 := blk_frozen BK171.out 1
     have hfz52_2 := blk_frozen BK171.out 2
     go_wp2_with (first | ((with_reducible refine gate_callee (f := 61) rfl ?_); refine goesL_ (some 26) rfl rfl Tryd.func61 (by kernel_rfl) rfl #[.agg #[.int .u64 a1_1, .int .u64 a1_2], .agg #[.int .u64 a2_1, .int .u64 a2_2]] rfl (by (try simp only [List.map_toArray, List.map_cons, List.map_nil]); first | done | rfl | (simp only [List.length_drop, List.length_take]; rfl)) ?_; (with_reducible refine (u128_Add.calls a1_1 a1_2 a2_1 a2_2 t175 t176 t177 _ A26.out).mono ?_); rintro e w53 ⟨rfl, hb⟩; refine ⟨_, rfl, ?_⟩; have n0_ := aM' (blk_below (g := gb170) (o := .cells #[.string a1_0, .int .u64 a1_1, .int .u64 a1_2] 28 (0, 0)) (by (with_reducible repeat (first | refine blk_drewN ?_ _ | refine blk_drew ?_ | refine blk_alloc ?_ _)); exact BK170.out) hb); have n1_ := aM' (blk_below (g := gb171) (o := .cells #[.string a2_0, .int .u64 a2_1, .int .u64 a2_2] 28 (0, 0)) (by (with_reducible repeat (first | refine blk_drewN ?_ _ | refine blk_drew ?_ | refine blk_alloc ?_ _)); exact BK171.out) hb); have n2_ := aM' (blk_below (g := gb172) (o := .cells #[.string (⟨#[]⟩ : ByteArray), .int .u64 0, .int .u64 0] 28 (0, 0)) (by (with_reducible repeat (first | refine blk_drewN ?_ _ | refine blk_drew ?_ | refine blk_alloc ?_ _)); exact BK172.out) hb); have n3_ := aM' (below_step (by repeat (first | (with_reducible first | exact HB.out | apply below_alloc | apply pw_below_drewN | apply below_drew1 | refine below_set ?_ GE170.out | refine below_set ?_ GE171.out | refine below_set ?_ GE172.out) | exact HB.out)) hb); clear BK170; clear BK171; clear BK172; clear HB; have BK170 := n0_; have BK171 := n1_; have BK172 := n2_; have HB := n3_; clear n0_ n1_ n2_ n3_; (try clear hb); (try clear hb2); (try clear hk); (try clear hi)) | ((with_reducible refine gate_dst (N := 8) rfl ?_); refine box_event ?hg (N := 8) ?hd (cs := #[.int .u64 0, .int .u64 0]) (t := 26) ?hr ?_; (case hd => rfl); (case hg => rfl); (case hr => first | (go_simp; done) | (go_simp; rfl)); intro gb178 hg w54 hbox hb; have n0_ := aM' (blk_below (g := gb170) (o := .cells #[.string a1_0, .int .u64 a1_1, .int .u64 a1_2] 28 (0, 0)) (by (with_reducible repeat (first | refine blk_drewN ?_ _ | refine blk_drew ?_ | refine blk_alloc ?_ _)); exact BK170.out) hb); have n1_ := aM' (blk_below (g := gb171) (o := .cells #[.string a2_0, .int .u64 a2_1, .int .u64 a2_2] 28 (0, 0)) (by (with_reducible repeat (first | refine blk_drewN ?_ _ | refine blk_drew ?_ | refine blk_alloc ?_ _)); exact BK171.out) hb); have n2_ := aM' (blk_below (g := gb172) (o := .cells #[.string (⟨#[]⟩ : ByteArray), .int .u64 0, .int .u64 0] 28 (0, 0)) (by (with_reducible repeat (first | refine blk_drewN ?_ _ | refine blk_drew ?_ | refine blk_alloc ?_ _)); exact BK172.out) hb); have n3_ := aM' (below_step (by repeat (first | (with_reducible first | exact HB.out | apply below_alloc | apply pw_below_drewN | apply below_drew1 | refine below_set ?_ GE170.out | refine below_set ?_ GE171.out | refine below_set ?_ GE172.out) | exact HB.out)) hb); have n4_ := aM' (hbox); have n5_ := aM' ((by rw [hg]; exact (below_size (by repeat (first | (with_reducible first | exact HB.out | apply below_alloc | apply pw_below_drewN | apply below_drew1 | refine below_set ?_ GE170.out | refine below_set ?_ GE171.out | refine below_set ?_ GE172.out) | exact HB.out))) : w.heap.size ≤ gb178)); have n6_ := aM' ((by rw [hg]; exact (below_size (by repeat (first | (with_reducible first | exact HB.out | apply below_alloc | apply pw_below_drewN | apply below_drew1 | refine below_set ?_ GE170.out | refine below_set ?_ GE171.out | refine below_set ?_ GE172.out) | exact HB.out))) : w.heap.size ≤ gb178)); have n7_ := aM' ((by rw [hg]; exact Nat.ne_of_lt (blk_lt (g := gb170) (o := .cells #[.string a1_0, .int .u64 a1_1, .int .u64 a1_2] 28 (0, 0)) (by (with_reducible repeat (first | refine blk_drewN ?_ _ | refine blk_drew ?_ | refine blk_alloc ?_ _)); exact BK170.out)) : gb170 ≠ gb178)); have n8_ := aM' ((by rw [hg]; exact Nat.ne_of_gt (blk_lt (g := gb170) (o := .cells #[.string a1_0, .int .u64 a1_1, .int .u64 a1_2] 28 (0, 0)) (by (with_reducible repeat (first | refine blk_drewN ?_ _ | refine blk_drew ?_ | refine blk_alloc ?_ _)); exact BK170.out)) : gb178 ≠ gb170)); have n9_ := aM' ((by rw [hg]; exact Nat.ne_of_lt (blk_lt (g := gb171) (o := .cells #[.string a2_0, .int .u64 a2_1, .int .u64 a2_2] 28 (0, 0)) (by (with_reducible repeat (first | refine blk_drewN ?_ _ | refine blk_drew ?_ | refine blk_alloc ?_ _)); exact BK171.out)) : gb171 ≠ gb178)); have n10_ := aM' ((by rw [hg]; exact Nat.ne_of_gt (blk_lt (g := gb171) (o := .cells #[.string a2_0, .int .u64 a2_1, .int .u64 a2_2] 28 (0, 0)) (by (with_reducible repeat (first | refine blk_drewN ?_ _ | refine blk_drew ?_ | refine blk_alloc ?_ _)); exact BK171.out)) : gb178 ≠ gb171)); have n11_ := aM' ((by rw [hg]; exact Nat.ne_of_lt (blk_lt (g := gb172) (o := .cells #[.string (⟨#[]⟩ : ByteArray), .int .u64 0, .int .u64 0] 28 (0, 0)) (by (with_reducible repeat (first | refine blk_drewN ?_ _ | refine blk_drew ?_ | refine blk_alloc ?_ _)); exact BK172.out)) : gb172 ≠ gb178)); have n12_ := aM' ((by rw [hg]; exact Nat.ne_of_gt (blk_lt (g := gb172) (o := .cells #[.string (⟨#[]⟩ : ByteArray), .int .u64 0, .int .u64 0] 28 (0, 0)) (by (with_reducible repeat (first | refine blk_drewN ?_ _ | refine blk_drew ?_ | refine blk_alloc ?_ _)); exact BK172.out)) : gb178 ≠ gb172)); clear BK170; clear BK171; clear BK172; clear HB; have BK170 := n0_; have BK171 := n1_; have BK172 := n2_; have HB := n3_; have BK178 := n4_; have GW178 := n5_; have GE178 := n6_; have NB170_178 := n7_; have NB178_170 := n8_; have NB171_178 := n9_; have NB178_171 := n10_; have NB172_178 := n11_; have NB178_172 := n12_; clear n0_ n1_ n2_ n3_ n4_ n5_ n6_ n7_ n8_ n9_ n10_ n11_ n12_; clear hb hbox hg; have hnb55 := NB178_170.out; have hnc55 := NB170_178.out; have hnb56 := NB178_171.out; have hnc56 := NB171_178.out; have hnb57 := NB178_172.out; have hnc57 := NB172_178.out; have hcz58_0 : w54.cell? ⟨gb178, 0, none⟩ = some (.int .u64 0) := (blk_cell BK178.out 0).trans rfl; have hcz58_1 : w54.cell? ⟨gb178, 1, none⟩ = some (.int .u64 0) := (blk_cell BK178.out 1).trans rfl; have hfz58_0 := blk_frozen BK178.out 0; have hfz58_1 := blk_frozen BK178.out 1; have hcz59_0 : w54.cell? ⟨gb172, 0, none⟩ = some (.string (⟨#[]⟩ : ByteArray)) := (blk_cell BK172.out 0).trans rfl; have hcz59_1 : w54.cell? ⟨gb172, 1, none⟩ = some (.int .u64 0) := (blk_cell BK172.out 1).trans rfl; have hcz59_2 : w54.cell? ⟨gb172, 2, none⟩ = some (.int .u64 0) := (blk_cell BK172.out 2).trans rfl; have hfz59_0 := blk_frozen BK172.out 0; have hfz59_1 := blk_frozen BK172.out 1; have hfz59_2 := blk_frozen BK172.out 2))
     refine bodyPost_ret (results_ct rfl _ _ gb172 28 #[.string (⟨#[]⟩ : ByteArray), .int .u64 0, .int .u64 0] (0, 0) _ rfl (by (with_reducible repeat (first | refine blk_drewN ?_ _ | refine blk_drew ?_ | refine blk_alloc ?_ _)); refine blk_put (cs := #[.string (⟨#[]⟩ : ByteArray), .int .u64 0, .int .u64 0]) ?_ 2 _ rfl; (with_reducible repeat (first | refine blk_drewN ?_ _ | refine blk_drew ?_ | refine blk_alloc ?_ _)); refine blk_put (cs := #[.string (⟨#[]⟩ : ByteArray), .int .u64 0, .int .u64 0]) ?_ 1 _ rfl; (with_reducible repeat (first | refine blk_drewN ?_ _ | refine blk_drew ?_ | refine blk_alloc ?_ _)); refine blk_put (cs := #[.string (⟨#[]⟩ : ByteArray), .int .u64 0, .int .u64 0]) ?_ 0 _ rfl; (with_reducible repeat (first | refine blk_drewN ?_ _ | refine blk_drew ?_ | refine blk_alloc ?_ _)); refine blk_far ?_ NB172_178.out _; (with_reducible repeat (first | refine blk_drewN ?_ _ | refine blk_drew ?_ | refine blk_alloc ?_ _)); refine blk_far ?_ NB172_178.out _; (with_reducible repeat (first | refine blk_drewN ?_ _ | refine blk_drew ?_ | refine blk_alloc ?_ _)); exact BK172.out) Tryd.underlying28 rfl (by kernel_rfl)) rfl ?_
     exact ⟨by first | rfl | (simp [errW_none, errW_some] <;> rfl) | (simp [*, errW_none, errW_some] <;> rfl), by repeat (first | (with_reducible first | exact HB.out | apply below_alloc | apply pw_below_drewN | apply below_drew1 | refine below_set ?_ GE170.out | refine below_set ?_ GE171.out | refine below_set ?_ GE172.out | refine below_set ?_ GE178.out) | exact HB.out)⟩
end Go.Proofs.YtijfifphcchbbaaDoor.P
namespace Go.Proofs.YtijfifphcchbbaaDoor.P
open Go.RowKit Go.Proofs.YtijfifphcchbbaaDoorW.PrintWords Go.Proofs.YtijfifphcchbbaaDoorW.PrintLast Go.Proofs.YtijfifphcchbbaaDoorW.PrintMore
set_option linter.unusedVariables false
set_option linter.unusedSimpArgs false
set_option linter.unnecessarySimpa false
abbrev nodeV (n : SNode) : Value := .agg #[.string n.f0, .int .u64 n.f1.f0, .int .u64 n.f1.f1]
def TellsNode (F : Nat) (caps : Array Value) (p : SNode → Bool) (w : World) : Prop :=
 ∀ (W : World) (x : SNode), Below w.heap.size w W → Calls Tryd.prog F (#[nodeV x] ++ caps) W fun e W' => e = .returned (.bool (p x)) ∧ Below W.heap.size W W'
def idxOf {α : Type} (p : α → Bool) (l : List α) : Int := match l.findIdx? p with | some i => (i : Int) | none => -1
theorem idxOf_hit {α : Type} (p : α → Bool) (l : List α) (k : Nat) (hk : k < l.length) (h : (l.take k).all (fun x => !p x) = true) (hp : p l[k] = true) : idxOf p l = (k : Int) := by
 unfold idxOf
 have : l.findIdx? p = some k := by
  rw [List.findIdx?_eq_some_iff_getElem]
  refine ⟨hk, hp, fun j hj => ?_⟩
  have := List.all_eq_true.1 h l[j] (List.mem_take_iff_getElem.2 ⟨j, by omega, rfl⟩)
  simpa using this
 rw [this]
theorem idxOf_miss {α : Type} (p : α → Bool) (l : List α) (h : l.all (fun x => !p x) = true) : idxOf p l = -1 := by
 unfold idxOf
 have : l.findIdx? p = none := by
  rw [List.findIdx?_eq_none_iff]
  intro x hx
  have := List.all_eq_true.1 h x hx
  simpa using this
 rw [this]
theorem idxOf_any {α : Type} (p : α → Bool) (l : List α) : decide (0 ≤ idxOf p l) = l.any p := by
 unfold idxOf
 cases h : l.findIdx? p with
 | some i =>
  have := List.findIdx?_eq_some_iff_getElem.1 h
  obtain ⟨hi, hp, _⟩ := this
  have h1 : l.any p = true := List.any_eq_true.2 ⟨l[i], List.getElem_mem hi, hp⟩
  rw [h1]; simp
 | none =>
  have := List.findIdx?_eq_none_iff.1 h
  have h1 : l.any p = false := by
   rw [List.any_eq_false]; intro x hx; simpa using this x hx
  rw [h1]; simp
theorem all_take_snoc {α : Type} (q : α → Bool) (l : List α) (k : Nat) (hk : k < l.length) (h : (l.take k).all q = true) (hq : q l[k] = true) : (l.take (k + 1)).all q = true := by
 rw [List.take_succ_eq_append_getElem hk, List.all_append, h]; simp [hq]
theorem rd_TNode_at (l : List SNode) (k : Nat) (hk : k < l.length) : rd_TNode l (k : Int) = l[k] := by simp [rd_TNode, hk]
set_option maxRecDepth 100000 in
set_option maxHeartbeats 1000000 in
theorem idxNode.calls (F : Nat) (cap0 : Value) (p : SNode → Bool) (A : Option Addr) (c : Nat) (l : List SNode) (w : World) (hr : Kd.C kNode w A l.length l) (hcf : ∀ (args : Array Value) (W : World), Sem.run Tryd.prog (callFunc F args) W = .ok (.enter F args) W) (hp : TellsNode F #[cap0] p w) :
  Calls Tryd.prog 136 #[.slice A l.length c, .func (.func F) #[] #[cap0]] w fun e w' => e = .returned (.int .i64 (idxOf p l)) ∧ Below w.heap.size w w' := by
 have hm : l.length ≤ 9223372036854775807 := Kd.C_max hr
 have HR := aM' hr
 have HP := aM' hp
 clear hr hp
 go_enter Tryd.func136, Tryd.ntmps136
 go_wp2
 go_loopw [8] (fun v wr => ∃ k : Nat, v = .int .i64 k ∧ k ≤ l.length ∧ Aside0 ((l.take k).all (fun x => !p x) = true) ∧ Aside0 (Below w.heap.size w wr)) (fun v _ => l.length - (intOf v).toNat)
 case atStart => exact ⟨0, rfl, Nat.zero_le _, ⟨by simp⟩, ⟨Below.refl _ _⟩⟩
 case round =>
  obtain ⟨k, rfl, hk, HA, HB⟩ := hrel
  by_cases hlt : k < l.length
  ·
   obtain ⟨ad, e, hx0, hx1, hx2⟩ := at_TNode (Kd.C_below HR.out HB.out) (k : Int) (by omega) (by omega)
   cases e
   rw [rd_TNode_at l k hlt] at hx0 hx1 hx2
   rw [Int.toNat_natCast] at hx0 hx1 hx2
   go_wp2_with fail
   refine (HP.out _ l[k] HB.out).mono ?_
   rintro e w1 ⟨rfl, hb⟩
   have hB1 := below_then HB.out HB.out.size hb
   have HB1 := aM' hB1
   clear hB1 hb
   cases hpk : p l[k] with
   | true =>
    have HF := aM' (idxOf_hit p l k hlt HA.out hpk)
    clear hpk
    go_wp2
    go_ret
    exact ⟨by rw [HF.out]; rfl, HB1.out⟩
   | false =>
    have HA1 := aM' (all_take_snoc (fun x => !p x) l k hlt HA.out (by simp [hpk]))
    clear hpk
    go_wp2
    go_roundw
    case rel => exact ⟨k + 1, by go_num, by omega, HA1, HB1⟩
    case measure => simp [intOf]; omega
  ·
   have HF := aM' (idxOf_miss p l (by have := HA.out; rwa [List.take_of_length_le (by omega)] at this))
   go_wp2
   go_ret
   exact ⟨by rw [HF.out]; rfl, HB.out⟩
set_option maxRecDepth 100000 in
set_option maxHeartbeats 1000000 in
theorem anyNode.calls (F : Nat) (cap0 : Value) (p : SNode → Bool) (A : Option Addr) (c : Nat) (l : List SNode) (w : World) (hr : Kd.C kNode w A l.length l) (hcf : ∀ (args : Array Value) (W : World), Sem.run Tryd.prog (callFunc F args) W = .ok (.enter F args) W) (hp : TellsNode F #[cap0] p w) :
  Calls Tryd.prog 97 #[.slice A l.length c, .func (.func F) #[] #[cap0]] w fun e w' => e = .returned (.bool (l.any p)) ∧ Below w.heap.size w w' := by
 have HF := aM' (idxOf_any p l)
 have HCF := aM' hcf
 clear hcf
 have HR := aM' hr
 have HP := aM' hp
 clear hr hp
 go_enter Tryd.func97, Tryd.ntmps97
 go_wp2_with fail
 refine (idxNode.calls F cap0 p A c l _ HR.out HCF.out HP.out).mono ?_
 rintro e w1 ⟨rfl, hb⟩
 have HB1 := aM' hb
 clear hb
 go_wp2
 go_ret
 exact ⟨by rw [← HF.out]; rfl, HB1.out⟩
end Go.Proofs.YtijfifphcchbbaaDoor.P
namespace Go.Proofs.YtijfifphcchbbaaDoor.P
open Go.RowKit Go.Proofs.YtijfifphcchbbaaDoorW.PrintWords Go.Proofs.YtijfifphcchbbaaDoorW.PrintLast Go.Proofs.YtijfifphcchbbaaDoorW.PrintMore
set_option linter.unusedVariables false
set_option linter.unusedSimpArgs false
set_option linter.unnecessarySimpa false
attribute [local go_sem] Oper.semAt_some
def KeepS (S : Nat → Prop) (W W' : World) : Prop := ∀ k, S k → W'.heap[k]? = W.heap[k]?
theorem KeepS.trans {S : Nat → Prop} {A B C : World} (h : KeepS S A B) (k : KeepS S B C) : KeepS S A C := fun i hi => (k i hi).trans (h i hi)
theorem KeepS.alloc {S : Nat → Prop} {W w : World} (h : KeepS S W w) (hlt : ∀ k, S k → k < W.heap.size) (v : Obj) : KeepS S W (w.alloc v).drew := fun k hk => by
 have h1 := h k hk
 have h2 : k < w.heap.size := by
  rw [Array.getElem?_eq_getElem (hlt k hk)] at h1
  exact (Array.getElem?_eq_some_iff.1 h1).1
 exact ((World.grownBy_alloc w v none).block k h2 (by simp)).trans h1
theorem grown_drew (W : World) : W.grownBy W.drew none := ⟨rfl, rfl, rfl, Nat.le_refl _, fun _ _ _ => rfl⟩
end Go.Proofs.YtijfifphcchbbaaDoor.P
namespace Go.Proofs.YtijfifphcchbbaaDoor.P
open Go.RowKit Go.Proofs.YtijfifphcchbbaaDoorW.PrintWords Go.Proofs.YtijfifphcchbbaaDoorW.PrintLast Go.Proofs.YtijfifphcchbbaaDoorW.PrintMore
set_option linter.unusedVariables false
set_option linter.unusedSimpArgs false
set_option linter.unnecessarySimpa false
theorem all1.calls (wd : Int) (B : Nat) (x : SNode) (W : World) (hB : W.heap[B]? = some (.cells #[.int .i64 wd] 3 (0, 0))) :
  Calls Tryd.prog 98 #[nodeV x, .pointer (some ⟨B, 0, none⟩)] W fun e W' => e = .returned (.bool (!nodeOf wd x)) ∧ Below W.heap.size W W' := by
 have hc : W.cell? ⟨B, 0, none⟩ = some (.int .i64 wd) := blk_cell hB 0
 have hlt : B < W.heap.size := blk_lt hB
 have hne : B ≠ W.heap.size := Nat.ne_of_lt hlt
 go_enter Tryd.func98, Tryd.ntmps98
 go_wp2_with fail
 refine (node_Of.calls wd x.f0 x.f1.f0 x.f1.f1 (nodeOf wd x) _ (node_Of_eq wd x)).mono ?_
 rintro e w1 ⟨rfl, hb⟩
 go_wp2
 go_ret
 exact ⟨rfl, (below_alloc (Below.refl _ _) _).trans (hb.mono (by simp))⟩
set_option maxRecDepth 100000 in
set_option maxHeartbeats 1000000 in
theorem all.calls (wd : Int) (A : Option Addr) (c : Nat) (l : List SNode) (w : World) (hr : Kd.C kNode w A l.length l) :
  Calls Tryd.prog 55 #[.int .i64 wd, .slice A l.length c] w fun e w' => e = .returned (.bool (decide (1 ≤ wd) && (decide (wd ≤ 32) && l.all (nodeOf wd)))) ∧ Below w.heap.size w w' := by
 have HR := aM' hr
 clear hr
 have e0 : (!l.any fun x => !nodeOf wd x) = l.all (nodeOf wd) := by rw [List.all_eq_not_any_not]
 go_enter Tryd.func55, Tryd.ntmps55
 by_cases h1 : 1 ≤ wd
 ·
  have b1 : decide (1 ≤ wd) = true := decide_eq_true h1
  by_cases h2 : wd ≤ 32
  ·
   have b2 : decide (wd ≤ 32) = true := decide_eq_true h2
   go_wp2_with fail
   have hcb : (w.alloc (.cells #[.int .i64 wd] 3)).heap[w.heap.size]? = some (.cells #[.int .i64 wd] 3 (0, 0)) := blk_new w _
   have hB0 : Below w.heap.size w (w.alloc (.cells #[.int .i64 wd] 3)) := below_alloc (Below.refl _ _) _
   refine (anyNode.calls 98 _ (fun x => !nodeOf wd x) A c l _ (Kd.C_below HR.out hB0) (fun _ _ => enters_of Tryd.func98 (by kernel_rfl) rfl _ _) (fun W x hW => all1.calls wd w.heap.size x W (blk_below hcb hW))).mono ?_
   rintro e w1 ⟨rfl, hb⟩
   have HB1 := aM' (hB0.trans (hb.mono hB0.size))
   clear hb hcb hB0
   go_wp2_with fail
   go_ret
   exact ⟨by simp only [b1, b2, Bool.true_and]; rw [← e0]; rfl, HB1.out⟩
  ·
   have b2 : decide (wd ≤ 32) = false := decide_eq_false h2
   go_wp2_with fail
   go_ret
   exact ⟨by simp [b2], below_alloc (Below.refl _ _) _⟩
 ·
  have b1 : decide (1 ≤ wd) = false := decide_eq_false h1
  go_wp2_with fail
  go_ret
  exact ⟨by simp [b1], below_alloc (Below.refl _ _) _⟩
end Go.Proofs.YtijfifphcchbbaaDoor.P
namespace Go.Proofs.YtijfifphcchbbaaDoor.P
open Go.RowKit Go.Proofs.YtijfifphcchbbaaDoorW.PrintWords Go.Proofs.YtijfifphcchbbaaDoorW.PrintLast Go.Proofs.YtijfifphcchbbaaDoorW.PrintMore
set_option linter.unusedVariables false
set_option linter.unusedSimpArgs false
set_option linter.unnecessarySimpa false
theorem ext_ext (t : ByteArray) (a i j : Nat) (h : a + j ≤ t.size) : (t.extract a t.size).extract i j = t.extract (a + i) (a + j) := by
 rw [ByteArray.extract_extract]
 congr 1
 omega
theorem chainI_front (t : ByteArray) (s : S8) : ∀ n, 64 * (n + 1) ≤ t.size → chainI s t (n + 1) = chainI (nextI s (t.extract 0 64)) (t.extract 64 t.size) n
 | 0, h => rfl
 | n + 1, h => by
  rw [chainI, chainI_front t s n (by omega), chainI, ext_ext t 64 _ _ (by omega), show 64 + 64 * n = 64 * (n + 1) by omega, show 64 + (64 * n + 64) = 64 * (n + 1) + 64 by omega]
theorem eat_blksN : ∀ (n : Nat) (t : ByteArray), t.size / 64 = n → ∀ r : Run, (blksN n t).foldl eat r = ⟨chainI r.s t n, t.extract (64 * n) t.size, r.n⟩
 | 0, t, h, r => by
  simp only [blksN, List.foldl_cons, List.foldl_nil, eat, chainI]
  simp
 | n + 1, t, h, r => by
  have h64 : 64 * (n + 1) ≤ t.size := by omega
  have hs : (t.extract 64 t.size).size = t.size - 64 := by rw [ByteArray.size_extract]; omega
  rw [blksN, List.foldl_cons, eat_blksN n _ (by rw [hs]; omega)]
  simp only [eat, if_true]
  rw [chainI_front t r.s n h64, hs, ext_ext t 64 _ _ (by omega), show 64 + 64 * n = 64 * (n + 1) by omega, show 64 + (t.size - 64) = t.size by omega]
def ran (t : ByteArray) : Run := ⟨chainI firstI t (t.size / 64), t.extract (64 * (t.size / 64)) t.size, (t.size : Int)⟩
theorem chainI_append (s : S8) (t u : ByteArray) : ∀ n, 64 * n ≤ t.size → chainI s (t ++ u) n = chainI s t n
 | 0, _ => rfl
 | n + 1, h => by
  rw [chainI, chainI, chainI_append s t u n (by omega), ByteArray.extract_append]
  have : u.extract (64 * n - t.size) (64 * n + 64 - t.size) = ByteArray.empty := by
   rw [show 64 * n - t.size = 0 by omega, show 64 * n + 64 - t.size = 0 by omega]; simp
  rw [this, ByteArray.append_empty]
theorem chainI_plus (s : S8) (t : ByteArray) (a : Nat) : ∀ n, 64 * (a + n) ≤ t.size → chainI (chainI s t a) (t.extract (64 * a) t.size) n = chainI s t (a + n)
 | 0, _ => rfl
 | n + 1, h => by
  rw [chainI, chainI_plus s t a n (by omega), ← Nat.add_assoc, chainI, ext_ext t (64 * a) _ _ (by omega), show 64 * a + 64 * n = 64 * (a + n) by omega, show 64 * a + (64 * n + 64) = 64 * (a + n) + 64 by omega]
theorem ext_over (t : ByteArray) (i j : Nat) (h : t.size ≤ j) : t.extract i j = t.extract i t.size := by
 apply ByteArray.ext
 rw [ByteArray.data_extract, ByteArray.data_extract]
 rcases Nat.lt_or_eq_of_le h with h | h
 ·
  exact Array.extract_of_size_lt h
 ·
  rw [← h]
theorem ext_cat (t u : ByteArray) (a : Nat) (h : a ≤ t.size) : t.extract a t.size ++ u = (t ++ u).extract a (t ++ u).size := by
 rw [ByteArray.extract_append, ByteArray.size_append, ext_over t a (t.size + u.size) (by omega), show a - t.size = 0 by omega, show t.size + u.size - t.size = u.size by omega]
 rw [show u.extract 0 u.size = u by simp]
theorem takeI_ran (t u : ByteArray) (h : t.size + u.size < 18446744073709551616) : takeI (ran t) u = ran (t ++ u) := by
 have ha : 64 * (t.size / 64) ≤ t.size := by omega
 have hs : (t ++ u).size = t.size + u.size := ByteArray.size_append
 have hc := ext_cat t u (64 * (t.size / 64)) ha
 have hz : ((t ++ u).extract (64 * (t.size / 64)) (t ++ u).size).size = t.size + u.size - 64 * (t.size / 64) := by rw [ByteArray.size_extract, hs]; omega
 unfold takeI ran
 rw [hc, blks, eat_blksN _ _ rfl]
 rw [← chainI_append firstI t u _ ha, chainI_plus firstI (t ++ u) (t.size / 64) _ (by rw [hz, hs]; omega), hz, hs, ← hs, ext_ext _ _ _ _ (by rw [hs]; omega), hs]
 have e1 : t.size / 64 + (t.size + u.size - 64 * (t.size / 64)) / 64 = (t.size + u.size) / 64 := by omega
 have e2 : 64 * (t.size / 64) + 64 * ((t.size + u.size - 64 * (t.size / 64)) / 64) = 64 * ((t.size + u.size) / 64) := by omega
 have e3 : 64 * (t.size / 64) + (t.size + u.size - 64 * (t.size / 64)) = t.size + u.size := by omega
 have e4 : IntKind.u64.wrap ((t.size : Int) + (u.size : Int)) = ((t.size + u.size : Nat) : Int) := by rw [IntKind.wrap_u64]; omega
 rw [e1, e2, e3, e4]
theorem newRun_ran : newRun = ran ByteArray.empty := rfl
theorem ran_sum (t : ByteArray) (h : t.size < 1000000000000) : (ran t).sum = refSumI t := by
 have hp : (padI (t.size : Int)).size ≤ 72 := by rw [padI_size]; unfold padZ; omega
 rw [Run.sum, show (ran t).n = (t.size : Int) from rfl, takeI_ran t _ (by omega)]
 rfl
theorem sumI_ref (t : ByteArray) (h : t.size < 1000000000000) : sumI t = refSumI t := by
 have e : takeI newRun t = ran t := by
  rw [newRun_ran, takeI_ran _ _ (by show 0 + t.size < _; omega), ByteArray.empty_append]
 rw [sumI, e, ran_sum t h]
end Go.Proofs.YtijfifphcchbbaaDoor.P
namespace Go.Proofs.YtijfifphcchbbaaDoor.P
open Go.RowKit Go.Proofs.YtijfifphcchbbaaDoorW.PrintWords Go.Proofs.YtijfifphcchbbaaDoorW.PrintLast Go.Proofs.YtijfifphcchbbaaDoorW.PrintMore
set_option linter.unusedVariables false
set_option linter.unusedSimpArgs false
set_option linter.unnecessarySimpa false
structure OkU (u : SU128) : Prop where
 h0 : 0 ≤ u.f0 ∧ u.f0 < 18446744073709551616
 h1 : 0 ≤ u.f1 ∧ u.f1 < 18446744073709551616
theorem tagNodeText_eq (l r : SNode) (hl : l.f0.size ≤ 1000000) (hr : r.f0.size ≤ 1000000) : tag_NodeText.f l.f0 l.f1.f0 l.f1.f1 r.f0 r.f1.f0 r.f1.f1 = some (nodeText l r) := by
 unfold tag_NodeText.f
 rw [if_pos ⟨hl, hr⟩]
theorem refNodeText_ev (l r : SNode) (hl : l.f0.size ≤ 1000000) (hr : r.f0.size ≤ 1000000) (ul : OkU l.f1) (ur : OkU r.f1) : Ev (fun k => paymasterref07_NodeText.f k l.f0 l.f1.f0 l.f1.f1 r.f0 r.f1.f0 r.f1.f1) (nodeText l r) := by
 have h1 : ByteArray.size (⟨#[1]⟩ : ByteArray) = 1 := rfl
 unfold paymasterref07_NodeText.f
 refine Ev.congr (fun k => by rw [if_pos (by omega)]) (Ev.bind (refBytes_ev _ _ ul.h0 ul.h1) ?_)
 refine Ev.congr (fun k => by rw [if_pos (by simp only [ByteArray.size_append, u128B_size, h1]; omega), if_pos (by simp only [ByteArray.size_append, u128B_size, h1]; omega)]) (Ev.bind (refBytes_ev _ _ ur.h0 ur.h1) ?_)
 exact Ev.congr (fun k => by rw [if_pos (by simp only [ByteArray.size_append, u128B_size, h1]; omega)]; rfl) (Ev.now _)
def dgI (w : Int) (t : ByteArray) : ByteArray := (refSumI t).extract 0 w.toNat
theorem refSumI_len (t : ByteArray) : (refSumI t).size = 32 := by
 rw [refSumI, digestI, strOfNums_size, digL_length]
theorem dgI_size (w : Int) (t : ByteArray) (h0 : 0 ≤ w) (h : w ≤ 32) : (dgI w t).size = w.toNat := by
 rw [dgI, ByteArray.size_extract, refSumI_len]; omega
theorem tagDigest_eq (w : Int) (t : ByteArray) (h0 : 1 ≤ w) (h1 : w ≤ 32) (ht : t.size ≤ 100000000) : tag_Digest.f w t = some (dgI w t) := by
 have e : sha_Sum.f t = some (refSumI t) := by rw [sha_Sum.f, if_pos (by omega), sumI_ref t (by omega)]
 unfold tag_Digest.f tag_MayWidth.f
 rw [if_pos h0]
 simp only [Option.bind_some, decide_eq_true h1, if_true, e]
 rw [if_pos (by omega), if_pos (by rw [refSumI_len]; omega)]
 rfl
theorem refDigest_eq (w : Int) (t : ByteArray) (h0 : 1 ≤ w) (h1 : w ≤ 32) (ht : t.size ≤ 100000000) : paymasterref07_Digest.f w t = some (dgI w t) := by
 have e : ref05_Sum.f t = some (refSumI t) := by rw [ref05_Sum.f, if_pos (by omega)]
 unfold paymasterref07_Digest.f paymasterref07_MayWidth.f
 rw [if_pos h0]
 simp only [Option.bind_some, decide_eq_true h1, if_true, e]
 rw [if_pos (by omega), if_pos (by rw [refSumI_len]; omega)]
 rfl
def joinI (w : Int) (l r : SNode) : ByteArray × Int × Int × Int :=
 if nodeOf w l = true ∧ nodeOf w r = true then
  (if (addI128 l.f1.f0 l.f1.f1 r.f1.f0 r.f1.f1).2.2 = 0 then (dgI w (nodeText l r), (addI128 l.f1.f0 l.f1.f1 r.f1.f0 r.f1.f1).1, (addI128 l.f1.f0 l.f1.f1 r.f1.f0 r.f1.f1).2.1, 0) else (⟨#[]⟩, 0, 0, 10))
 else (⟨#[]⟩, 0, 0, 70)
theorem nodeOf_w {w : Int} {n : SNode} (h : nodeOf w n = true) : 1 ≤ w ∧ w ≤ 32 ∧ (n.f0.size : Int) = w := by
 simp only [nodeOf, Bool.and_eq_true, decide_eq_true_eq, beq_iff_eq] at h
 exact h
theorem join_ev (w : Int) (l r : SNode) (ul : OkU l.f1) (ur : OkU r.f1) : Ev (fun k => node_Join.f k w l.f0 l.f1.f0 l.f1.f1 r.f0 r.f1.f0 r.f1.f1) (joinI w l r) := by
 unfold node_Join.f joinI
 simp only [node_Of_eq, Option.bind_some]
 cases h1 : nodeOf w l with
 | false =>
  rw [if_neg (show ¬(false = true ∧ nodeOf w r = true) by simp)]
  exact Ev.congr (fun k => by rw [if_neg (show ¬ false = true by simp)]) (Ev.step (f := fun _ => some (⟨#[]⟩, 0, 0, 70)) (fun k => by rw [node_Join.j0, if_pos rfl]) (Ev.now _))
 | true =>
  refine Ev.congr (fun k => by rw [if_pos rfl]) ?_
  cases h2 : nodeOf w r with
  | false =>
   rw [if_neg (by simp)]
   exact Ev.step (f := fun _ => some (⟨#[]⟩, 0, 0, 70)) (fun k => by rw [node_Join.j0, if_pos (by rfl)]) (Ev.now _)
  | true =>
   rw [if_pos (by simp)]
   obtain ⟨w1, w2, w3⟩ := nodeOf_w h1
   obtain ⟨_, _, w4⟩ := nodeOf_w h2
   refine Ev.step (f := fun _ => some _) (fun k => ?_) (Ev.now _)
   rw [node_Join.j0, if_neg (by decide), u128Add_eq _ _ _ _ ul.h0 ul.h1 ur.h0 ur.h1]
   simp only [Option.bind_some, tagNodeText_eq l r (by omega) (by omega), tagDigest_eq w (nodeText l r) w1 w2 (by rw [nodeText_size]; omega)]
   split <;> rfl
theorem refJoin_ev (w : Int) (l r : SNode) (ul : OkU l.f1) (ur : OkU r.f1) : Ev (fun k => paymasterref14_Join.f k w l.f0 l.f1.f0 l.f1.f1 r.f0 r.f1.f0 r.f1.f1) (joinI w l r) := by
 unfold paymasterref14_Join.f joinI
 simp only [ref14Of_eq, Option.bind_some]
 cases h1 : nodeOf w l with
 | false =>
  rw [if_neg (show ¬(false = true ∧ nodeOf w r = true) by simp)]
  exact Ev.congr (fun k => by rw [if_neg (show ¬ false = true by simp)]) (Ev.step (f := fun _ => some (⟨#[]⟩, 0, 0, 70)) (fun k => by rw [paymasterref14_Join.j0, if_pos rfl]) (Ev.now _))
 | true =>
  refine Ev.congr (fun k => by rw [if_pos rfl]) ?_
  cases h2 : nodeOf w r with
  | false =>
   rw [if_neg (by simp)]
   exact Ev.step (f := fun _ => some (⟨#[]⟩, 0, 0, 70)) (fun k => by rw [paymasterref14_Join.j0, if_pos (by rfl)]) (Ev.now _)
  | true =>
   rw [if_pos (by simp)]
   obtain ⟨w1, w2, w3⟩ := nodeOf_w h1
   obtain ⟨_, _, w4⟩ := nodeOf_w h2
   refine Ev.step (f := fun k => _) (fun k => by rw [paymasterref14_Join.j0, if_neg (by decide)]) ?_
   refine Ev.bind (refAdd_ev _ _ _ _ ul.h0 ul.h1 ur.h0 ur.h1) ?_
   split
   ·
    refine Ev.bind (refNodeText_ev l r (by omega) (by omega) ul ur) ?_
    simp only [refDigest_eq w (nodeText l r) w1 w2 (by rw [nodeText_size]; omega), Option.bind_some]
    exact Ev.now _
   ·
    exact Ev.now _
end Go.Proofs.YtijfifphcchbbaaDoor.P
namespace Go.Proofs.YtijfifphcchbbaaDoor.P
open Go.RowKit Go.Proofs.YtijfifphcchbbaaDoorW.PrintWords Go.Proofs.YtijfifphcchbbaaDoorW.PrintLast Go.Proofs.YtijfifphcchbbaaDoorW.PrintMore
set_option linter.unusedVariables false
set_option linter.unusedSimpArgs false
set_option linter.unnecessarySimpa false
attribute [local go_sem] Oper.semAt_some
abbrev nodeJ (j : ByteArray × Int × Int × Int) : SNode := ⟨j.1, ⟨j.2.1, j.2.2.1⟩⟩
abbrev nodeA (n : SNode) : Array Value := #[.string n.f0, .int .u64 n.f1.f0, .int .u64 n.f1.f1]
structure Clim (w : World) (wd : Int) (st r2 : SNode) (r3 : Int) (W : World) : Prop where
 h0 : W.heap[w.heap.size]? = some (.cells #[.int .i64 wd] 3 (0, 0))
 h1 : W.heap[w.heap.size + 1]? = some (.cells (nodeA st) 28 (0, 0))
 h2 : W.heap[w.heap.size + 1 + 1]? = some (.cells (nodeA r2) 28 (0, 0))
 h3 : W.heap[w.heap.size + 1 + 1 + 1]? = some (.cells #[.int .i64 r3] 29 (0, 0))
 hB : Below w.heap.size w W
theorem Clim.lt {w W : World} {wd r3 : Int} {st r2 : SNode} (h : Clim w wd st r2 r3 W) : w.heap.size + 1 + 1 + 1 < W.heap.size := blk_lt h.h3
theorem Clim.below {w W W' : World} {wd r3 : Int} {st r2 : SNode} (h : Clim w wd st r2 r3 W) (hb : Below W.heap.size W W') : Clim w wd st r2 r3 W' :=
 ⟨blk_below h.h0 hb, blk_below h.h1 hb, blk_below h.h2 hb, blk_below h.h3 hb, h.hB.trans (hb.mono h.hB.size)⟩
theorem Clim.own {w X Y : World} {wd r3 : Int} {st r2 : SNode} {B : Nat} {row : Option Nat} (h : Clim w wd st r2 r3 X) (hg : X.grownBy Y row) (hlt : w.heap.size + 1 + 1 + 1 < B) (hr : ∀ r, row = some r → B ≤ r) : Clim w wd st r2 r3 Y := by
 have hl := h.lt
 have hk : ∀ k, k ≤ w.heap.size + 1 + 1 + 1 → Y.heap[k]? = X.heap[k]? := fun k hk => hg.block k (by omega) (fun e => by have := hr k e.symm; omega)
 exact ⟨(hk _ (by omega)).trans h.h0, (hk _ (by omega)).trans h.h1, (hk _ (by omega)).trans h.h2, (hk _ (by omega)).trans h.h3, ⟨hg.os.trans h.hB.os, hg.tape.trans h.hB.tape, hg.output.trans h.hB.output, Nat.le_trans h.hB.size hg.size, fun i hi => (hk i (by omega)).trans (h.hB.block i hi)⟩⟩
theorem Clim.put {w W : World} {wd r3 : Int} {st r2 : SNode} (h : Clim w wd st r2 r3 W) (x : SNode) (e : Int) :
  Clim w wd st x e ((((W.setCell ⟨w.heap.size + 1 + 1, 0, none⟩ (.string x.f0)).setCell ⟨w.heap.size + 1 + 1, 1, none⟩ (.int .u64 x.f1.f0)).setCell ⟨w.heap.size + 1 + 1, 2, none⟩ (.int .u64 x.f1.f1)).setCell ⟨w.heap.size + 1 + 1 + 1, 0, none⟩ (.int .i64 e)) := by
 have a1 := blk_put (cs' := nodeA ⟨x.f0, r2.f1⟩) h.h2 0 (.string x.f0) rfl
 have a2 := blk_put (cs' := nodeA ⟨x.f0, ⟨x.f1.f0, r2.f1.f1⟩⟩) a1 1 (.int .u64 x.f1.f0) rfl
 have a3 := blk_put (cs' := nodeA x) a2 2 (.int .u64 x.f1.f1) rfl
 exact ⟨blk_far (blk_far (blk_far (blk_far h.h0 (by (try dsimp only); omega) _) (by (try dsimp only); omega) _) (by (try dsimp only); omega) _) (by (try dsimp only); omega) _, blk_far (blk_far (blk_far (blk_far h.h1 (by (try dsimp only); omega) _) (by (try dsimp only); omega) _) (by (try dsimp only); omega) _) (by (try dsimp only); omega) _,
  blk_far a3 (by (try dsimp only); omega) _, blk_put (blk_far (blk_far (blk_far h.h3 (by (try dsimp only); omega) _) (by (try dsimp only); omega) _) (by (try dsimp only); omega) _) 0 (.int .i64 e) rfl,
  below_set (below_set (below_set (below_set h.hB (by (try dsimp only); omega)) (by (try dsimp only); omega)) (by (try dsimp only); omega)) (by (try dsimp only); omega)⟩
theorem Clim.step {w W : World} {wd r3 : Int} {st r2 : SNode} (h : Clim w wd st r2 r3 W) (x : SNode) :
  Clim w wd x r2 r3 (((W.setCell ⟨w.heap.size + 1, 0, none⟩ (.string x.f0)).setCell ⟨w.heap.size + 1, 1, none⟩ (.int .u64 x.f1.f0)).setCell ⟨w.heap.size + 1, 2, none⟩ (.int .u64 x.f1.f1)) := by
 have a1 := blk_put (cs' := nodeA ⟨x.f0, st.f1⟩) h.h1 0 (.string x.f0) rfl
 have a2 := blk_put (cs' := nodeA ⟨x.f0, ⟨x.f1.f0, st.f1.f1⟩⟩) a1 1 (.int .u64 x.f1.f0) rfl
 have a3 := blk_put (cs' := nodeA x) a2 2 (.int .u64 x.f1.f1) rfl
 exact ⟨blk_far (blk_far (blk_far h.h0 (by (try dsimp only); omega) _) (by (try dsimp only); omega) _) (by (try dsimp only); omega) _, a3, blk_far (blk_far (blk_far h.h2 (by (try dsimp only); omega) _) (by (try dsimp only); omega) _) (by (try dsimp only); omega) _, blk_far (blk_far (blk_far h.h3 (by (try dsimp only); omega) _) (by (try dsimp only); omega) _) (by (try dsimp only); omega) _,
  below_set (below_set (below_set h.hB (by (try dsimp only); omega)) (by (try dsimp only); omega)) (by (try dsimp only); omega)⟩
theorem put3 {W : World} {g : Nat} {z : SNode} (h : W.heap[g]? = some (.cells (nodeA z) 28 (0, 0))) (x : SNode) :
  (((W.setCell ⟨g, 0, none⟩ (.string x.f0)).setCell ⟨g, 1, none⟩ (.int .u64 x.f1.f0)).setCell ⟨g, 2, none⟩ (.int .u64 x.f1.f1)).heap[g]? = some (.cells (nodeA x) 28 (0, 0)) := by
 have a1 := blk_put (cs' := nodeA ⟨x.f0, z.f1⟩) h 0 (.string x.f0) rfl
 have a2 := blk_put (cs' := nodeA ⟨x.f0, ⟨x.f1.f0, z.f1.f1⟩⟩) a1 1 (.int .u64 x.f1.f0) rfl
 exact blk_put (cs' := nodeA x) a2 2 (.int .u64 x.f1.f1) rfl
theorem far3 {W : World} {g k : Nat} {o : Obj} (h : W.heap[k]? = some o) (hn : k ≠ g) (a b c : Value) : (((W.setCell ⟨g, 0, none⟩ a).setCell ⟨g, 1, none⟩ b).setCell ⟨g, 2, none⟩ c).heap[k]? = some o := by
 rw [Below.heap_setCell _ _ _ _ hn, Below.heap_setCell _ _ _ _ hn, Below.heap_setCell _ _ _ _ hn]
 exact h
theorem below3 {W V : World} (h : Below W.heap.size W V) {g : Nat} (hg : W.heap.size ≤ g) (a b c : Value) : Below W.heap.size W (((V.setCell ⟨g, 0, none⟩ a).setCell ⟨g, 1, none⟩ b).setCell ⟨g, 2, none⟩ c) :=
 below_set (below_set (below_set h hg) hg) hg
structure Two (W : World) (b12 b13 : Nat) (x s : SNode) (W' : World) : Prop where
 ne : b12 ≠ b13
 l12 : W.heap.size ≤ b12
 l13 : W.heap.size ≤ b13
 hB : Below W.heap.size W W'
 h12 : W'.heap[b12]? = some (.cells (nodeA x) 28 (0, 0))
 h13 : W'.heap[b13]? = some (.cells (nodeA s) 28 (0, 0))
theorem Two.put {W V : World} {b12 b13 : Nat} {x s : SNode} (h : Two W b12 b13 x s V) (x' s' : SNode) :
  Two W b12 b13 x' s' ((((((V.setCell ⟨b12, 0, none⟩ (.string x'.f0)).setCell ⟨b12, 1, none⟩ (.int .u64 x'.f1.f0)).setCell ⟨b12, 2, none⟩ (.int .u64 x'.f1.f1)).setCell ⟨b13, 0, none⟩ (.string s'.f0)).setCell ⟨b13, 1, none⟩ (.int .u64 s'.f1.f0)).setCell ⟨b13, 2, none⟩ (.int .u64 s'.f1.f1)) :=
 ⟨h.ne, h.l12, h.l13, below3 (below3 h.hB h.l12 _ _ _) h.l13 _ _ _, far3 (put3 h.h12 x') h.ne _ _ _, put3 (far3 h.h13 (Ne.symm h.ne) _ _ _) s'⟩
end Go.Proofs.YtijfifphcchbbaaDoor.P
namespace Go.Proofs.YtijfifphcchbbaaDoor.P
open Go.RowKit Go.Proofs.YtijfifphcchbbaaDoorW.PrintWords Go.Proofs.YtijfifphcchbbaaDoorW.PrintLast Go.Proofs.YtijfifphcchbbaaDoorW.PrintMore
set_option linter.unusedVariables false
set_option linter.unusedSimpArgs false
set_option linter.unnecessarySimpa false
section
variable {F : Fence} {m : Nat} {P : Program} {ops : Array Oper} {Q : Exit → Act → World → Prop}
def StepAtIn (F : Fence) (m : Nat) (P : Program) (ops : Array Oper) (Q : Exit → Act → World → Prop) (I : (Nat → Bool) → Act → World → Prop) (i : Nat) : Prop :=
 ∀ o, ops[i]? = some o → ∀ l a w, I l a w → l i = false → (∀ j ∈ rgNeeds o, l j = true) → if Region.wanted o (yielded ops a.tmps) = true then o.wpIn F m P a w (fun a' w' => I (upd l i) a' w') Q else (∀ f, o.about P w a.eval = some f → F.fn f) ∧ I (upd l i) (a.put o.dst undef) w
theorem rg_anyIn (I : (Nat → Bool) → Act → World → Prop) (hord : rgOrd ops = true) (hstep : ∀ i, i < ops.size → StepAtIn F m P ops Q I i) (hend : ∀ l a w, I l a w → (∀ i, i < ops.size → l i = true) → Q .normal a w) :
  ∀ (fuel : Nat) (arr : Array Bool) (a : Act) (w : World), arr.size = ops.size → I (fun j => arr.getD j false) a w → rgUndone ops.size (fun j => arr.getD j false) ≤ fuel → wpAnyIn F m P .any ops Q fuel arr a w := by
 have hready : ∀ arr : Array Bool, arr.size = ops.size → Region.ready .any ops arr = [] → ∀ i, i < ops.size → arr.getD i false = true := by
  intro arr hs hr i
  induction i using Nat.strongRecOn with
  | ind i ih =>
   intro hi
   cases hb : arr.getD i false with
   | true => rfl
   | false =>
    exfalso
    have ho : ops[i]? = some ops[i] := Array.getElem?_eq_getElem hi
    have hall : (rgNeeds ops[i]).all (fun j => decide (j < i)) = true := by
     have := List.all_eq_true.1 hord i (List.mem_range.2 hi)
     simp only [ho] at this
     exact this
    have hmem : i ∈ Region.ready .any ops arr := by
     unfold Region.ready
     rw [List.mem_filter]
     refine ⟨List.mem_range.2 hi, ?_⟩
     have h1 : arr.getD i true = false := by
      simp only [Array.getD_eq_getD_getElem?] at hb ⊢
      rw [Array.getElem?_eq_getElem (by omega)] at hb ⊢
      simpa using hb
     simp only [h1, Bool.not_false, Bool.true_and, ho, Option.map_some, Option.getD_some]
     rw [← Array.all_toList, List.all_eq_true]
     intro e he
     cases hbd : Region.binds .any e with
     | false => rfl
     | true =>
      have hj : e.on ∈ rgNeeds ops[i] := List.mem_map.2 ⟨e, List.mem_filter.2 ⟨he, hbd⟩, rfl⟩
      have hlt : e.on < i := by simpa using List.all_eq_true.1 hall e.on hj
      rw [ih e.on hlt (by omega)]; rfl
    rw [hr] at hmem
    exact absurd hmem (List.not_mem_nil)
 intro fuel
 induction fuel with
 | zero =>
  intro arr a w hs hI hu
  have hd := rgUndone_zero (Nat.le_zero.1 hu)
  refine ⟨?_, hend _ a w hI hd⟩
  unfold Region.ready
  rw [List.filter_eq_nil_iff]
  intro i hi
  have h1 := hd i (List.mem_range.1 hi)
  have h2 : arr.getD i true = true := by
   have hlt := List.mem_range.1 hi
   simp only [Array.getD_eq_getD_getElem?] at h1 ⊢
   rw [Array.getElem?_eq_getElem (by omega)] at h1 ⊢
   simpa using h1
  simp [h2]
 | succ fuel ih =>
  intro arr a w hs hI hu
  refine ⟨fun hr => hend _ a w hI (hready arr hs hr), fun i hi => ?_⟩
  unfold Region.ready at hi
  rw [List.mem_filter] at hi
  obtain ⟨hir, hi2⟩ := hi
  have hlt := List.mem_range.1 hir
  have ho : ops[i]? = some ops[i] := Array.getElem?_eq_getElem hlt
  simp only [ho, Option.map_some, Option.getD_some, Bool.and_eq_true, Bool.not_eq_true'] at hi2
  have hb : arr.getD i false = false := by
   have h1 := hi2.1
   simp only [Array.getD_eq_getD_getElem?] at h1 ⊢
   rw [Array.getElem?_eq_getElem (by omega)] at h1 ⊢
   simpa using h1
  have hn : ∀ j ∈ rgNeeds ops[i], arr.getD j false = true := by
   intro j hj
   obtain ⟨e, he, rfl⟩ := List.mem_map.1 hj
   obtain ⟨he1, he2⟩ := List.mem_filter.1 he
   have h3 := hi2.2
   rw [← Array.all_toList, List.all_eq_true] at h3
   have := h3 e he1
   rw [he2] at this
   simpa using this
  have hst := hstep i hlt _ ho _ a w hI hb hn
  have hK : ∀ a' w', I (upd (fun j => arr.getD j false) i) a' w' → wpAnyIn F m P .any ops Q fuel (arr.setIfInBounds i true) a' w' := by
   intro a' w' h'
   have e : (fun j => (arr.setIfInBounds i true).getD j false) = upd (fun j => arr.getD j false) i := by
    funext j
    unfold upd
    simp only [Array.getD_eq_getD_getElem?]
    by_cases e : j = i
    ·
     subst e
     rw [if_pos rfl, Array.getElem?_setIfInBounds_self_of_lt (by omega)]; rfl
    ·
     rw [if_neg e, Array.getElem?_setIfInBounds_ne (fun h => e h.symm)]
   refine ih _ a' w' (by simpa using hs) (by rw [e]; exact h') ?_
   rw [e]
   have := rgUndone_upd (l := fun j => arr.getD j false) hlt hb
   omega
  unfold wpOpIn
  rw [ho]
  dsimp only
  split
  ·
   rename_i hw
   rw [if_pos hw] at hst
   exact Oper.wpIn_mono hK hst
  ·
   rename_i hw
   rw [if_neg hw] at hst
   exact ⟨hst.1, hK _ _ hst.2⟩
theorem region_invIn {id : Nat} {a : Act} {w : World} (I : (Nat → Bool) → Act → World → Prop) (n : Nat) (hm : P.follows .mixedOrders = true) (hn : ops.size = n) (hord : rgOrd ops = true) (h0 : I (fun _ => false) a w.drew)
  (hend : ∀ l a w, I l a w → (∀ i, i < n → l i = true) → Q .normal a w) (hstep : ∀ i, i < n → StepAtIn F m P ops Q I i) : (Code.region id ops true).wpIn F m P Q a w := by
 subst hn
 refine wpIn_region_any hm (rg_anyIn I hord hstep hend ops.size _ a _ (by simp) ?_ ?_)
 ·
  have e : (fun j => (Array.replicate ops.size false).getD j false) = fun _ => false := by
   funext j
   simp only [Array.getD_eq_getD_getElem?, Array.getElem?_replicate]
   split <;> rfl
  rw [e]; exact h0
 ·
  unfold rgUndone
  have := List.countP_le_length (p := fun j => !(Array.replicate ops.size false).getD j false) (l := List.range ops.size)
  simpa using this
theorem rgi_step {I : (Nat → Bool) → Act → World → Prop} {i : Nat} {oi : Oper} (hi : ops[i]? = some oi)
  (h : ∀ l a w, I l a w → l i = false → (∀ j ∈ rgNeeds oi, l j = true) → if Region.wanted oi (yielded ops a.tmps) = true then oi.wpIn F m P a w (fun a' w' => I (upd l i) a' w') Q else (∀ f, oi.about P w a.eval = some f → F.fn f) ∧ I (upd l i) (a.put oi.dst undef) w) : StepAtIn F m P ops Q I i := by
 intro o ho
 rw [hi] at ho
 cases ho
 exact h
theorem rgi_val {K : Act → World → Prop} {oi : Oper} {a : Act} {w w' : World} {v : Value} (hF : ∀ f, F.fn f) (hw : Region.wanted oi (yielded ops a.tmps) = true) (hd : ∀ c, oi.op ≠ .defer c) (hrun : (execOp a.eval oi).run P w = .ok (.value v) w') (hK : K (a.put oi.dst v) w') :
  if Region.wanted oi (yielded ops a.tmps) = true then oi.wpIn F m P a w K Q else (∀ f, oi.about P w a.eval = some f → F.fn f) ∧ K (a.put oi.dst undef) w := by
 rw [if_pos hw]; unfold Oper.wpIn; rw [Oper.semAt_eq _ _ _ hd, hrun]; exact ⟨fun f _ => hF f, hK⟩
theorem rgi_skip {K : Act → World → Prop} {oi : Oper} {a : Act} {w w' : World} (hF : ∀ f, F.fn f) (hw : Region.wanted oi (yielded ops a.tmps) = true) (hd : ∀ c, oi.op ≠ .defer c) (hrun : (execOp a.eval oi).run P w = .ok .skip w') (hK : K (a.put oi.dst undef) w') :
  if Region.wanted oi (yielded ops a.tmps) = true then oi.wpIn F m P a w K Q else (∀ f, oi.about P w a.eval = some f → F.fn f) ∧ K (a.put oi.dst undef) w := by
 rw [if_pos hw]; unfold Oper.wpIn; rw [Oper.semAt_eq _ _ _ hd, hrun]; exact ⟨fun f _ => hF f, hK⟩
theorem rgi_call {K : Act → World → Prop} {oi : Oper} {a : Act} {w : World} {f : FuncId} {args : Array Value} (hF : ∀ f, F.fn f) (hdp : F.depth = none) (hw : Region.wanted oi (yielded ops a.tmps) = true) (hd : ∀ c, oi.op ≠ .defer c) (hrun : (execOp a.eval oi).run P w = .ok (.enter f args) w)
  (h : CallsIn F (m - 1) P f args w fun e w' => ∃ v, e = .returned v ∧ K (a.put oi.dst v) w') :
  if Region.wanted oi (yielded ops a.tmps) = true then oi.wpIn F m P a w K Q else (∀ f, oi.about P w a.eval = some f → F.fn f) ∧ K (a.put oi.dst undef) w := by
 rw [if_pos hw]; unfold Oper.wpIn; rw [Oper.semAt_eq _ _ _ hd, hrun]
 rw [Oper.uponIn_enter]
 refine And.intro (fun f _ => hF f) (And.intro (fun h => by rw [hdp] at h; cases h) ?_)
 exact h.mono fun e w' ⟨v, he, hk⟩ => by subst he; exact hk
theorem li_val {w w' : World} {rest : List Oper} {o : Oper} {a : Act} {v : Value} (hg : o.guard = none) (hF : ∀ f, F.fn f) (hd : ∀ c, o.op ≠ .defer c) (hrun : (execOp a.eval o).run P w = .ok (.value v) w') (hK : wpListIn F m P ops Q rest (a.put o.dst v) w') : wpListIn F m P ops Q (o :: rest) a w := by
 refine wpListIn_plain hg fun K hK' => ?_
 unfold Oper.wpIn; rw [Oper.semAt_eq _ _ _ hd, hrun]; exact ⟨fun f _ => hF f, hK' _ _ hK⟩
theorem li_skip {w w' : World} {rest : List Oper} {o : Oper} {a : Act} (hg : o.guard = none) (hF : ∀ f, F.fn f) (hd : ∀ c, o.op ≠ .defer c) (hrun : (execOp a.eval o).run P w = .ok .skip w') (hK : wpListIn F m P ops Q rest (a.put o.dst undef) w') : wpListIn F m P ops Q (o :: rest) a w := by
 refine wpListIn_plain hg fun K hK' => ?_
 unfold Oper.wpIn; rw [Oper.semAt_eq _ _ _ hd, hrun]; exact ⟨fun f _ => hF f, hK' _ _ hK⟩
end
end Go.Proofs.YtijfifphcchbbaaDoor.P
namespace Go.Proofs.YtijfifphcchbbaaDoor.P
open Go.RowKit Go.Proofs.YtijfifphcchbbaaDoorW.PrintWords Go.Proofs.YtijfifphcchbbaaDoorW.PrintLast Go.Proofs.YtijfifphcchbbaaDoorW.PrintMore
set_option linter.unusedVariables false
set_option linter.unusedSimpArgs false
set_option linter.unnecessarySimpa false
attribute [local go_sem] Oper.semAt_some sel_true
theorem chunk.calls (A : Option Addr) (m c : Nat) (w : World) : Calls Tryd.prog 93 #[.slice A m c, .int .i64 2] w fun e w' => e = .returned (.func (.func 133) #[] #[.pointer (some ⟨w.heap.size, 0, none⟩), .pointer (some ⟨w.heap.size + 1, 0, none⟩)]) ∧ w' = (w.alloc (.cells #[.slice A m c] 22)).alloc (.cells #[.int .i64 2] 3) := by
 go_enter Tryd.func93, Tryd.ntmps93
 go_wp2
 go_ret
 exact ⟨rfl, rfl⟩
set_option maxRecDepth 100000 in
theorem fold1.calls (wd : Int) (B : Nat) (a b : SNode) (W : World) (hB : W.heap[B]? = some (.cells #[.int .i64 wd] 3 (0, 0))) (hK : Laid W) (ua : OkU a.f1) (ub : OkU b.f1) :
  Calls Tryd.prog 58 #[nodeV a, nodeV b, .pointer (some ⟨B, 0, none⟩)] W fun e W' => e = .returned (.tuple #[nodeV (nodeJ (joinI wd a b)), .int .i64 (joinI wd a b).2.2.2]) ∧ Below W.heap.size W W' := by
 have hu := Tryd.underlying28
 have hc : ∀ o1 o2 o3, (((W.alloc o1).alloc o2).alloc o3).cell? ⟨B, 0, none⟩ = some (.int .i64 wd) := fun o1 o2 o3 => blk_cell (blk_alloc (blk_alloc (blk_alloc hB o1) o2) o3) 0
 obtain ⟨k, hk⟩ := join_ev wd a b ua ub
 have HJ := aM' (hk k (Nat.le_refl _))
 have HK := aM' hK
 rcases hj : joinI wd a b with ⟨r1, r2, r3, r4⟩
 rw [hj] at HJ
 clear hk hj hK hB
 go_enter Tryd.func58, Tryd.ntmps58
 go_wp2_with fail
 have hBa : Below W.heap.size W (((W.alloc (.cells #[.string a.f0, .int .u64 a.f1.f0, .int .u64 a.f1.f1] 28)).alloc (.cells #[.string b.f0, .int .u64 b.f1.f0, .int .u64 b.f1.f1] 28)).alloc (.cells #[.string ⟨#[]⟩, .int .u64 0, .int .u64 0] 28)) := below_alloc (below_alloc (below_alloc (Below.refl _ _) _) _) _
 refine (node_Join.calls k wd a.f0 a.f1.f0 a.f1.f1 b.f0 b.f1.f0 b.f1.f1 r1 r2 r3 r4 _ (HK.out.below hBa) HJ.out).mono ?_
 rintro e w1 ⟨rfl, hb⟩
 have hz := blk_below (blk_new ((W.alloc (.cells #[.string a.f0, .int .u64 a.f1.f0, .int .u64 a.f1.f1] 28)).alloc (.cells #[.string b.f0, .int .u64 b.f1.f0, .int .u64 b.f1.f1] 28)) (.cells #[.string ⟨#[]⟩, .int .u64 0, .int .u64 0] 28)) hb
 rw [World.size_alloc, World.size_alloc] at hz
 have HB1 := aM' (hBa.trans (hb.mono hBa.size))
 have z0 : w1.cell? ⟨W.heap.size + 1 + 1, 0, none⟩ = some (.string ⟨#[]⟩) := blk_cell hz 0
 have z1 : w1.cell? ⟨W.heap.size + 1 + 1, 1, none⟩ = some (.int .u64 0) := blk_cell hz 1
 have z2 : w1.cell? ⟨W.heap.size + 1 + 1, 2, none⟩ = some (.int .u64 0) := blk_cell hz 2
 have zf : ∀ i, w1.frozen? ⟨W.heap.size + 1 + 1, i, none⟩ = false := fun i => blk_frozen hz i
 clear hb hBa hz HK HJ
 go_wp2
 refine bodyPost_ret (v := .tuple #[.agg #[.string r1, .int .u64 r2, .int .u64 r3], .int .i64 r4]) ?_ rfl ⟨rfl, ?_⟩
 ·
  simp [results, Tryd.results58, go_sem, hu, z0, z1, z2]
 ·
  exact below_set (below_set (below_set HB1.out (by (try dsimp only); omega)) (by (try dsimp only); omega)) (by (try dsimp only); omega)
def chunkV (ad : Addr) (j : Nat) : Value := .slice (some (ad.add (2 * j * 3))) 2 2
theorem slice_from (ad : Addr) (M c i : Nat) (h : i < M) (hc : M ≤ c) (wx : World) : (Instr.slice 22 (.slice (some ad) M c) (some (.int .i64 i)) none none).run Tryd.prog wx = .ok (.slice (some (ad.add (i * 3))) (M - i) (c - i)) wx := by
 have h1 := run_slice_l (P := Tryd.prog) wx 22 (some ad) M c (by kernel_rfl) .i64 (i : Int) (by omega) (by omega)
 rw [h1]
 have hs : (sizeOf (Tryd.prog.elem 22)).run Tryd.prog wx = .ok 3 wx := by kernel_rfl
 rw [hs]
 simp only [Result.andThen, sliced, Int.toNat_natCast]
 rw [if_neg (by omega)]; rfl
theorem slice_two (ad : Addr) (M c i : Nat) (h : i + 2 ≤ M) (hc : M ≤ c) (wx : World) : (Instr.slice 22 (.slice (some ad) M c) (some (.int .i64 i)) (some (.int .i64 ((i : Int) + 2))) (some (.int .i64 ((i : Int) + 2)))).run Tryd.prog wx = .ok (.slice (some (ad.add (i * 3))) 2 2) wx := by
 have h1 := run_slice_lhm (P := Tryd.prog) wx 22 (some ad) M c (by kernel_rfl) .i64 .i64 .i64 (i : Int) ((i : Int) + 2) ((i : Int) + 2) (by omega) (by omega) (by omega) (by omega)
 rw [h1]
 have hs : (sizeOf (Tryd.prog.elem 22)).run Tryd.prog wx = .ok 3 wx := by kernel_rfl
 rw [hs]
 simp only [Result.andThen, sliced, Int.toNat_natCast, show ((i : Int) + 2).toNat = i + 2 by omega]
 rw [if_neg (by omega)]
 simp
set_option maxRecDepth 100000 in
set_option maxHeartbeats 1000000 in
theorem chunk1_in (n : Nat) (hn : 1 ≤ n) (lp sb nb B : Nat) (ad : Addr) (m M c : Nat) (hM : M = 2 * m) (hm : m ≤ 1000000) (hmc : M ≤ c) (S : Nat → Prop) (hSs : S sb) (hSn : S nb)
  (J Jx : List Nat → World → Prop) (hJ : AbidesFrom B J)
  (hY : ∀ j W, J (List.range j) W → j < m → YieldAt Fence.wide (n - 1) Tryd.prog lp #[chunkV ad j] W fun e W' => (e = .returned (.bool true) ∧ J (List.range (j + 1)) W' ∧ KeepS S W W') ∨ (e = .returned (.bool false) ∧ Jx (List.range (j + 1)) W'))
  (W : World) (hs : W.heap[sb]? = some (.cells #[.slice (some ad) M c] 22 (0, 0))) (hpb : W.heap[nb]? = some (.cells #[.int .i64 2] 3 (0, 0))) (h0 : J [] W) :
  CallsIn Fence.wide n Tryd.prog 133 #[.func (.yield lp) #[] #[], .pointer (some ⟨sb, 0, none⟩), .pointer (some ⟨nb, 0, none⟩)] W fun e W' => (∃ v, e = .returned v) ∧ (J (List.range m) W' ∨ ∃ j, j ≤ m ∧ Jx (List.range j) W') := by
 have HS := aM' hs
 have HP := aM' hpb
 have HJ := aM' hJ
 have HY := aM' hY
 have HM := aM' hm
 have HMC := aM' hmc
 have HMM := aM' hM
 clear hs hpb hJ hY hm hmc hM
 refine callsIn_of_wp Tryd.func133 rfl trivial ?_
 simp only [Tryd.ntmps133, List.size_toArray, List.length_cons, List.length_nil, Nat.reduceAdd, Nat.reduceSub, Array.replicate_succ, Array.replicate_zero, List.push_toArray, List.append_toArray, List.nil_append, List.cons_append]
 gi_wp2
 gi_loopw [4] (fun v wr => ∃ i j : Nat, v = .int .i64 i ∧ Aside0 (i = 2 * j ∧ j ≤ m) ∧ Aside0 (J (List.range j) wr) ∧ Aside0 (KeepS S W wr)) (fun v _ => M - (intOf v).toNat)
 case atStart => exact ⟨0, 0, rfl, ⟨rfl, Nat.zero_le _⟩, ⟨h0⟩, ⟨fun _ _ => rfl⟩⟩
 case round =>
  obtain ⟨i, j, rfl, HI, HJs, HK⟩ := hrel
  have x0 : wr.cell? ⟨sb, 0, none⟩ = some (.slice (some ad) M c) := blk_cell ((HK.out sb hSs).trans HS.out) 0
  have x1 : wr.cell? ⟨nb, 0, none⟩ = some (.int .i64 2) := blk_cell ((HK.out nb hSn).trans HP.out) 0
  by_cases hlt : j < m
  ·
   have hi2 : i + 2 ≤ M := by have := HI.out; have := HMM.out; omega
   have b1 : decide (i < M) = true := decide_eq_true (by omega)
   have s1 := fun wx => slice_from ad M c i (by omega) HMC.out wx
   have s2 := fun wx => slice_two ad M c i hi2 HMC.out wx
   have wi : wrap64 ((i : Int) + 2) = (i : Int) + 2 := by have := HMM.out; have := HM.out; exact wrap64_id (by omega) (by omega)
   have mn : min (2 : Int) ((M - i : Nat) : Int) = 2 := by omega
   obtain ⟨fn, tmps, assign, body, hy, hR⟩ := HY.out j wr.drew (HJ.out _ wr _ none HJs.out (grown_drew _) (fun r e => by cases e)) hlt
   have he : chunkV ad j = .slice (some (ad.add (i * 3))) 2 2 := by rw [HI.out.1]; rfl
   rw [he] at hy
   have hR2 := hR.mono (fun e W' h => (show ∃ b : Bool, e = .returned (.bool b) ∧ Aside0 ((b = true ∧ J (List.range (j + 1)) W' ∧ KeepS S wr.drew W') ∨ (b = false ∧ Jx (List.range (j + 1)) W')) from
    h.elim (fun h => ⟨true, h.1, ⟨.inl ⟨rfl, h.2⟩⟩⟩) (fun h => ⟨false, h.1, ⟨.inr ⟨rfl, h.2⟩⟩⟩)))
   clear hR he
   gi_wp2
   refine region_invIn (fun l a W => a = ({ tmps := #[.func (.yield lp) #[] #[], .pointer (some ⟨sb, 0, none⟩), .pointer (some ⟨nb, 0, none⟩), undef, .int .i64 (i : Int), sel (l 6) (.int .i64 2) (u5), .int .i64 (i : Int), .slice (some ad) M c, .int .i64 (M : Int), .bool true, u10, u11, u12, sel (l 0) (.int .i64 2) (u13), sel (l 1) (.slice (some ad) M c) (u14), sel (l 2) (.int .i64 (i : Int)) (u15), sel (l 3) (.slice (some (ad.add (i * 3))) (M - i) (c - i)) (u16), sel (l 4) (.int .i64 ((M - i : Nat) : Int)) (u17), sel (l 5) (.int .i64 2) (u18), u19, u20, u21, u22, u23, u24, u25, u26, u27, u28, u29, u30], defers := [] } : Act) ∧ (W = wr.drew)) 7 rfl rfl (by kernel_rfl) ?h0 ?hend ?hstep
   case h0 => exact ⟨rfl, rfl⟩
   case hstep =>
    refine rg_cons (rg_cons (rg_cons (rg_cons (rg_cons (rg_cons (rg_cons (rg_nil) ?s0) ?s1) ?s2) ?s3) ?s4) ?s5) ?s6
    case s0 =>
     refine rgi_step rfl ?_
     rintro l a W ⟨rfl, rfl⟩ hl hd
     clear hd
     refine rgi_val (v := .int .i64 2) (w' := wr.drew) (fun _ => trivial) rfl (fun _ h => by cases h) (by go_simp) ?_
     refine ⟨?_, ?_⟩
     ·
      simp only [Act.put, List.setIfInBounds_toArray, List.set_cons_zero, List.set_cons_succ]; rfl
     ·
      rfl
    case s1 =>
     refine rgi_step rfl ?_
     rintro l a W ⟨rfl, rfl⟩ hl hd
     clear hd
     refine rgi_val (v := .slice (some ad) M c) (w' := wr.drew) (fun _ => trivial) rfl (fun _ h => by cases h) (by go_simp) ?_
     refine ⟨?_, ?_⟩
     ·
      simp only [Act.put, List.setIfInBounds_toArray, List.set_cons_zero, List.set_cons_succ]; rfl
     ·
      rfl
    case s2 =>
     refine rgi_step rfl ?_
     rintro l a W ⟨rfl, rfl⟩ hl hd
     clear hd
     refine rgi_val (v := .int .i64 (i : Int)) (w' := wr.drew) (fun _ => trivial) rfl (fun _ h => by cases h) (by go_simp) ?_
     refine ⟨?_, ?_⟩
     ·
      simp only [Act.put, List.setIfInBounds_toArray, List.set_cons_zero, List.set_cons_succ]; rfl
     ·
      rfl
    case s3 =>
     refine rgi_step rfl ?_
     rintro l a W ⟨rfl, rfl⟩ hl hd
     have d1 := hd 1 (by decide)
     have d2 := hd 2 (by decide)
     clear hd
     refine rgi_val (v := .slice (some (ad.add (i * 3))) (M - i) (c - i)) (w' := wr.drew) (fun _ => trivial) rfl (fun _ h => by cases h) (by go_simp) ?_
     refine ⟨?_, ?_⟩
     ·
      simp only [Act.put, List.setIfInBounds_toArray, List.set_cons_zero, List.set_cons_succ]; rfl
     ·
      rfl
    case s4 =>
     refine rgi_step rfl ?_
     rintro l a W ⟨rfl, rfl⟩ hl hd
     have d3 := hd 3 (by decide)
     clear hd
     refine rgi_val (v := .int .i64 ((M - i : Nat) : Int)) (w' := wr.drew) (fun _ => trivial) rfl (fun _ h => by cases h) (by go_simp) ?_
     refine ⟨?_, ?_⟩
     ·
      simp only [Act.put, List.setIfInBounds_toArray, List.set_cons_zero, List.set_cons_succ]; rfl
     ·
      rfl
    case s5 =>
     refine rgi_step rfl ?_
     rintro l a W ⟨rfl, rfl⟩ hl hd
     have d0 := hd 0 (by decide)
     have d4 := hd 4 (by decide)
     clear hd
     refine rgi_val (v := .int .i64 2) (w' := wr.drew) (fun _ => trivial) rfl (fun _ h => by cases h) (by go_simp) ?_
     refine ⟨?_, ?_⟩
     ·
      simp only [Act.put, List.setIfInBounds_toArray, List.set_cons_zero, List.set_cons_succ]; rfl
     ·
      rfl
    case s6 =>
     refine rgi_step rfl ?_
     rintro l a W ⟨rfl, rfl⟩ hl hd
     have d5 := hd 5 (by decide)
     clear hd
     refine rgi_val (v := .int .i64 2) (w' := wr.drew) (fun _ => trivial) rfl (fun _ h => by cases h) (by go_simp) ?_
     refine ⟨?_, ?_⟩
     ·
      simp only [Act.put, List.setIfInBounds_toArray, List.set_cons_zero, List.set_cons_succ]; rfl
     ·
      rfl
   case hend =>
    rintro l a W ⟨rfl, rfl⟩ hall
    have e0 := hall 0 (by decide)
    have e1 := hall 1 (by decide)
    have e2 := hall 2 (by decide)
    have e3 := hall 3 (by decide)
    have e4 := hall 4 (by decide)
    have e5 := hall 5 (by decide)
    have e6 := hall 6 (by decide)
    clear hall
    simp only [e0, e1, e2, e3, e4, e5, e6, sel_true]
    clear e0 e1 e2 e3 e4 e5 e6
    gi_wp2_with fail
    refine hR2.mono ?_
    clear hR2 hy x0 x1 s1 s2 mn
    rintro e W3 ⟨b, rfl, HE⟩
    cases b with
    | true =>
     obtain ⟨-, hJ2, hK2⟩ | ⟨h, -⟩ := HE.out
     case inr => exact absurd h (by decide)
     have hK3 : KeepS S W W3 := HK.out.trans hK2
     have HK3 := aM' hK3
     have HJ2 := aM' hJ2
     have x1 : W3.cell? ⟨nb, 0, none⟩ = some (.int .i64 2) := blk_cell ((hK3 nb hSn).trans HP.out) 0
     clear hK2 hK3 hJ2 HE
     gi_wp2
     rw [wi]
     refine ⟨⟨i + 2, j + 1, by simp, ⟨by have := HI.out; omega, hlt⟩, HJ2, HK3⟩, ?_⟩
     show M - ((i : Int) + 2).toNat < M - (i : Int).toNat
     omega
    | false =>
     obtain ⟨h, -⟩ | ⟨-, hJ2⟩ := HE.out
     case inl => exact absurd h (by decide)
     have HJ2 := aM' hJ2
     clear hJ2 HE
     gi_wp2
     refine bodyPost_ret (results_none rfl _ _ _) rfl ?_
     exact ⟨⟨_, rfl⟩, .inr ⟨_, hlt, HJ2.out⟩⟩
  ·
   have b1 : decide (i < M) = false := decide_eq_false (by have := HI.out; have := HMM.out; omega)
   obtain rfl : j = m := by have := HI.out; omega
   gi_wp2
   go_end0
   exact ⟨⟨_, rfl⟩, .inl HJs.out⟩
end Go.Proofs.YtijfifphcchbbaaDoor.P
namespace Go.Proofs.YtijfifphcchbbaaDoor.P
open Go.RowKit Go.Proofs.YtijfifphcchbbaaDoorW.PrintWords Go.Proofs.YtijfifphcchbbaaDoorW.PrintLast Go.Proofs.YtijfifphcchbbaaDoorW.PrintMore
set_option linter.unusedVariables false
set_option linter.unusedSimpArgs false
set_option linter.unnecessarySimpa false
def valU (u : SU128) : Int := u.f0 * 18446744073709551616 + u.f1
def totL : List SNode → Int
 | [] => 0
 | n :: l => valU n.f1 + totL l
theorem totL_append : ∀ a b : List SNode, totL (a ++ b) = totL a + totL b
 | [], b => by simp [totL]
 | n :: a, b => by rw [List.cons_append, totL, totL, totL_append a b]; omega
structure NodeK (w : Int) (n : SNode) : Prop where
 of : nodeOf w n = true
 u : OkU n.f1
theorem valU_nn {u : SU128} (h : OkU u) : 0 ≤ valU u := by have := h.h0; have := h.h1; unfold valU; omega
theorem valU_lt {u : SU128} (h : OkU u) : valU u < 340282366920938463463374607431768211456 := by have := h.h0; have := h.h1; unfold valU; omega
theorem totL_nn {w : Int} : ∀ {l : List SNode}, (∀ x ∈ l, NodeK w x) → 0 ≤ totL l
 | [], _ => by simp [totL]
 | n :: l, h => by
  have h1 := valU_nn (h n (List.mem_cons_self ..)).u
  have h2 := totL_nn (l := l) fun x hx => h x (List.mem_cons_of_mem _ hx)
  rw [totL]; omega
def joinV (w : Int) (l r : SNode) : SNode := ⟨dgI w (nodeText l r), ⟨l.f1.f0 + r.f1.f0 + (l.f1.f1 + r.f1.f1) / 18446744073709551616, (l.f1.f1 + r.f1.f1) % 18446744073709551616⟩⟩
theorem joinV_val (w : Int) (l r : SNode) : valU (joinV w l r).f1 = valU l.f1 + valU r.f1 := by unfold joinV valU; dsimp only; omega
theorem joinV_k {w : Int} {l r : SNode} (hl : NodeK w l) (hr : NodeK w r) (h : valU l.f1 + valU r.f1 < 340282366920938463463374607431768211456) : NodeK w (joinV w l r) := by
 obtain ⟨w1, w2, _⟩ := nodeOf_w hl.of
 refine ⟨?_, ?_⟩
 ·
  have e : ((joinV w l r).f0.size : Int) = w := by show ((dgI w (nodeText l r)).size : Int) = w; rw [dgI_size _ _ (by omega) w2]; omega
  simp [nodeOf, e, w1, w2]
 ·
  have h1 := hl.u.h0; have h2 := hl.u.h1; have h3 := hr.u.h0; have h4 := hr.u.h1
  unfold valU at h
  unfold joinV
  exact ⟨by dsimp only; omega, by dsimp only; omega⟩
theorem joinI_room {w : Int} {l r : SNode} (hl : NodeK w l) (hr : NodeK w r) (h : valU l.f1 + valU r.f1 < 340282366920938463463374607431768211456) : joinI w l r = ((joinV w l r).f0, (joinV w l r).f1.f0, (joinV w l r).f1.f1, 0) := by
 have h2 := hl.u.h1; have h4 := hr.u.h1
 unfold valU at h
 have ha : l.f1.f0 + r.f1.f0 + (l.f1.f1 + r.f1.f1) / 18446744073709551616 < 18446744073709551616 := by omega
 unfold joinI addI128 joinV
 rw [if_pos ⟨hl.of, hr.of⟩, if_pos ha, if_pos rfl]
theorem joinI_full {w : Int} {l r : SNode} (hl : NodeK w l) (hr : NodeK w r) (h : ¬ valU l.f1 + valU r.f1 < 340282366920938463463374607431768211456) : joinI w l r = (⟨#[]⟩, 0, 0, 10) := by
 have h2 := hl.u.h1; have h4 := hr.u.h1
 unfold valU at h
 have ha : ¬ l.f1.f0 + r.f1.f0 + (l.f1.f1 + r.f1.f1) / 18446744073709551616 < 18446744073709551616 := by omega
 unfold joinI addI128
 rw [if_pos ⟨hl.of, hr.of⟩, if_neg ha, if_neg (by decide)]
def pairsV (w : Int) : List SNode → List SNode
 | a :: b :: l => joinV w a b :: pairsV w l
 | _ => []
def pairsOk : List SNode → Bool
 | a :: b :: l => decide (valU a.f1 + valU b.f1 < 340282366920938463463374607431768211456) && pairsOk l
 | _ => true
theorem pairsV_len (w : Int) : ∀ (n : Nat) (l : List SNode), l.length = 2 * n → (pairsV w l).length = n
 | 0, [], _ => rfl
 | n + 1, a :: b :: l, h => by
  rw [pairsV, List.length_cons, pairsV_len w n l (by simp at h; omega)]
theorem pairsV_tot (w : Int) : ∀ (n : Nat) (l : List SNode), l.length = 2 * n → totL (pairsV w l) = totL l
 | 0, [], _ => rfl
 | n + 1, a :: b :: l, h => by
  rw [pairsV, totL, totL, totL, pairsV_tot w n l (by simp at h; omega), joinV_val]; omega
theorem pairsV_k {w : Int} : ∀ (n : Nat) (l : List SNode), l.length = 2 * n → (∀ x ∈ l, NodeK w x) → pairsOk l = true → ∀ x ∈ pairsV w l, NodeK w x
 | 0, [], _, _, _, x, hx => by simp [pairsV] at hx
 | n + 1, a :: b :: l, h, hk, ho, x, hx => by
  simp only [pairsOk, Bool.and_eq_true, decide_eq_true_eq] at ho
  rw [pairsV] at hx
  rcases List.mem_cons.1 hx with rfl | hx
  ·
   exact joinV_k (hk a (by simp)) (hk b (by simp)) ho.1
  ·
   exact pairsV_k n l (by simp at h; omega) (fun y hy => hk y (by simp [hy])) ho.2 x hx
theorem pairsOk_tot {w : Int} : ∀ (n : Nat) (l : List SNode), l.length = 2 * n → (∀ x ∈ l, NodeK w x) → pairsOk l = false → ¬ totL l < 340282366920938463463374607431768211456
 | 0, [], _, _, h => by simp [pairsOk] at h
 | n + 1, a :: b :: l, h, hk, ho => by
  have ha := valU_nn (hk a (by simp)).u
  have hb := valU_nn (hk b (by simp)).u
  have hl : 0 ≤ totL l := totL_nn fun y hy => hk y (by simp [hy])
  rw [totL, totL]
  by_cases h1 : valU a.f1 + valU b.f1 < 340282366920938463463374607431768211456
  ·
   have h2 : pairsOk l = false := by simpa [pairsOk, h1] using ho
   have := pairsOk_tot n l (by simp at h; omega) (fun y hy => hk y (by simp [hy])) h2
   omega
  ·
   omega
theorem pairsV_append (w : Int) : ∀ (n : Nat) (a b : List SNode), a.length = 2 * n → pairsV w (a ++ b) = pairsV w a ++ pairsV w b
 | 0, [], b, _ => rfl
 | n + 1, x :: y :: a, b, h => by
  rw [List.cons_append, List.cons_append, pairsV, pairsV, pairsV_append w n a b (by simp at h; omega)]; rfl
def zeroN : SNode := ⟨⟨#[]⟩, ⟨0, 0⟩⟩
def twoV (w : Int) (l : List SNode) (j : Nat) : SNode := joinV w (l.getD (2 * j) zeroN) (l.getD (2 * j + 1) zeroN)
def twoOk (l : List SNode) (j : Nat) : Prop := valU (l.getD (2 * j) zeroN).f1 + valU (l.getD (2 * j + 1) zeroN).f1 < 340282366920938463463374607431768211456
theorem pairsV_range (w : Int) : ∀ (n : Nat) (l : List SNode), l.length = 2 * n → pairsV w l = (List.range n).map (twoV w l)
 | 0, [], _ => rfl
 | n + 1, a :: b :: l, h => by
  rw [pairsV, pairsV_range w n l (by simp at h; omega), List.range_succ_eq_map, List.map_cons, List.map_map]
  congr 1
theorem pairsOk_range : ∀ (n : Nat) (l : List SNode), l.length = 2 * n → (pairsOk l = true ↔ ∀ j, j < n → twoOk l j)
 | 0, [], _ => by simp [pairsOk]
 | n + 1, a :: b :: l, h => by
  rw [pairsOk, Bool.and_eq_true, decide_eq_true_eq, pairsOk_range n l (by simp at h; omega)]
  constructor
  ·
   rintro ⟨h0, hr⟩ j hj
   match j, hj with
   | 0, _ => exact h0
   | j + 1, hj => exact hr j (by omega)
  ·
   intro hr
   exact ⟨hr 0 (by omega), fun j hj => hr (j + 1) (by omega)⟩
def treeV (w : Int) : Nat → List SNode → SNode
 | 0, l => l.headD zeroN
 | k + 1, l => joinV w (treeV w k (l.take (2 ^ k))) (treeV w k (l.drop (2 ^ k)))
theorem treeV_pairs (w : Int) : ∀ (k : Nat) (l : List SNode), l.length = 2 ^ (k + 1) → treeV w (k + 1) l = treeV w k (pairsV w l)
 | 0, [a, b], _ => rfl
 | k + 1, l, h => by
  have hp : 2 ^ (k + 1 + 1) = 2 * 2 ^ (k + 1) := by rw [Nat.pow_succ]; omega
  have hq : 2 ^ (k + 1) = 2 * 2 ^ k := by rw [Nat.pow_succ]; omega
  have e1 : (l.take (2 ^ (k + 1))).length = 2 ^ (k + 1) := by rw [List.length_take]; omega
  have e2 : (l.drop (2 ^ (k + 1))).length = 2 ^ (k + 1) := by rw [List.length_drop]; omega
  have e : pairsV w l = pairsV w (l.take (2 ^ (k + 1))) ++ pairsV w (l.drop (2 ^ (k + 1))) := by
   rw [← pairsV_append w (2 ^ k) _ _ (by rw [e1, hq]), List.take_append_drop]
  have e3 : (pairsV w (l.take (2 ^ (k + 1)))).length = 2 ^ k := pairsV_len w _ _ (by rw [e1, hq])
  rw [treeV, treeV_pairs w k _ e1, treeV_pairs w k _ e2, treeV, e, List.take_left' e3, List.drop_left' e3]
theorem treeV_val {w : Int} : ∀ (k : Nat) (l : List SNode), l.length = 2 ^ k → valU (treeV w k l).f1 = totL l
 | 0, [a], _ => by simp [treeV, totL]
 | k + 1, l, h => by
  have hp : 2 ^ (k + 1) = 2 * 2 ^ k := by rw [Nat.pow_succ]; omega
  rw [treeV, joinV_val, treeV_val k _ (by rw [List.length_take]; omega), treeV_val k _ (by rw [List.length_drop]; omega), ← totL_append, List.take_append_drop]
theorem treeV_k {w : Int} : ∀ (k : Nat) (l : List SNode), l.length = 2 ^ k → (∀ x ∈ l, NodeK w x) → totL l < 340282366920938463463374607431768211456 → NodeK w (treeV w k l)
 | 0, [a], _, h, _ => h a (by simp)
 | k + 1, l, h, hk, ht => by
  have hp : 2 ^ (k + 1) = 2 * 2 ^ k := by rw [Nat.pow_succ]; omega
  have k1 : ∀ x ∈ l.take (2 ^ k), NodeK w x := fun x hx => hk x (List.mem_of_mem_take hx)
  have k2 : ∀ x ∈ l.drop (2 ^ k), NodeK w x := fun x hx => hk x (List.mem_of_mem_drop hx)
  have t := totL_append (l.take (2 ^ k)) (l.drop (2 ^ k))
  rw [List.take_append_drop] at t
  have t1 := totL_nn k1
  have t2 := totL_nn k2
  have l1 : (l.take (2 ^ k)).length = 2 ^ k := by rw [List.length_take]; omega
  have l2 : (l.drop (2 ^ k)).length = 2 ^ k := by rw [List.length_drop]; omega
  rw [treeV]
  exact joinV_k (treeV_k k _ l1 k1 (by omega)) (treeV_k k _ l2 k2 (by omega)) (by rw [treeV_val k _ l1, treeV_val k _ l2]; omega)
def isPow (n : Nat) : Bool := decide (2 ^ n.log2 = n)
theorem isPow_two (k : Nat) : isPow (2 ^ k) = true := by unfold isPow; rw [Nat.log2_two_pow]; simp
theorem isPow_spec {n : Nat} (h : isPow n = true) : ∃ k, n = 2 ^ k := ⟨n.log2, by unfold isPow at h; simpa using (of_decide_eq_true h).symm⟩
def foldI (w : Int) (l : List SNode) : ByteArray × Int × Int × Int :=
 if 1 ≤ w ∧ w ≤ 32 ∧ l.all (nodeOf w) = true then
  (if isPow l.length = true then (if totL l < 340282366920938463463374607431768211456 then ((treeV w l.length.log2 l).f0, (treeV w l.length.log2 l).f1.f0, (treeV w l.length.log2 l).f1.f1, 0) else (⟨#[]⟩, 0, 0, 10)) else (⟨#[]⟩, 0, 0, 2))
 else (⟨#[]⟩, 0, 0, 70)
theorem foldI_pow {w : Int} {l : List SNode} {k : Nat} (h1 : 1 ≤ w) (h2 : w ≤ 32) (hl : l.length = 2 ^ k) (hk : l.all (nodeOf w) = true) :
  foldI w l = if totL l < 340282366920938463463374607431768211456 then ((treeV w k l).f0, (treeV w k l).f1.f0, (treeV w k l).f1.f1, 0) else (⟨#[]⟩, 0, 0, 10) := by
 unfold foldI
 rw [if_pos ⟨h1, h2, hk⟩, hl, if_pos (isPow_two k), Nat.log2_two_pow]
theorem allK {w : Int} {l : List SNode} (h : l.all (nodeOf w) = true) (u : ∀ x ∈ l, OkU x.f1) : ∀ x ∈ l, NodeK w x := fun x hx => ⟨List.all_eq_true.1 h x hx, u x hx⟩
end Go.Proofs.YtijfifphcchbbaaDoor.P
