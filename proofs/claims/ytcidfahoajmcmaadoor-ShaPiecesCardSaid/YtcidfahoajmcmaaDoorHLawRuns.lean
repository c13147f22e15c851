-- Hand-written contracts of this workplace, filled for this seat by a program.
import Derived.Test.YtcidfahoajmcmaaDoorPx0
import Derived.Test.YtcidfahoajmcmaaDoorPz1
import Derived.Test.YtcidfahoajmcmaaDoorHLong
import Derived.Test.YtcidfahoajmcmaaDoorUSha
import Derived.Test.YtcidfahoajmcmaaDoorHRow
namespace Go.Proofs.YtcidfahoajmcmaaDoor.P
open Go.RowKit Go.Proofs.YtcidfahoajmcmaaDoorW.PrintWords Go.Proofs.YtcidfahoajmcmaaDoorW.PrintLast Go.Proofs.YtcidfahoajmcmaaDoorW.PrintMore
set_option linter.unusedVariables false
set_option linter.unusedSimpArgs false
set_option linter.unnecessarySimpa false

theorem ran_n (t : ByteArray) : (ran t).n = (t.size : Int) := rfl
theorem long_not {l : List ByteArray} (h : longB l = false) : l.length ≤ 40 ∧ ∀ i, i ≤ l.length → sizeI l i ≤ 2000 := by
  simp only [longB, Bool.or_eq_false_iff, decide_eq_false_iff_not] at h
  exact ⟨by omega, fun i hi => by have := sizeI_le l i l.length hi; omega⟩
set_option maxRecDepth 100000 in
set_option maxHeartbeats 8000000 in
theorem runs.calls (l more : List ByteArray) (A0 A1 : Option Addr) (c0 c1 : Nat) (w : World) (hK : Laid w) (hr0 : Kd.C Kd.string w A0 l.length l) (hc0 : l.length ≤ c0) (hr1 : Kd.C Kd.string w A1 more.length more) (hc1 : more.length ≤ c1)
    (h0 : l.length ≤ 140737488355328) (h0' : ∀ x ∈ l, x.size ≤ 140737488355328) (h1 : more.length ≤ 140737488355328) (h1' : ∀ x ∈ more, x.size ≤ 140737488355328) :
    Calls Tryd.prog 8 #[.slice A0 l.length c0, .slice A1 more.length c1] w fun e w' => e = .returned (.bool true) ∧ Below w.heap.size w w' := by
  have HK := Aside0.mk hK
  have HR0 := Aside0.mk hr0
  have HR1 := Aside0.mk hr1
  obtain ⟨k0, hk0⟩ := (long_ev l h0 h0').rounds
  obtain ⟨k1, hk1⟩ := (long_ev more h1 h1').rounds
  have HK0 := Aside0.mk hk0
  have HK1 := Aside0.mk hk1
  clear hK hr0 hr1 hk0 hk1
  go_enter Tryd.func8, Tryd.ntmps8
  go_wp2_with fail
  refine (paymasterlaw05_Long.calls k0 A0 c0 l _ _ HR0.out hc0 HK0.out).mono ?_
  rintro e w1 ⟨rfl, ⟨m1, rfl⟩⟩
  cases hb0 : longB l with
  | true =>
    go_wp2
    go_ret
    exact ⟨rfl, pw_below_drewN (Below.refl _ _) _⟩
  | false =>
  go_wp2_with fail
  refine (paymasterlaw05_Long.calls k1 A1 c1 more _ _ (Kd.C_drewN HR1.out _) hc1 HK1.out).mono ?_
  rintro e w1 ⟨rfl, ⟨m2, rfl⟩⟩
  cases hb1 : longB more with
  | true =>
    go_wp2
    go_ret
    exact ⟨rfl, pw_below_drewN (Below.refl _ _) _⟩
  | false =>
  obtain ⟨hn0, hz0⟩ := long_not hb0
  obtain ⟨hn1, hz1⟩ := long_not hb1
  have HZ0 := Aside0.mk hz0
  have HZ1 := Aside0.mk hz1
  have HB0 := Aside0.mk (show Below w.heap.size w (w.drewN (m1 + m2)) from pw_below_drewN (Below.refl _ _) _)
  clear hb0 hb1 hz0 hz1
  go_wp2_with fail
  refine (new.calls _).mono ?_
  rintro e w2 ⟨g, rfl, hg, hrun, hB⟩
  have HG := Aside0.mk (show w.heap.size ≤ g from hg)
  have HRUN := Aside0.mk hrun
  have HB := Aside0.mk (HB0.out.trans (hB.mono HB0.out.size))
  clear hg hrun hB
  go_wp2_with fail
  go_loopw [7, 6] (fun v u wr => ∃ i : Nat, v = .int .i64 i ∧ i ≤ l.length ∧ u = .string (catI l i) ∧ Aside0 (IsRun wr g (ran (catI l i))) ∧ Aside0 (Below w.heap.size w wr)) (fun v _ _ => l.length - (intOf v).toNat)
  case atStart => exact ⟨0, rfl, by omega, rfl, ⟨newRun_ran ▸ HRUN.out⟩, HB⟩
  case round =>
    clear HRUN HB
    obtain ⟨i, rfl, hi, rfl, HRUN, HB⟩ := hrel
    by_cases hlt : i < l.length
    · have b1 : decide ((i : Int) < (l.length : Int)) = true := decide_eq_true (by omega)
      have p1 : 0 ≤ (i : Int) := by omega
      have q1 : (i : Int) < (l.length : Int) := by omega
      obtain ⟨ad, e1, hx⟩ := Kd.at_string (Kd.C_below HR0.out HB.out) (i : Int) p1 q1
      obtain ⟨x, hxx⟩ : ∃ x, x = l.getD i ByteArray.empty := ⟨_, rfl⟩
      rw [rd_nat l i hlt, ← hxx, Int.toNat_natCast] at hx
      have hci : catI l (i + 1) = catI l i ++ x := by rw [catI, hxx]
      have hsz : (catI l (i + 1)).size ≤ 2000 := by rw [catI_size]; exact HZ0.out (i + 1) (by omega)
      have hsz2 : (catI l i).size + x.size ≤ 2000 := by rw [hci, ByteArray.size_append] at hsz; exact hsz
      have HCI := Aside0.mk hci
      have HSZ := Aside0.mk hsz2
      have HXX := Aside0.mk hxx
      clear hci hsz hsz2 hxx
      cases e1
      go_wp2_with fail
      refine (write_ok.calls g (ran (catI l i)) x _ (HK.out.below HB.out) HRUN.out (by rw [ran_n]; omega) (by rw [ran_n]; have := HSZ.out; omega) (ran_small _)).mono ?_
      rintro e w3 ⟨rfl, hr3, hb3⟩
      rw [takeI_ran _ _ (by have := HSZ.out; omega), ← HCI.out] at hr3
      have HB3 := Aside0.mk (HB.out.grown hb3 HB.out.size (fun k e => by cases e; exact HG.out))
      have HR3 := Aside0.mk hr3
      obtain ⟨ad2, e2, hx2⟩ := Kd.at_string (Kd.C_below HR0.out HB3.out) (i : Int) p1 q1
      rw [rd_nat l i hlt, ← HXX.out, Int.toNat_natCast] at hx2
      cases e2
      have hcat : (catI l i).size + x.size ≤ 9223372036854775807 := by have := HSZ.out; omega
      clear hr3 hb3 hx
      go_wp2_with fail
      rw [← HCI.out]
      obtain ⟨T, hT⟩ : ∃ T, T = catI l (i + 1) := ⟨_, rfl⟩
      have hTs : T.size ≤ 2000 := by rw [hT, HCI.out, ByteArray.size_append]; exact HSZ.out
      rw [← hT] at HR3 ⊢
      have HT := Aside0.mk hT
      have HTS := Aside0.mk hTs
      clear hT hTs hcat hx2
      refine (sum_run.calls g (ran T) _ (HK.out.below HB3.out) HR3.out (by rw [ran_n]; omega) (by rw [ran_n]; have := HTS.out; omega) (ran_small _)).mono ?_
      rintro e w4 ⟨rfl, hB4⟩
      rw [ran_sum T (by have := HTS.out; omega)]
      have HB4 := Aside0.mk (HB3.out.trans (hB4.mono HB3.out.size))
      have HR4 : IsRun w4 g (ran T) := blk_below HR3.out hB4
      have HR4 := Aside0.mk HR4
      clear hB4
      go_wp2_with fail
      refine (refsum.calls T _ (by have := HTS.out; omega)).mono ?_
      rintro e w5 ⟨rfl, hB5⟩
      have HB5 := Aside0.mk (HB4.out.trans (hB5.mono HB4.out.size))
      have HR5 : IsRun w5 g (ran T) := blk_below HR4.out hB5
      have HR5 := Aside0.mk HR5
      clear hB5
      go_wp2_with fail
      refine (len.calls g (ran T) _ HR5.out).mono ?_
      rintro e w6 ⟨rfl, rfl⟩
      have ew : IntKind.u64.wrap (T.size : Int) = (T.size : Int) := by rw [IntKind.wrap_u64]; have := HTS.out; omega
      have hts := HTS.out
      rw [ran_n]
      go_wp2_with fail
      clear ew hts
      go_roundw
      case rel => exact ⟨i + 1, by go_num, by omega, by rw [HT.out], by rw [← HT.out]; exact HR5, HB5⟩
      case measure => simp [intOf]; omega
    · have b1 : decide ((i : Int) < (l.length : Int)) = false := decide_eq_false (by omega)
      obtain ⟨T, hT⟩ : ∃ T, T = catI l i := ⟨_, rfl⟩
      have hTs : T.size ≤ 2000 := by rw [hT, catI_size]; exact HZ0.out i (by omega)
      rw [← hT] at HRUN ⊢
      have HTS := Aside0.mk hTs
      clear hT hTs
      go_wp2_with fail
      clear b1
      refine (copy.calls g (ran T) _ HRUN.out).mono ?_
      rintro e w3 ⟨g2, rfl, hg2, hr2, hB2⟩
      have hne : g ≠ g2 := by have := blk_lt HRUN.out; omega
      have HNE := Aside0.mk hne
      have HG2 := Aside0.mk (show w.heap.size ≤ g2 from Nat.le_trans HB.out.size hg2)
      have HR3 := Aside0.mk hr2
      have HRG := Aside0.mk (show IsRun w3 g (ran T) from blk_below HRUN.out hB2)
      have HB3 := Aside0.mk (HB.out.trans (hB2.mono HB.out.size))
      clear hg2 hr2 hB2 hne
      go_wp2_with fail
      go_loopw [12, 11] (fun v u wr => ∃ j : Nat, v = .int .i64 j ∧ j ≤ more.length ∧ u = .string (T ++ catI more j) ∧ Aside0 (IsRun wr g2 (ran (T ++ catI more j))) ∧ Aside0 (IsRun wr g (ran T)) ∧ Aside0 (Below w.heap.size w wr)) (fun v _ _ => more.length - (intOf v).toNat)
      case atStart => exact ⟨0, rfl, by omega, by rw [catI, ByteArray.append_empty], ⟨by rw [catI, ByteArray.append_empty]; exact HR3.out⟩, HRG, HB3⟩
      case round =>
        clear HR3 HRG HB3
        obtain ⟨j, rfl, hj, rfl, HR3, HRG, HB3⟩ := hrel
        by_cases hlt2 : j < more.length
        · have b1 : decide ((j : Int) < (more.length : Int)) = true := decide_eq_true (by omega)
          have p1 : 0 ≤ (j : Int) := by omega
          have q1 : (j : Int) < (more.length : Int) := by omega
          obtain ⟨ad, e1, hx⟩ := Kd.at_string (Kd.C_below HR1.out HB3.out) (j : Int) p1 q1
          obtain ⟨x, hxx⟩ : ∃ x, x = more.getD j ByteArray.empty := ⟨_, rfl⟩
          rw [rd_nat more j hlt2, ← hxx, Int.toNat_natCast] at hx
          have hci : T ++ catI more (j + 1) = (T ++ catI more j) ++ x := by rw [catI, hxx, ByteArray.append_assoc]
          have hsz : (T ++ catI more j).size + x.size ≤ 4000 := by
            have e3 : (T ++ catI more (j + 1)).size = T.size + sizeI more (j + 1) := by rw [ByteArray.size_append, catI_size]
            rw [hci, ByteArray.size_append] at e3
            have e4 := HZ1.out (j + 1) (by omega)
            have e5 := HTS.out
            omega
          have HCI := Aside0.mk hci
          have HSZ := Aside0.mk hsz
          have HXX := Aside0.mk hxx
          clear hci hsz hxx
          obtain ⟨U, hU⟩ : ∃ U, U = T ++ catI more j := ⟨_, rfl⟩
          rw [← hU] at HR3 HCI HSZ ⊢
          have HU := Aside0.mk hU
          clear hU
          cases e1
          go_wp2_with fail
          refine (write_ok.calls g2 (ran U) x _ (HK.out.below HB3.out) HR3.out (by rw [ran_n]; omega) (by rw [ran_n]; have := HSZ.out; omega) (ran_small _)).mono ?_
          rintro e w3 ⟨rfl, hr3, hb3⟩
          rw [takeI_ran _ _ (by have := HSZ.out; omega), ← HCI.out] at hr3
          have HB4 := Aside0.mk (HB3.out.grown hb3 HB3.out.size (fun k e => by cases e; exact HG2.out))
          have HR4 := Aside0.mk hr3
          have HRG4 := Aside0.mk (show IsRun w3 g (ran T) from (hb3.block g (blk_lt HRG.out) (fun e => HNE.out (Option.some.inj e))).trans HRG.out)
          obtain ⟨ad2, e2, hx2⟩ := Kd.at_string (Kd.C_below HR1.out HB4.out) (j : Int) p1 q1
          rw [rd_nat more j hlt2, ← HXX.out, Int.toNat_natCast] at hx2
          cases e2
          have hcat : U.size + x.size ≤ 9223372036854775807 := by have := HSZ.out; omega
          clear hr3 hb3 hx
          go_wp2_with fail
          rw [← HCI.out]
          clear hcat hx2
          go_roundw
          case rel => exact ⟨j + 1, by go_num, by omega, rfl, HR4, HRG4, HB4⟩
          case measure => simp [intOf]; omega
        · have b1 : decide ((j : Int) < (more.length : Int)) = false := decide_eq_false (by omega)
          obtain ⟨U, hU⟩ : ∃ U, U = T ++ catI more j := ⟨_, rfl⟩
          have hUs : U.size ≤ 4000 := by
            rw [hU, ByteArray.size_append, catI_size]
            have e4 := HZ1.out j (by omega)
            have e5 := HTS.out
            omega
          rw [← hU] at HR3 ⊢
          have HUS := Aside0.mk hUs
          clear hU hUs
          go_wp2_with fail
          clear b1
          refine (sum_run.calls g (ran T) _ (HK.out.below HB3.out) HRG.out (by rw [ran_n]; omega) (by rw [ran_n]; have := HTS.out; omega) (ran_small _)).mono ?_
          rintro e w4 ⟨rfl, hB4⟩
          rw [ran_sum T (by have := HTS.out; omega)]
          have HR4 := Aside0.mk (show IsRun w4 g2 (ran U) from blk_below HR3.out hB4)
          have HB4 := Aside0.mk (HB3.out.trans (hB4.mono HB3.out.size))
          clear hB4
          go_wp2_with fail
          refine (sum_run.calls g2 (ran U) _ (HK.out.below HB4.out) HR4.out (by rw [ran_n]; omega) (by rw [ran_n]; have := HUS.out; omega) (ran_small _)).mono ?_
          rintro e w5 ⟨rfl, hB5⟩
          rw [ran_sum U (by have := HUS.out; omega)]
          have HB5 := Aside0.mk (HB4.out.trans (hB5.mono HB4.out.size))
          clear hB5
          go_wp2_with fail
          refine (refsum.calls T _ (by have := HTS.out; omega)).mono ?_
          rintro e w6 ⟨rfl, hB6⟩
          have HB6 := Aside0.mk (HB5.out.trans (hB6.mono HB5.out.size))
          clear hB6
          go_wp2_with fail
          refine (refsum.calls U _ (by have := HUS.out; omega)).mono ?_
          rintro e w7 ⟨rfl, hB7⟩
          have HB7 := Aside0.mk (HB6.out.trans (hB7.mono HB6.out.size))
          clear hB7
          go_wp2_with fail
          go_ret
          exact ⟨rfl, HB7.out⟩
def paymasterlaw05_ShaRuns.f (l0 l1 : List ByteArray) : Option Bool :=
  if (l0.length ≤ 140737488355328 ∧ ∀ x ∈ l0, x.size ≤ 140737488355328) ∧ (l1.length ≤ 140737488355328 ∧ ∀ x ∈ l1, x.size ≤ 140737488355328) then some true else none
theorem paymasterlaw05_ShaRuns.calls (A0 : Option Addr) (c0 : Nat) (l0 : List ByteArray) (A1 : Option Addr) (c1 : Nat) (l1 : List ByteArray) (r : Bool) (w : World) (hK : Laid w) (hr0 : Kd.C Kd.string w A0 l0.length l0) (hc0 : l0.length ≤ c0)
    (hr1 : Kd.C Kd.string w A1 l1.length l1) (hc1 : l1.length ≤ c1) (h : paymasterlaw05_ShaRuns.f l0 l1 = some r) :
    Calls Tryd.prog 8 #[.slice A0 l0.length c0, .slice A1 l1.length c1] w fun e w' => e = .returned (.bool r) ∧ Below w.heap.size w w' := by
  unfold paymasterlaw05_ShaRuns.f at h
  split at h
  · rename_i hh
    cases h
    exact runs.calls l0 l1 A0 A1 c0 c1 w hK hr0 hc0 hr1 hc1 hh.1.1 hh.1.2 hh.2.1 hh.2.2
  · cases h

end Go.Proofs.YtcidfahoajmcmaaDoor.P
