-- Hand-written contracts of this workplace, filled for this seat by a program.
import Derived.Test.YtcidfahoajmcmaaDoorPx0
import Derived.Test.YtcidfahoajmcmaaDoorPy2
import Derived.Test.YtcidfahoajmcmaaDoorPz1
import Derived.Test.YtcidfahoajmcmaaDoorHLong
import Derived.Test.YtcidfahoajmcmaaDoorHLawRuns
import Derived.Test.YtcidfahoajmcmaaDoorUSha
import Derived.Test.YtcidfahoajmcmaaDoorHRow
import Derived.Test.YtcidfahoajmcmaaDoorUAwake
namespace Go.Proofs.YtcidfahoajmcmaaDoor.P
open Go.RowKit Go.Proofs.YtcidfahoajmcmaaDoorW.PrintWords Go.Proofs.YtcidfahoajmcmaaDoorW.PrintLast Go.Proofs.YtcidfahoajmcmaaDoorW.PrintMore
set_option linter.unusedVariables false
set_option linter.unusedSimpArgs false
set_option linter.unnecessarySimpa false

theorem refSumI_size (t : ByteArray) : (refSumI t).size = 32 := by
  rw [refSumI, digestI, strOfNums_size, digL_length]
set_option maxRecDepth 100000 in
set_option maxHeartbeats 8000000 in
theorem pieces.calls (l : List ByteArray) (q : List Bool) (A0 A1 : Option Addr) (c0 c1 : Nat) (w : World) (hK : Laid w) (hr0 : Kd.C Kd.string w A0 l.length l) (hc0 : l.length ≤ c0) (hr1 : Kd.C Kd.bool w A1 q.length q) (hc1 : q.length ≤ c1)
    (h0 : l.length ≤ 140737488355328) (h0' : ∀ x ∈ l, x.size ≤ 140737488355328) (h1 : q.length ≤ 140737488355328) :
    Calls Tryd.prog 9 #[.slice A0 l.length c0, .slice A1 q.length c1] w fun e w' => e = .returned (.bool true) ∧ Below w.heap.size w w' := by
  have HK := Aside0.mk hK
  have HR0 := Aside0.mk hr0
  have HR1 := Aside0.mk hr1
  obtain ⟨k0, hk0⟩ := (long_ev l h0 h0').rounds
  have HK0 := Aside0.mk hk0
  clear hK hr0 hr1 hk0
  go_enter Tryd.func9, Tryd.ntmps9
  go_wp2_with fail
  refine (paymasterlaw05_awake.calls true _ HK.out awake_eq).mono ?_
  rintro e w0 ⟨rfl, hB⟩
  have HB00 := Aside0.mk (show Below w.heap.size w w0 from hB)
  clear hB
  go_wp2_with fail
  refine (paymasterlaw05_Long.calls k0 A0 c0 l _ _ (Kd.C_below HR0.out HB00.out) hc0 HK0.out).mono ?_
  rintro e w1 ⟨rfl, ⟨m1, rfl⟩⟩
  have HB0 := Aside0.mk (show Below w.heap.size w (w0.drewN m1) from pw_below_drewN HB00.out _)
  clear HB00
  cases hb0 : longB l with
  | true =>
    go_wp2
    go_ret
    exact ⟨rfl, HB0.out⟩
  | false =>
  obtain ⟨hn0, hz0⟩ := long_not hb0
  have HZ0 := Aside0.mk hz0
  clear hb0 hz0
  go_wp2_with fail
  refine (new.calls _).mono ?_
  rintro e w2 ⟨g, rfl, hg, hrun, hB⟩
  have HG := Aside0.mk (show w.heap.size ≤ g from Nat.le_trans HB0.out.size hg)
  have HRUN := Aside0.mk hrun
  have HB := Aside0.mk (HB0.out.trans (hB.mono HB0.out.size))
  clear hg hrun hB
  go_wp2_with fail
  go_loopw [7, 6] (fun v u wr => ∃ i : Nat, v = .int .i64 i ∧ i ≤ l.length ∧ u = .string (catI l i) ∧ Aside0 (IsRun wr g (ran (catI l i))) ∧ Aside0 (Below w.heap.size w wr)) (fun v _ _ => l.length - (intOf v).toNat)
  case atStart => exact ⟨0, rfl, by omega, rfl, ⟨newRun_ran ▸ HRUN.out⟩, HB⟩
  case round =>
    clear HRUN HB
    obtain ⟨i, rfl, hi, rfl, HRUN, HB⟩ := hrel
    by_cases hlt : i < l.length
    · have b1 : decide ((i : Int) < (l.length : Int)) = true := decide_eq_true (by omega)
      have p1 : 0 ≤ (i : Int) := by omega
      have q1 : (i : Int) < (l.length : Int) := by omega
      obtain ⟨ad, e1, hx⟩ := Kd.at_string (Kd.C_below HR0.out HB.out) (i : Int) p1 q1
      obtain ⟨x, hxx⟩ : ∃ x, x = l.getD i ByteArray.empty := ⟨_, rfl⟩
      rw [rd_nat l i hlt, ← hxx, Int.toNat_natCast] at hx
      have hci : catI l (i + 1) = catI l i ++ x := by rw [catI, hxx]
      have hsz : (catI l (i + 1)).size ≤ 2000 := by rw [catI_size]; exact HZ0.out (i + 1) (by omega)
      have hsz2 : (catI l i).size + x.size ≤ 2000 := by rw [hci, ByteArray.size_append] at hsz; exact hsz
      have HCI := Aside0.mk hci
      have HSZ := Aside0.mk hsz2
      have HXX := Aside0.mk hxx
      clear hci hsz hsz2 hxx
      cases e1
      go_wp2_with fail
      refine (write_ok.calls g (ran (catI l i)) x _ (HK.out.below HB.out) HRUN.out (by rw [ran_n]; omega) (by rw [ran_n]; have := HSZ.out; omega) (ran_small _)).mono ?_
      rintro e w3 ⟨rfl, hr3, hb3⟩
      rw [takeI_ran _ _ (by have := HSZ.out; omega), ← HCI.out] at hr3
      have HB3 := Aside0.mk (HB.out.grown hb3 HB.out.size (fun k e => by cases e; exact HG.out))
      have HR3 := Aside0.mk hr3
      obtain ⟨ad2, e2, hx2⟩ := Kd.at_string (Kd.C_below HR0.out HB3.out) (i : Int) p1 q1
      rw [rd_nat l i hlt, ← HXX.out, Int.toNat_natCast] at hx2
      cases e2
      have hcat : (catI l i).size + x.size ≤ 9223372036854775807 := by have := HSZ.out; omega
      clear hr3 hb3 hx
      go_upto_region 15 with fail
      rw [← HCI.out]
      obtain ⟨T, hT⟩ : ∃ T, T = catI l (i + 1) := ⟨_, rfl⟩
      have hTs : T.size ≤ 2000 := by rw [hT, HCI.out, ByteArray.size_append]; exact HSZ.out
      rw [← hT] at HR3 ⊢
      have HT := Aside0.mk hT
      have HTS := Aside0.mk hTs
      clear hT hTs hcat hx2
      have hkeep : ∀ i2 : Int, 0 ≤ i2 → i2 < q.length → ∃ ad, A1 = some ad ∧ w3.cell? (ad.add i2.toNat) = some (.bool (rdOf false q i2)) := fun i2 a b => Kd.at_bool (Kd.C_below HR1.out HB3.out) i2 a b
      have HKEEP := Aside0.mk hkeep
      clear hkeep
      by_cases hq : i < q.length
      · have b2 : decide ((i : Int) < (q.length : Int)) = true := decide_eq_true (by omega)
        have q2 : (i : Int) < (q.length : Int) := by omega
        obtain ⟨ad3, e3, hx3⟩ := HKEEP.out (i : Int) p1 q2
        rw [Int.toNat_natCast] at hx3
        cases e3
        cases hbq : rdOf false q (i : Int) with
        | true =>
          rw [hbq] at hx3
          clear hbq
          go_wp2_with fail
          clear b2 hx3 q2
          refine (sum_run.calls g (ran T) _ (HK.out.below HB3.out) HR3.out (by rw [ran_n]; omega) (by rw [ran_n]; have := HTS.out; omega) (ran_small _)).mono ?_
          rintro e w4 ⟨rfl, hB4⟩
          rw [ran_sum T (by have := HTS.out; omega)]
          have HB4 := Aside0.mk (HB3.out.trans (hB4.mono HB3.out.size))
          have HR4 := Aside0.mk (show IsRun w4 g (ran T) from blk_below HR3.out hB4)
          clear hB4
          go_wp2_with fail
          refine (sum_run.calls g (ran T) _ (HK.out.below HB4.out) HR4.out (by rw [ran_n]; omega) (by rw [ran_n]; have := HTS.out; omega) (ran_small _)).mono ?_
          rintro e w5 ⟨rfl, hB5⟩
          rw [ran_sum T (by have := HTS.out; omega)]
          have HB5 := Aside0.mk (HB4.out.trans (hB5.mono HB4.out.size))
          have HR5 := Aside0.mk (show IsRun w5 g (ran T) from blk_below HR4.out hB5)
          clear hB5
          go_wp2_with fail
          refine (sum.calls T _ (HK.out.below HB5.out) (by have := HTS.out; omega)).mono ?_
          rintro e w6 ⟨rfl, hB6⟩
          rw [sumI_ref T (by have := HTS.out; omega)]
          have HB6 := Aside0.mk (HB5.out.trans (hB6.mono HB5.out.size))
          have HR6 := Aside0.mk (show IsRun w6 g (ran T) from blk_below HR5.out hB6)
          clear hB6
          go_wp2_with fail
          go_roundw
          case rel => exact ⟨i + 1, by go_num, by omega, by rw [HT.out], by rw [← HT.out]; exact HR6, HB6⟩
          case measure => simp [intOf]; omega
        | false =>
          rw [hbq] at hx3
          clear hbq
          go_wp2_with fail
          clear b2 hx3 q2
          go_roundw
          case rel => exact ⟨i + 1, by go_num, by omega, by rw [HT.out], by rw [← HT.out]; exact HR3, HB3⟩
          case measure => simp [intOf]; omega
      · have b2 : decide ((i : Int) < (q.length : Int)) = false := decide_eq_false (by omega)
        go_wp2_with fail
        clear b2
        go_roundw
        case rel => exact ⟨i + 1, by go_num, by omega, by rw [HT.out], by rw [← HT.out]; exact HR3, HB3⟩
        case measure => simp [intOf]; omega
    · have b1 : decide ((i : Int) < (l.length : Int)) = false := decide_eq_false (by omega)
      obtain ⟨T, hT⟩ : ∃ T, T = catI l i := ⟨_, rfl⟩
      have hTs : T.size ≤ 2000 := by rw [hT, catI_size]; exact HZ0.out i (by omega)
      rw [← hT] at HRUN ⊢
      have HTS := Aside0.mk hTs
      clear hT hTs
      go_wp2_with fail
      clear b1
      refine (sum_run.calls g (ran T) _ (HK.out.below HB.out) HRUN.out (by rw [ran_n]; omega) (by rw [ran_n]; have := HTS.out; omega) (ran_small _)).mono ?_
      rintro e w4 ⟨rfl, hB4⟩
      rw [ran_sum T (by have := HTS.out; omega)]
      have HR4 := Aside0.mk (show IsRun w4 g (ran T) from blk_below HRUN.out hB4)
      have HB4 := Aside0.mk (HB.out.trans (hB4.mono HB.out.size))
      clear hB4
      go_wp2_with fail
      refine (sum.calls T _ (HK.out.below HB4.out) (by have := HTS.out; omega)).mono ?_
      rintro e w6 ⟨rfl, hB6⟩
      rw [sumI_ref T (by have := HTS.out; omega)]
      have HB6 := Aside0.mk (HB4.out.trans (hB6.mono HB4.out.size))
      have HR6 := Aside0.mk (show IsRun w6 g (ran T) from blk_below HR4.out hB6)
      have b3 : (((refSumI T).size : Int) == 32) = true := by rw [refSumI_size]; rfl
      clear hB6
      go_wp2_with fail
      clear b3
      refine (len.calls g (ran T) _ HR6.out).mono ?_
      rintro e w7 ⟨rfl, rfl⟩
      have ew : IntKind.u64.wrap (T.size : Int) = (T.size : Int) := by rw [IntKind.wrap_u64]; have := HTS.out; omega
      have hts := HTS.out
      rw [ran_n]
      go_wp2_with fail
      go_ret
      exact ⟨rfl, HB6.out⟩
def paymasterlaw05_ShaPieces.f (l0 : List ByteArray) (l1 : List Bool) : Option Bool :=
  if (l0.length ≤ 140737488355328 ∧ ∀ x ∈ l0, x.size ≤ 140737488355328) ∧ l1.length ≤ 140737488355328 then some true else none
theorem paymasterlaw05_ShaPieces.calls (A0 : Option Addr) (c0 : Nat) (l0 : List ByteArray) (A1 : Option Addr) (c1 : Nat) (l1 : List Bool) (r : Bool) (w : World) (hK : Laid w) (hr0 : Kd.C Kd.string w A0 l0.length l0) (hc0 : l0.length ≤ c0)
    (hr1 : Kd.C Kd.bool w A1 l1.length l1) (hc1 : l1.length ≤ c1) (h : paymasterlaw05_ShaPieces.f l0 l1 = some r) :
    Calls Tryd.prog 9 #[.slice A0 l0.length c0, .slice A1 l1.length c1] w fun e w' => e = .returned (.bool r) ∧ Below w.heap.size w w' := by
  unfold paymasterlaw05_ShaPieces.f at h
  split at h
  · rename_i hh
    cases h
    exact pieces.calls l0 l1 A0 A1 c0 c1 w hK hr0 hc0 hr1 hc1 hh.1.1 hh.1.2 hh.2
  · cases h

end Go.Proofs.YtcidfahoajmcmaaDoor.P
