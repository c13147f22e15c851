-- Several texts of this workplace as one.
import Derived.Test.YtlmmpncdemblbaaGreatDoorZVerifyTells1
import Derived.Test.YtlmmpncdemblbaaGreatDoorProg
import Derived.Deep.OwnRows
import Derived.Laws.Rows
import Derived.Test.YtlmmpncdemblbaaGreatDoorRows
import Derived.Test.YtlmmpncdemblbaaGreatDoorCards
import Derived.Test.YtlmmpncdemblbaaGreatDoorTie
namespace Go.Proofs.YtlmmpncdemblbaaGreatDoor.P
open Go.RowKit Go.Proofs.YtlmmpncdemblbaaGreatDoorW.PrintWords Go.Proofs.YtlmmpncdemblbaaGreatDoorW.PrintLast Go.Proofs.YtlmmpncdemblbaaGreatDoorW.PrintMore
attribute [local go_sem] max2_int min2_int max_two min_two max_three min_three max_four min_four-- for this text's walks alone
set_option linter.unusedVariables false
set_option linter.unusedSimpArgs false
mutual
def paymasterref07_Rune.j0 : Nat → ByteArray → Int → Bool → Option (Int × Int)
 | 0, _, _, _ => none
 | k + 1, x0, x1, x18 => if x18 = true then (some (0, 0)) else (if 0 ≤ x1 then (if x1 < (x0.size : Int) then (if (wrap64 (bt x0 x1)) < 128 then (some (wrap64 (bt x0 x1), 1)) else (if (wrap64 (bt x0 x1)) ≥ 192 then (paymasterref07_Rune.j1 k x0 x1 (wrap64 (bt x0 x1)) (decide ((wrap64 (bt x0 x1)) < 224))) else (paymasterref07_Rune.j1 k x0 x1 (wrap64 (bt x0 x1)) false))) else (none)) else (none))
def paymasterref07_Rune.j3 : Nat → ByteArray → Int → Int → Int → Int → Option (Int × Int)
 | 0, _, _, _, _, _ => none
 | k + 1, x0, x1, x7, x8, x9 => paymasterref07_Rune.l0 k x0 x1 x7 x8 x9 1
def paymasterref07_Rune.l0 : Nat → ByteArray → Int → Int → Int → Int → Int → Option (Int × Int)
 | 0, _, _, _, _, _, _ => none
 | k + 1, x0, x1, x7, x8, x9, x10 => if x10 < x7 then (if (wrap64 (x1 + x10)) ≥ (x0.size : Int) then (some (0, 0)) else (if 0 ≤ (wrap64 (x1 + x10)) then (if (wrap64 (x1 + x10)) < (x0.size : Int) then (if (bt x0 (wrap64 (x1 + x10))) < 128 then (some (0, 0)) else (if (bt x0 (wrap64 (x1 + x10))) ≥ 192 then (some (0, 0)) else (paymasterref07_Rune.l0 k x0 x1 x7 (wrap64 ((wrap64 ((wrap64 (64 * x8)) + (wrap64 (bt x0 (wrap64 (x1 + x10)))))) - 128)) x9 (wrap64 (x10 + 1))))) else (none)) else (none))) else (if x8 < x9 then (some (0, 0)) else (if x8 > 1114111 then (some (0, 0)) else (if x8 ≥ 55296 then (if x8 < 57344 then (some (0, 0)) else (some (x8, x7))) else (some (x8, x7)))))
def paymasterref07_Rune.j1 : Nat → ByteArray → Int → Int → Bool → Option (Int × Int)
 | 0, _, _, _, _ => none
 | k + 1, x0, x1, x6, x27 => if x27 = true then (paymasterref07_Rune.j3 k x0 x1 2 (wrap64 (x6 - 192)) 128) else (if x6 ≥ 224 then (paymasterref07_Rune.j2 k x0 x1 x6 (decide (x6 < 240))) else (paymasterref07_Rune.j2 k x0 x1 x6 false))
def paymasterref07_Rune.j2 : Nat → ByteArray → Int → Int → Bool → Option (Int × Int)
 | 0, _, _, _, _ => none
 | k + 1, x0, x1, x6, x36 => if x36 = true then (paymasterref07_Rune.j3 k x0 x1 3 (wrap64 (x6 - 224)) 2048) else (if x6 ≥ 240 then (if x6 < 248 then (paymasterref07_Rune.j3 k x0 x1 4 (wrap64 (x6 - 240)) 65536) else (some (0, 0))) else (some (0, 0)))
end
def paymasterref07_Rune.f (k : Nat) (a0 : ByteArray) (a1 : Int) : Option (Int × Int) := if a1 < 0 then (paymasterref07_Rune.j0 k a0 a1 true) else (paymasterref07_Rune.j0 k a0 a1 (decide (a1 ≥ (a0.size : Int))))
set_option maxHeartbeats 8000000 in
set_option maxRecDepth 100000 in
theorem paymasterref07_Rune.calls (k : Nat) (a0 : ByteArray) (a1 : Int) (r1 : Int) (r2 : Int) (w : World) (h : paymasterref07_Rune.f k a0 a1 = some (r1, r2)) :
  Calls Tryz.prog 40 #[.string a0, .int .i64 a1] w fun e w' => e = .returned (.tuple #[.int .i64 r1, .int .i64 r2]) ∧ Drawn0 w w' := by
 have H : (if a1 < 0 then (paymasterref07_Rune.j0 k a0 a1 true) else (paymasterref07_Rune.j0 k a0 a1 (decide (a1 ≥ (a0.size : Int))))) = some (r1, r2) := h
 clear h
 have HC3 := aM' H
 clear H
 go_enter Tryz.func40, Tryz.ntmps40
 go_upto_region 1 with (fail)
 go_cut [18] (fun v18 wc => ∃ (kq : Nat) (x18_2 : Bool), v18 = .bool x18_2 ∧ Aside0 (paymasterref07_Rune.j0 kq a0 a1 x18_2 = some (r1, r2)) ∧ Aside0 (kq ≤ k) ∧ Drawn0 w wc)
 case first =>
  have H := HC3.out
  clear HC3
  by_cases c4 : a1 < 0
  ·
   rw [if_pos c4] at H
   have c4b0 : decide (a1 < 0) = true := decide_eq_true c4
   clear c4
   (first | rw [c4b0] | (simp only [i64_w, i32_w]; rw [c4b0]) | skip)
   have H' := aM' H
   clear H
   go_wp2
   go_meet
   case rel => exact ⟨_, (true), (by first | rfl | (simp; done) | (simp [*]; done)), H', ⟨by first | omega | exact Nat.le_refl _⟩, by repeat (first | exact Drawn0.refl _ | apply Drawn0.step)⟩
  ·
   rw [if_neg c4] at H
   have c4b0 : decide (a1 < 0) = false := decide_eq_false c4
   clear c4
   (first | rw [c4b0] | (simp only [i64_w, i32_w]; rw [c4b0]) | skip)
   have H' := aM' H
   clear H
   go_wp2
   go_meet
   case rel => exact ⟨_, (decide (a1 ≥ (a0.size : Int))), (by first | rfl | (simp; done) | (simp [*]; done)), H', ⟨by first | omega | exact Nat.le_refl _⟩, by repeat (first | exact Drawn0.refl _ | apply Drawn0.step)⟩
 case rest =>
  clear HC3
  try clear p2
  try clear c4
  try clear c4b0
  obtain ⟨kq, x18_2, rfl, HA, HJ2, ⟨mc2, rfl⟩⟩ := hcut
  cases kq with
  | zero => exact absurd HA.out (by simp [paymasterref07_Rune.j0])
  | succ kj2 =>
   have H := HA.out
   clear HA
   simp only [paymasterref07_Rune.j0] at H
   by_cases c5 : x18_2 = true
   ·
    subst c5
    have H1 : (some (0, 0)) = some (r1, r2) := by rw [if_pos rfl] at H; exact H
    clear H
    have H := H1
    clear H1
    simp only [Option.some.injEq, Prod.mk.injEq] at H
    obtain ⟨rfl, rfl⟩ := H
    go_wp2
    go_ret2
    exact ⟨by first | rfl | (simp; done) | (simp [*]; done), by repeat (first | exact Drawn0.refl _ | apply Drawn0.step)⟩
   ·
    replace c5 := Bool.eq_false_iff.mpr c5
    subst c5
    have H1 : (if 0 ≤ a1 then (if a1 < (a0.size : Int) then (if (wrap64 (bt a0 a1)) < 128 then (some (wrap64 (bt a0 a1), 1)) else (if (wrap64 (bt a0 a1)) ≥ 192 then (paymasterref07_Rune.j1 kj2 a0 a1 (wrap64 (bt a0 a1)) (decide ((wrap64 (bt a0 a1)) < 224))) else (paymasterref07_Rune.j1 kj2 a0 a1 (wrap64 (bt a0 a1)) false))) else (none)) else (none)) = some (r1, r2) := by rw [if_neg (show ¬ (false = true) by decide)] at H; exact H
    clear H
    have H := H1
    clear H1
    by_cases c6 : 0 ≤ a1
    ·
     rw [if_pos c6] at H
     have c6b0 : decide (0 ≤ a1) = true := decide_eq_true c6
     clear c6
     by_cases c7 : a1 < (a0.size : Int)
     ·
      rw [if_pos c7] at H
      have c7b0 : decide (a1 < (a0.size : Int)) = true := decide_eq_true c7
      clear c7
      have HC9 := aM' H
      clear H
      have p8 : 0 ≤ (a1 : Int) := of_decide_eq_true (by first | (with_reducible assumption) | assumption)
      have q8 : a1 < (a0.size : Int) := of_decide_eq_true (by first | (with_reducible assumption) | assumption)
      have hx8 := bt_at a0 a1
      replace p8 := eq_true p8
      replace q8 := eq_true q8
      go_upto_block 0 with (fail)
      go_cut [7, 8, 9] (fun v7 v8 v9 wc => ∃ (kq : Nat) (x7_8 : Int) (x8_8 : Int) (x9_8 : Int), v7 = .int .i64 x7_8 ∧ v8 = .int .i64 x8_8 ∧ v9 = .int .i64 x9_8 ∧ Aside0 (paymasterref07_Rune.j3 kq a0 a1 x7_8 x8_8 x9_8 = some (r1, r2)) ∧ Aside0 (kq ≤ kj2) ∧ Drawn0 w wc)
      case first =>
       have H := HC9.out
       clear HC9
       by_cases c10 : (wrap64 (bt a0 a1)) < 128
       ·
        rw [if_pos c10] at H
        have c10b0 : decide ((wrap64 (bt a0 a1)) < 128) = true := decide_eq_true c10
        clear c10
        (first | rw [c10b0] | (simp only [i64_w, i32_w]; rw [c10b0]) | skip)
        simp only [Option.some.injEq, Prod.mk.injEq] at H
        obtain ⟨rfl, rfl⟩ := H
        go_wp2
        go_ret2
        exact ⟨by first | rfl | (simp; done) | (simp [*]; done), by repeat (first | exact Drawn0.refl _ | apply Drawn0.step)⟩
       ·
        rw [if_neg c10] at H
        have c10b0 : decide ((wrap64 (bt a0 a1)) < 128) = false := decide_eq_false c10
        clear c10
        (first | rw [c10b0] | (simp only [i64_w, i32_w]; rw [c10b0]) | skip)
        have HC11 := aM' H
        clear H
        go_upto_region 8 with (fail)
        go_cut [27] (fun v27 wc => ∃ (kq : Nat) (x27_10 : Bool), v27 = .bool x27_10 ∧ Aside0 (paymasterref07_Rune.j1 kq a0 a1 (wrap64 (bt a0 a1)) x27_10 = some (r1, r2)) ∧ Aside0 (kq ≤ kj2) ∧ Drawn0 w wc)
        case first =>
         have H := HC11.out
         clear HC11
         by_cases c12 : (wrap64 (bt a0 a1)) ≥ 192
         ·
          rw [if_pos c12] at H
          have c12b0 : decide (192 ≤ (wrap64 (bt a0 a1))) = true := decide_eq_true c12
          clear c12
          (first | rw [c12b0] | (simp only [i64_w, i32_w]; rw [c12b0]) | skip)
          have H' := aM' H
          clear H
          go_wp2
          go_meet
          case rel => exact ⟨_, (decide ((wrap64 (bt a0 a1)) < 224)), (by first | rfl | (simp; done) | (simp [*]; done)), H', ⟨by have := HJ2.out; first | omega | exact Nat.le_refl _⟩, by repeat (first | exact Drawn0.refl _ | apply Drawn0.step)⟩
         ·
          rw [if_neg c12] at H
          have c12b0 : decide (192 ≤ (wrap64 (bt a0 a1))) = false := decide_eq_false c12
          clear c12
          (first | rw [c12b0] | (simp only [i64_w, i32_w]; rw [c12b0]) | skip)
          have H' := aM' H
          clear H
          go_wp2
          go_meet
          case rel => exact ⟨_, (false), (by first | rfl | (simp; done) | (simp [*]; done)), H', ⟨by have := HJ2.out; first | omega | exact Nat.le_refl _⟩, by repeat (first | exact Drawn0.refl _ | apply Drawn0.step)⟩
        case rest =>
         clear HC11
         try clear c1
         try clear c2
         try clear p2
         try clear c4
         try clear c4b0
         try clear c5
         try clear c6
         try clear c6b0
         try clear p6
         try clear c7
         try clear c7b0
         try clear p8
         try clear q8
         try clear hx8
         try clear c10
         try clear c10b0
         try clear c12
         try clear c12b0
         try clear p2
         try clear p8
         try clear q8
         obtain ⟨kq, x27_10, rfl, HA, HJ10, ⟨mc10, rfl⟩⟩ := hcut
         cases kq with
         | zero => exact absurd HA.out (by simp [paymasterref07_Rune.j1])
         | succ kj10 =>
          have H := HA.out
          clear HA
          simp only [paymasterref07_Rune.j1] at H
          by_cases c13 : x27_10 = true
          ·
           subst c13
           have H1 : (paymasterref07_Rune.j3 kj10 a0 a1 2 (wrap64 ((wrap64 (bt a0 a1)) - 192)) 128) = some (r1, r2) := by rw [if_pos rfl] at H; exact H
           clear H
           have H := H1
           clear H1
           have H' := aM' H
           clear H
           go_wp2
           go_meet
           case rel => exact ⟨_, (2), (wrap64 ((wrap64 (bt a0 a1)) - 192)), (128), (by first | rfl | (simp; done) | (simp [*]; done)), (by first | rfl | (simp; done) | (simp [*]; done)), (by first | rfl | (simp; done) | (simp [*]; done)), H', ⟨by have := HJ2.out; have := HJ10.out; first | omega | exact Nat.le_refl _⟩, by repeat (first | exact Drawn0.refl _ | apply Drawn0.step)⟩
          ·
           replace c13 := Bool.eq_false_iff.mpr c13
           subst c13
           have H1 : (if (wrap64 (bt a0 a1)) ≥ 224 then (paymasterref07_Rune.j2 kj10 a0 a1 (wrap64 (bt a0 a1)) (decide ((wrap64 (bt a0 a1)) < 240))) else (paymasterref07_Rune.j2 kj10 a0 a1 (wrap64 (bt a0 a1)) false)) = some (r1, r2) := by rw [if_neg (show ¬ (false = true) by decide)] at H; exact H
           clear H
           have H := H1
           clear H1
           have HC14 := aM' H
           clear H
           go_upto_region 10 with (fail)
           go_cut [36] (fun v36 wc => ∃ (kq : Nat) (x36_13 : Bool), v36 = .bool x36_13 ∧ Aside0 (paymasterref07_Rune.j2 kq a0 a1 (wrap64 (bt a0 a1)) x36_13 = some (r1, r2)) ∧ Aside0 (kq ≤ kj10) ∧ Drawn0 w wc)
           case first =>
            have H := HC14.out
            clear HC14
            by_cases c15 : (wrap64 (bt a0 a1)) ≥ 224
            ·
             rw [if_pos c15] at H
             have c15b0 : decide (224 ≤ (wrap64 (bt a0 a1))) = true := decide_eq_true c15
             clear c15
             (first | rw [c15b0] | (simp only [i64_w, i32_w]; rw [c15b0]) | skip)
             have H' := aM' H
             clear H
             go_wp2
             go_meet
             case rel => exact ⟨_, (decide ((wrap64 (bt a0 a1)) < 240)), (by first | rfl | (simp; done) | (simp [*]; done)), H', ⟨by have := HJ2.out; have := HJ10.out; first | omega | exact Nat.le_refl _⟩, by repeat (first | exact Drawn0.refl _ | apply Drawn0.step)⟩
            ·
             rw [if_neg c15] at H
             have c15b0 : decide (224 ≤ (wrap64 (bt a0 a1))) = false := decide_eq_false c15
             clear c15
             (first | rw [c15b0] | (simp only [i64_w, i32_w]; rw [c15b0]) | skip)
             have H' := aM' H
             clear H
             go_wp2
             go_meet
             case rel => exact ⟨_, (false), (by first | rfl | (simp; done) | (simp [*]; done)), H', ⟨by have := HJ2.out; have := HJ10.out; first | omega | exact Nat.le_refl _⟩, by repeat (first | exact Drawn0.refl _ | apply Drawn0.step)⟩
           case rest =>
            clear HC14
            try clear c1
            try clear c2
            try clear p2
            try clear c4
            try clear c4b0
            try clear c5
            try clear c6
            try clear c6b0
            try clear p6
            try clear c7
            try clear c7b0
            try clear p8
            try clear q8
            try clear hx8
            try clear c10
            try clear c10b0
            try clear c12
            try clear c12b0
            try clear c13
            try clear c15
            try clear c15b0
            try clear p2
            try clear p6
            try clear p8
            try clear q8
            obtain ⟨kq, x36_13, rfl, HA, HJ13, ⟨mc13, rfl⟩⟩ := hcut
            cases kq with
            | zero => exact absurd HA.out (by simp [paymasterref07_Rune.j2])
            | succ kj13 =>
             have H := HA.out
             clear HA
             simp only [paymasterref07_Rune.j2] at H
             by_cases c16 : x36_13 = true
             ·
              subst c16
              have H1 : (paymasterref07_Rune.j3 kj13 a0 a1 3 (wrap64 ((wrap64 (bt a0 a1)) - 224)) 2048) = some (r1, r2) := by rw [if_pos rfl] at H; exact H
              clear H
              have H := H1
              clear H1
              have H' := aM' H
              clear H
              go_wp2
              go_meet
              case rel => exact ⟨_, (3), (wrap64 ((wrap64 (bt a0 a1)) - 224)), (2048), (by first | rfl | (simp; done) | (simp [*]; done)), (by first | rfl | (simp; done) | (simp [*]; done)), (by first | rfl | (simp; done) | (simp [*]; done)), H', ⟨by have := HJ2.out; have := HJ10.out; have := HJ13.out; first | omega | exact Nat.le_refl _⟩, by repeat (first | exact Drawn0.refl _ | apply Drawn0.step)⟩
             ·
              replace c16 := Bool.eq_false_iff.mpr c16
              subst c16
              have H1 : (if (wrap64 (bt a0 a1)) ≥ 240 then (if (wrap64 (bt a0 a1)) < 248 then (paymasterref07_Rune.j3 kj13 a0 a1 4 (wrap64 ((wrap64 (bt a0 a1)) - 240)) 65536) else (some (0, 0))) else (some (0, 0))) = some (r1, r2) := by rw [if_neg (show ¬ (false = true) by decide)] at H; exact H
              clear H
              have H := H1
              clear H1
              by_cases c17 : (wrap64 (bt a0 a1)) ≥ 240
              ·
               rw [if_pos c17] at H
               have c17b0 : decide (240 ≤ (wrap64 (bt a0 a1))) = true := decide_eq_true c17
               clear c17
               by_cases c18 : (wrap64 (bt a0 a1)) < 248
               ·
                rw [if_pos c18] at H
                have c18b0 : decide ((wrap64 (bt a0 a1)) < 248) = true := decide_eq_true c18
                clear c18
                have H' := aM' H
                clear H
                go_wp2
                go_meet
                case rel => exact ⟨_, (4), (wrap64 ((wrap64 (bt a0 a1)) - 240)), (65536), (by first | rfl | (simp; done) | (simp [*]; done)), (by first | rfl | (simp; done) | (simp [*]; done)), (by first | rfl | (simp; done) | (simp [*]; done)), H', ⟨by have := HJ2.out; have := HJ10.out; have := HJ13.out; first | omega | exact Nat.le_refl _⟩, by repeat (first | exact Drawn0.refl _ | apply Drawn0.step)⟩
               ·
                rw [if_neg c18] at H
                have c18b0 : decide ((wrap64 (bt a0 a1)) < 248) = false := decide_eq_false c18
                clear c18
                simp only [Option.some.injEq, Prod.mk.injEq] at H
                obtain ⟨rfl, rfl⟩ := H
                go_wp2
                go_ret2
                exact ⟨by first | rfl | (simp; done) | (simp [*]; done), by repeat (first | exact Drawn0.refl _ | apply Drawn0.step)⟩
              ·
               rw [if_neg c17] at H
               have c17b0 : decide (240 ≤ (wrap64 (bt a0 a1))) = false := decide_eq_false c17
               clear c17
               simp only [Option.some.injEq, Prod.mk.injEq] at H
               obtain ⟨rfl, rfl⟩ := H
               go_wp2
               go_ret2
               exact ⟨by first | rfl | (simp; done) | (simp [*]; done), by repeat (first | exact Drawn0.refl _ | apply Drawn0.step)⟩
      case rest =>
       clear HC9
       try clear c1
       try clear c2
       try clear p2
       try clear c4
       try clear c4b0
       try clear c5
       try clear c6
       try clear c6b0
       try clear p6
       try clear c7
       try clear c7b0
       try clear p8
       try clear q8
       try clear hx8
       try clear c10
       try clear c10b0
       try clear c12
       try clear c12b0
       try clear c13
       try clear c15
       try clear c15b0
       try clear c16
       try clear c17
       try clear c17b0
       try clear c18
       try clear c18b0
       try clear p2
       try clear p6
       try clear p8
       try clear q8
       obtain ⟨kq, x7_8, x8_8, x9_8, rfl, rfl, rfl, HA, HJ8, ⟨mc8, rfl⟩⟩ := hcut
       cases kq with
       | zero => exact absurd HA.out (by simp [paymasterref07_Rune.j3])
       | succ kj8 =>
        have H := HA.out
        clear HA
        simp only [paymasterref07_Rune.j3] at H
        have H' := aM' H
        clear H
        go_wp2
        go_loopg [8, 10] kj8 (fun kq v8 v10 w' => ∃ (x8_3 : Int) (x10_3 : Int), v8 = .int .i64 x8_3 ∧ v10 = .int .i64 x10_3 ∧ Aside0 (paymasterref07_Rune.l0 kq a0 a1 x7_8 x8_3 x9_8 x10_3 = some (r1, r2)) ∧ Aside0 (kq ≤ kj8) ∧ Drawn0 w w')
        case atStart => exact ⟨(x8_8), (1), (by first | rfl | (simp; done) | (simp [*]; done)), (by first | rfl | (simp; done) | (simp [*]; done)), H', ⟨Nat.le_refl _⟩, by repeat (first | exact Drawn0.refl _ | apply Drawn0.step)⟩
        case round =>
         clear H'
         try clear c1
         try clear c2
         try clear p2
         try clear c4
         try clear c4b0
         try clear c5
         try clear c6
         try clear c6b0
         try clear p6
         try clear c7
         try clear c7b0
         try clear c8
         try clear p8
         try clear q8
         try clear hx8
         try clear c10
         try clear c10b0
         try clear c12
         try clear c12b0
         try clear c13
         try clear c15
         try clear c15b0
         try clear c16
         try clear c17
         try clear c17b0
         try clear c18
         try clear c18b0
         try clear p2
         try clear p6
         try clear p8
         try clear q8
         obtain ⟨x8_3, x10_3, rfl, rfl, HA, HK3, ⟨m3, rfl⟩⟩ := hrel
         cases gk with
         | zero => exact absurd HA.out (by simp [paymasterref07_Rune.l0])
         | succ k3 =>
          have H := HA.out
          clear HA
          simp only [paymasterref07_Rune.l0] at H
          by_cases c19 : x10_3 < x7_8
          ·
           rw [if_pos c19] at H
           have c19b0 : decide (x10_3 < x7_8) = true := decide_eq_true c19
           clear c19
           by_cases c20 : (wrap64 (a1 + x10_3)) ≥ (a0.size : Int)
           ·
            rw [if_pos c20] at H
            have c20b0 : decide ((a0.size : Int) ≤ (wrap64 (a1 + x10_3))) = true := decide_eq_true c20
            clear c20
            simp only [Option.some.injEq, Prod.mk.injEq] at H
            obtain ⟨rfl, rfl⟩ := H
            go_wp2
            go_ret2
            exact ⟨by first | rfl | (simp; done) | (simp [*]; done), by repeat (first | exact Drawn0.refl _ | apply Drawn0.step)⟩
           ·
            rw [if_neg c20] at H
            have c20b0 : decide ((a0.size : Int) ≤ (wrap64 (a1 + x10_3))) = false := decide_eq_false c20
            clear c20
            obtain ⟨ji21, hji21⟩ : ∃ j_ : Int, (wrap64 (a1 + x10_3)) = j_ := ⟨_, rfl⟩
            replace H : (if 0 ≤ (ji21) then (if (ji21) < (a0.size : Int) then (if (bt a0 (ji21)) < 128 then (some (0, 0)) else (if (bt a0 (ji21)) ≥ 192 then (some (0, 0)) else (paymasterref07_Rune.l0 k3 a0 a1 x7_8 (wrap64 ((wrap64 ((wrap64 (64 * x8_3)) + (wrap64 (bt a0 (ji21))))) - 128)) x9_8 (wrap64 (x10_3 + 1))))) else (none)) else (none)) = some (r1, r2) := by first | (rw [hji21] at H; exact H) | (simp only [hji21] at H ⊢; exact H)
            (try rw [hji21] at c20b0)
            have hji21w : (IntKind.i64.wrap (a1 + x10_3)) = ji21 := (i64_w _).trans hji21
            by_cases c22 : 0 ≤ (ji21)
            ·
             rw [if_pos c22] at H
             have c22b0 : decide (0 ≤ (ji21)) = true := decide_eq_true c22
             clear c22
             by_cases c23 : (ji21) < (a0.size : Int)
             ·
              rw [if_pos c23] at H
              have c23b0 : decide ((ji21) < (a0.size : Int)) = true := decide_eq_true c23
              clear c23
              by_cases c25 : (bt a0 (ji21)) < 128
              ·
               rw [if_pos c25] at H
               have c25b0 : decide ((bt a0 (ji21)) < 128) = true := decide_eq_true c25
               clear c25
               simp only [Option.some.injEq, Prod.mk.injEq] at H
               obtain ⟨rfl, rfl⟩ := H
               have p24 : 0 ≤ ((ji21) : Int) := of_decide_eq_true (by first | (with_reducible assumption) | assumption)
               have q24 : (ji21) < (a0.size : Int) := of_decide_eq_true (by first | (with_reducible assumption) | assumption)
               have hx24 := bt_at a0 (ji21)
               replace p24 := eq_true p24
               replace q24 := eq_true q24
               go_wp2
               go_ret2
               exact ⟨by first | rfl | (simp; done) | (simp only [← hji21] <;> (first | rfl | simp)) | (simp [*]; done), by repeat (first | exact Drawn0.refl _ | apply Drawn0.step)⟩
              ·
               rw [if_neg c25] at H
               have c25b0 : decide ((bt a0 (ji21)) < 128) = false := decide_eq_false c25
               clear c25
               by_cases c27 : (bt a0 (ji21)) ≥ 192
               ·
                rw [if_pos c27] at H
                have c27b0 : decide (192 ≤ (bt a0 (ji21))) = true := decide_eq_true c27
                clear c27
                simp only [Option.some.injEq, Prod.mk.injEq] at H
                obtain ⟨rfl, rfl⟩ := H
                have p24 : 0 ≤ ((ji21) : Int) := of_decide_eq_true (by first | (with_reducible assumption) | assumption)
                have q24 : (ji21) < (a0.size : Int) := of_decide_eq_true (by first | (with_reducible assumption) | assumption)
                have hx24 := bt_at a0 (ji21)
                replace p24 := eq_true p24
                replace q24 := eq_true q24
                have p26 : 0 ≤ ((ji21) : Int) := of_decide_eq_true (by first | (with_reducible assumption) | assumption)
                have q26 : (ji21) < (a0.size : Int) := of_decide_eq_true (by first | (with_reducible assumption) | assumption)
                have hx26 := bt_at a0 (ji21)
                replace p26 := eq_true p26
                replace q26 := eq_true q26
                go_wp2
                go_ret2
                exact ⟨by first | rfl | (simp; done) | (simp only [← hji21] <;> (first | rfl | simp)) | (simp [*]; done), by repeat (first | exact Drawn0.refl _ | apply Drawn0.step)⟩
               ·
                rw [if_neg c27] at H
                have c27b0 : decide (192 ≤ (bt a0 (ji21))) = false := decide_eq_false c27
                clear c27
                have H' := aM' H
                clear H
                have p24 : 0 ≤ ((ji21) : Int) := of_decide_eq_true (by first | (with_reducible assumption) | assumption)
                have q24 : (ji21) < (a0.size : Int) := of_decide_eq_true (by first | (with_reducible assumption) | assumption)
                have hx24 := bt_at a0 (ji21)
                replace p24 := eq_true p24
                replace q24 := eq_true q24
                have p26 : 0 ≤ ((ji21) : Int) := of_decide_eq_true (by first | (with_reducible assumption) | assumption)
                have q26 : (ji21) < (a0.size : Int) := of_decide_eq_true (by first | (with_reducible assumption) | assumption)
                have hx26 := bt_at a0 (ji21)
                replace p26 := eq_true p26
                replace q26 := eq_true q26
                have p28 : 0 ≤ ((ji21) : Int) := of_decide_eq_true (by first | (with_reducible assumption) | assumption)
                have q28 : (ji21) < (a0.size : Int) := of_decide_eq_true (by first | (with_reducible assumption) | assumption)
                have hx28 := bt_at a0 (ji21)
                replace p28 := eq_true p28
                replace q28 := eq_true q28
                go_wp2
                go_roundg k3
                case measure => have := HJ2.out; have := HJ8.out; have := HK3.out; omega
                case rel => exact ⟨(wrap64 ((wrap64 ((wrap64 (64 * x8_3)) + (wrap64 (bt a0 (ji21))))) - 128)), (wrap64 (x10_3 + 1)), (by first | rfl | (simp; done) | (simp only [← hji21] <;> (first | rfl | simp)) | (simp [*]; done)), (by first | rfl | (simp; done) | (simp [*]; done)), H', ⟨by have := HJ2.out; have := HJ8.out; have := HK3.out; omega⟩, by repeat (first | exact Drawn0.refl _ | apply Drawn0.step)⟩
             ·
              rw [if_neg c23] at H
              exact absurd H (by simp)
            ·
             rw [if_neg c22] at H
             exact absurd H (by simp)
          ·
           rw [if_neg c19] at H
           have c19b0 : decide (x10_3 < x7_8) = false := decide_eq_false c19
           clear c19
           by_cases c29 : x8_3 < x9_8
           ·
            rw [if_pos c29] at H
            have c29b0 : decide (x8_3 < x9_8) = true := decide_eq_true c29
            clear c29
            simp only [Option.some.injEq, Prod.mk.injEq] at H
            obtain ⟨rfl, rfl⟩ := H
            go_wp2
            go_ret2
            exact ⟨by first | rfl | (simp; done) | (simp [*]; done), by repeat (first | exact Drawn0.refl _ | apply Drawn0.step)⟩
           ·
            rw [if_neg c29] at H
            have c29b0 : decide (x8_3 < x9_8) = false := decide_eq_false c29
            clear c29
            by_cases c30 : x8_3 > 1114111
            ·
             rw [if_pos c30] at H
             have c30b0 : decide (1114111 < x8_3) = true := decide_eq_true c30
             clear c30
             simp only [Option.some.injEq, Prod.mk.injEq] at H
             obtain ⟨rfl, rfl⟩ := H
             go_wp2
             go_ret2
             exact ⟨by first | rfl | (simp; done) | (simp [*]; done), by repeat (first | exact Drawn0.refl _ | apply Drawn0.step)⟩
            ·
             rw [if_neg c30] at H
             have c30b0 : decide (1114111 < x8_3) = false := decide_eq_false c30
             clear c30
             by_cases c31 : x8_3 ≥ 55296
             ·
              rw [if_pos c31] at H
              have c31b0 : decide (55296 ≤ x8_3) = true := decide_eq_true c31
              clear c31
              by_cases c32 : x8_3 < 57344
              ·
               rw [if_pos c32] at H
               have c32b0 : decide (x8_3 < 57344) = true := decide_eq_true c32
               clear c32
               simp only [Option.some.injEq, Prod.mk.injEq] at H
               obtain ⟨rfl, rfl⟩ := H
               go_wp2
               go_ret2
               exact ⟨by first | rfl | (simp; done) | (simp [*]; done), by repeat (first | exact Drawn0.refl _ | apply Drawn0.step)⟩
              ·
               rw [if_neg c32] at H
               have c32b0 : decide (x8_3 < 57344) = false := decide_eq_false c32
               clear c32
               simp only [Option.some.injEq, Prod.mk.injEq] at H
               obtain ⟨rfl, rfl⟩ := H
               go_wp2
               go_ret2
               exact ⟨by first | rfl | (simp; done) | (simp [*]; done), by repeat (first | exact Drawn0.refl _ | apply Drawn0.step)⟩
             ·
              rw [if_neg c31] at H
              have c31b0 : decide (55296 ≤ x8_3) = false := decide_eq_false c31
              clear c31
              simp only [Option.some.injEq, Prod.mk.injEq] at H
              obtain ⟨rfl, rfl⟩ := H
              go_wp2
              go_ret2
              exact ⟨by first | rfl | (simp; done) | (simp [*]; done), by repeat (first | exact Drawn0.refl _ | apply Drawn0.step)⟩
     ·
      rw [if_neg c7] at H
      exact absurd H (by simp)
    ·
     rw [if_neg c6] at H
     exact absurd H (by simp)
end Go.Proofs.YtlmmpncdemblbaaGreatDoor.P
namespace Go.Proofs.YtlmmpncdemblbaaGreatDoor.P
open Go.RowKit Go.Proofs.YtlmmpncdemblbaaGreatDoorW.PrintWords Go.Proofs.YtlmmpncdemblbaaGreatDoorW.PrintLast Go.Proofs.YtlmmpncdemblbaaGreatDoorW.PrintMore
attribute [local go_sem] max2_int min2_int max_two min_two max_three min_three max_four min_four-- for this text's walks alone
set_option linter.unusedVariables false
set_option linter.unusedSimpArgs false
def paymasterref07_within.f (a0 : Int) : Option (Bool) := if a0 ≥ 97 then (if a0 ≤ 122 then (some true) else (if a0 ≥ 65 then (if a0 ≤ 90 then (some true) else (if a0 ≥ 48 then (if a0 ≤ 57 then (some true) else (if a0 = 46 then (some true) else (if a0 = 95 then (some true) else (if a0 = 45 then (some true) else (some (decide (a0 ≥ 161))))))) else (if a0 = 46 then (some true) else (if a0 = 95 then (some true) else (if a0 = 45 then (some true) else (some (decide (a0 ≥ 161)))))))) else (if a0 ≥ 48 then (if a0 ≤ 57 then (some true) else (if a0 = 46 then (some true) else (if a0 = 95 then (some true) else (if a0 = 45 then (some true) else (some (decide (a0 ≥ 161))))))) else (if a0 = 46 then (some true) else (if a0 = 95 then (some true) else (if a0 = 45 then (some true) else (some (decide (a0 ≥ 161))))))))) else (if a0 ≥ 65 then (if a0 ≤ 90 then (some true) else (if a0 ≥ 48 then (if a0 ≤ 57 then (some true) else (if a0 = 46 then (some true) else (if a0 = 95 then (some true) else (if a0 = 45 then (some true) else (some (decide (a0 ≥ 161))))))) else (if a0 = 46 then (some true) else (if a0 = 95 then (some true) else (if a0 = 45 then (some true) else (some (decide (a0 ≥ 161)))))))) else (if a0 ≥ 48 then (if a0 ≤ 57 then (some true) else (if a0 = 46 then (some true) else (if a0 = 95 then (some true) else (if a0 = 45 then (some true) else (some (decide (a0 ≥ 161))))))) else (if a0 = 46 then (some true) else (if a0 = 95 then (some true) else (if a0 = 45 then (some true) else (some (decide (a0 ≥ 161))))))))
set_option maxHeartbeats 8000000 in
set_option maxRecDepth 100000 in
theorem paymasterref07_within.calls (a0 : Int) (r : Bool) (w : World) (h : paymasterref07_within.f a0 = some r) :
  Calls Tryz.prog 41 #[.int .i64 a0] w fun e w' => e = .returned (.bool r) ∧ Drawn0 w w' := by
 have H : (if a0 ≥ 97 then (if a0 ≤ 122 then (some true) else (if a0 ≥ 65 then (if a0 ≤ 90 then (some true) else (if a0 ≥ 48 then (if a0 ≤ 57 then (some true) else (if a0 = 46 then (some true) else (if a0 = 95 then (some true) else (if a0 = 45 then (some true) else (some (decide (a0 ≥ 161))))))) else (if a0 = 46 then (some true) else (if a0 = 95 then (some true) else (if a0 = 45 then (some true) else (some (decide (a0 ≥ 161)))))))) else (if a0 ≥ 48 then (if a0 ≤ 57 then (some true) else (if a0 = 46 then (some true) else (if a0 = 95 then (some true) else (if a0 = 45 then (some true) else (some (decide (a0 ≥ 161))))))) else (if a0 = 46 then (some true) else (if a0 = 95 then (some true) else (if a0 = 45 then (some true) else (some (decide (a0 ≥ 161))))))))) else (if a0 ≥ 65 then (if a0 ≤ 90 then (some true) else (if a0 ≥ 48 then (if a0 ≤ 57 then (some true) else (if a0 = 46 then (some true) else (if a0 = 95 then (some true) else (if a0 = 45 then (some true) else (some (decide (a0 ≥ 161))))))) else (if a0 = 46 then (some true) else (if a0 = 95 then (some true) else (if a0 = 45 then (some true) else (some (decide (a0 ≥ 161)))))))) else (if a0 ≥ 48 then (if a0 ≤ 57 then (some true) else (if a0 = 46 then (some true) else (if a0 = 95 then (some true) else (if a0 = 45 then (some true) else (some (decide (a0 ≥ 161))))))) else (if a0 = 46 then (some true) else (if a0 = 95 then (some true) else (if a0 = 45 then (some true) else (some (decide (a0 ≥ 161))))))))) = some r := h
 clear h
 by_cases c2 : a0 ≥ 97
 ·
  rw [if_pos c2] at H
  have c2b0 : decide (97 ≤ a0) = true := decide_eq_true c2
  clear c2
  by_cases c3 : a0 ≤ 122
  ·
   rw [if_pos c3] at H
   have c3b0 : decide (a0 ≤ 122) = true := decide_eq_true c3
   clear c3
   obtain rfl := Option.some.inj H
   go_enter Tryz.func41, Tryz.ntmps41
   go_wp2
   go_ret
   exact ⟨by first | rfl | (simp; done) | (simp [*]; done), by repeat (first | exact Drawn0.refl _ | apply Drawn0.step)⟩
  ·
   rw [if_neg c3] at H
   have c3b0 : decide (a0 ≤ 122) = false := decide_eq_false c3
   clear c3
   by_cases c4 : a0 ≥ 65
   ·
    rw [if_pos c4] at H
    have c4b0 : decide (65 ≤ a0) = true := decide_eq_true c4
    clear c4
    by_cases c5 : a0 ≤ 90
    ·
     rw [if_pos c5] at H
     have c5b0 : decide (a0 ≤ 90) = true := decide_eq_true c5
     clear c5
     obtain rfl := Option.some.inj H
     go_enter Tryz.func41, Tryz.ntmps41
     go_wp2
     go_ret
     exact ⟨by first | rfl | (simp; done) | (simp [*]; done), by repeat (first | exact Drawn0.refl _ | apply Drawn0.step)⟩
    ·
     rw [if_neg c5] at H
     have c5b0 : decide (a0 ≤ 90) = false := decide_eq_false c5
     clear c5
     by_cases c6 : a0 ≥ 48
     ·
      rw [if_pos c6] at H
      have c6b0 : decide (48 ≤ a0) = true := decide_eq_true c6
      clear c6
      by_cases c7 : a0 ≤ 57
      ·
       rw [if_pos c7] at H
       have c7b0 : decide (a0 ≤ 57) = true := decide_eq_true c7
       clear c7
       obtain rfl := Option.some.inj H
       go_enter Tryz.func41, Tryz.ntmps41
       go_wp2
       go_ret
       exact ⟨by first | rfl | (simp; done) | (simp [*]; done), by repeat (first | exact Drawn0.refl _ | apply Drawn0.step)⟩
      ·
       rw [if_neg c7] at H
       have c7b0 : decide (a0 ≤ 57) = false := decide_eq_false c7
       clear c7
       by_cases c8 : a0 = 46
       ·
        rw [if_pos c8] at H
        have c8b0 : (a0 == 46) = true := beq_iff_eq.mpr c8
        have c8b1 : (a0 != 46) = false := bne_eq_false_iff_eq.mpr c8
        clear c8
        obtain rfl := Option.some.inj H
        go_enter Tryz.func41, Tryz.ntmps41
        go_wp2
        go_ret
        exact ⟨by first | rfl | (simp; done) | (simp [*]; done), by repeat (first | exact Drawn0.refl _ | apply Drawn0.step)⟩
       ·
        rw [if_neg c8] at H
        have c8b0 : (a0 == 46) = false := beq_eq_false_iff_ne.mpr c8
        have c8b1 : (a0 != 46) = true := bne_iff_ne.mpr c8
        by_cases c9 : a0 = 95
        ·
         rw [if_pos c9] at H
         have c9b0 : (a0 == 95) = true := beq_iff_eq.mpr c9
         have c9b1 : (a0 != 95) = false := bne_eq_false_iff_eq.mpr c9
         clear c9
         obtain rfl := Option.some.inj H
         go_enter Tryz.func41, Tryz.ntmps41
         go_wp2
         go_ret
         exact ⟨by first | rfl | (simp; done) | (simp [*]; done), by repeat (first | exact Drawn0.refl _ | apply Drawn0.step)⟩
        ·
         rw [if_neg c9] at H
         have c9b0 : (a0 == 95) = false := beq_eq_false_iff_ne.mpr c9
         have c9b1 : (a0 != 95) = true := bne_iff_ne.mpr c9
         by_cases c10 : a0 = 45
         ·
          rw [if_pos c10] at H
          have c10b0 : (a0 == 45) = true := beq_iff_eq.mpr c10
          have c10b1 : (a0 != 45) = false := bne_eq_false_iff_eq.mpr c10
          clear c10
          obtain rfl := Option.some.inj H
          go_enter Tryz.func41, Tryz.ntmps41
          go_wp2
          go_ret
          exact ⟨by first | rfl | (simp; done) | (simp [*]; done), by repeat (first | exact Drawn0.refl _ | apply Drawn0.step)⟩
         ·
          rw [if_neg c10] at H
          have c10b0 : (a0 == 45) = false := beq_eq_false_iff_ne.mpr c10
          have c10b1 : (a0 != 45) = true := bne_iff_ne.mpr c10
          obtain rfl := Option.some.inj H
          go_enter Tryz.func41, Tryz.ntmps41
          go_wp2
          go_ret
          exact ⟨by first | rfl | (simp; done) | (simp [*]; done), by repeat (first | exact Drawn0.refl _ | apply Drawn0.step)⟩
     ·
      rw [if_neg c6] at H
      have c6b0 : decide (48 ≤ a0) = false := decide_eq_false c6
      clear c6
      by_cases c11 : a0 = 46
      ·
       rw [if_pos c11] at H
       have c11b0 : (a0 == 46) = true := beq_iff_eq.mpr c11
       have c11b1 : (a0 != 46) = false := bne_eq_false_iff_eq.mpr c11
       clear c11
       obtain rfl := Option.some.inj H
       go_enter Tryz.func41, Tryz.ntmps41
       go_wp2
       go_ret
       exact ⟨by first | rfl | (simp; done) | (simp [*]; done), by repeat (first | exact Drawn0.refl _ | apply Drawn0.step)⟩
      ·
       rw [if_neg c11] at H
       have c11b0 : (a0 == 46) = false := beq_eq_false_iff_ne.mpr c11
       have c11b1 : (a0 != 46) = true := bne_iff_ne.mpr c11
       by_cases c12 : a0 = 95
       ·
        rw [if_pos c12] at H
        have c12b0 : (a0 == 95) = true := beq_iff_eq.mpr c12
        have c12b1 : (a0 != 95) = false := bne_eq_false_iff_eq.mpr c12
        clear c12
        obtain rfl := Option.some.inj H
        go_enter Tryz.func41, Tryz.ntmps41
        go_wp2
        go_ret
        exact ⟨by first | rfl | (simp; done) | (simp [*]; done), by repeat (first | exact Drawn0.refl _ | apply Drawn0.step)⟩
       ·
        rw [if_neg c12] at H
        have c12b0 : (a0 == 95) = false := beq_eq_false_iff_ne.mpr c12
        have c12b1 : (a0 != 95) = true := bne_iff_ne.mpr c12
        by_cases c13 : a0 = 45
        ·
         rw [if_pos c13] at H
         have c13b0 : (a0 == 45) = true := beq_iff_eq.mpr c13
         have c13b1 : (a0 != 45) = false := bne_eq_false_iff_eq.mpr c13
         clear c13
         obtain rfl := Option.some.inj H
         go_enter Tryz.func41, Tryz.ntmps41
         go_wp2
         go_ret
         exact ⟨by first | rfl | (simp; done) | (simp [*]; done), by repeat (first | exact Drawn0.refl _ | apply Drawn0.step)⟩
        ·
         rw [if_neg c13] at H
         have c13b0 : (a0 == 45) = false := beq_eq_false_iff_ne.mpr c13
         have c13b1 : (a0 != 45) = true := bne_iff_ne.mpr c13
         obtain rfl := Option.some.inj H
         go_enter Tryz.func41, Tryz.ntmps41
         go_wp2
         go_ret
         exact ⟨by first | rfl | (simp; done) | (simp [*]; done), by repeat (first | exact Drawn0.refl _ | apply Drawn0.step)⟩
   ·
    rw [if_neg c4] at H
    have c4b0 : decide (65 ≤ a0) = false := decide_eq_false c4
    clear c4
    by_cases c14 : a0 ≥ 48
    ·
     rw [if_pos c14] at H
     have c14b0 : decide (48 ≤ a0) = true := decide_eq_true c14
     clear c14
     by_cases c15 : a0 ≤ 57
     ·
      rw [if_pos c15] at H
      have c15b0 : decide (a0 ≤ 57) = true := decide_eq_true c15
      clear c15
      obtain rfl := Option.some.inj H
      go_enter Tryz.func41, Tryz.ntmps41
      go_wp2
      go_ret
      exact ⟨by first | rfl | (simp; done) | (simp [*]; done), by repeat (first | exact Drawn0.refl _ | apply Drawn0.step)⟩
     ·
      rw [if_neg c15] at H
      have c15b0 : decide (a0 ≤ 57) = false := decide_eq_false c15
      clear c15
      by_cases c16 : a0 = 46
      ·
       rw [if_pos c16] at H
       have c16b0 : (a0 == 46) = true := beq_iff_eq.mpr c16
       have c16b1 : (a0 != 46) = false := bne_eq_false_iff_eq.mpr c16
       clear c16
       obtain rfl := Option.some.inj H
       go_enter Tryz.func41, Tryz.ntmps41
       go_wp2
       go_ret
       exact ⟨by first | rfl | (simp; done) | (simp [*]; done), by repeat (first | exact Drawn0.refl _ | apply Drawn0.step)⟩
      ·
       rw [if_neg c16] at H
       have c16b0 : (a0 == 46) = false := beq_eq_false_iff_ne.mpr c16
       have c16b1 : (a0 != 46) = true := bne_iff_ne.mpr c16
       by_cases c17 : a0 = 95
       ·
        rw [if_pos c17] at H
        have c17b0 : (a0 == 95) = true := beq_iff_eq.mpr c17
        have c17b1 : (a0 != 95) = false := bne_eq_false_iff_eq.mpr c17
        clear c17
        obtain rfl := Option.some.inj H
        go_enter Tryz.func41, Tryz.ntmps41
        go_wp2
        go_ret
        exact ⟨by first | rfl | (simp; done) | (simp [*]; done), by repeat (first | exact Drawn0.refl _ | apply Drawn0.step)⟩
       ·
        rw [if_neg c17] at H
        have c17b0 : (a0 == 95) = false := beq_eq_false_iff_ne.mpr c17
        have c17b1 : (a0 != 95) = true := bne_iff_ne.mpr c17
        by_cases c18 : a0 = 45
        ·
         rw [if_pos c18] at H
         have c18b0 : (a0 == 45) = true := beq_iff_eq.mpr c18
         have c18b1 : (a0 != 45) = false := bne_eq_false_iff_eq.mpr c18
         clear c18
         obtain rfl := Option.some.inj H
         go_enter Tryz.func41, Tryz.ntmps41
         go_wp2
         go_ret
         exact ⟨by first | rfl | (simp; done) | (simp [*]; done), by repeat (first | exact Drawn0.refl _ | apply Drawn0.step)⟩
        ·
         rw [if_neg c18] at H
         have c18b0 : (a0 == 45) = false := beq_eq_false_iff_ne.mpr c18
         have c18b1 : (a0 != 45) = true := bne_iff_ne.mpr c18
         obtain rfl := Option.some.inj H
         go_enter Tryz.func41, Tryz.ntmps41
         go_wp2
         go_ret
         exact ⟨by first | rfl | (simp; done) | (simp [*]; done), by repeat (first | exact Drawn0.refl _ | apply Drawn0.step)⟩
    ·
     rw [if_neg c14] at H
     have c14b0 : decide (48 ≤ a0) = false := decide_eq_false c14
     clear c14
     by_cases c19 : a0 = 46
     ·
      rw [if_pos c19] at H
      have c19b0 : (a0 == 46) = true := beq_iff_eq.mpr c19
      have c19b1 : (a0 != 46) = false := bne_eq_false_iff_eq.mpr c19
      clear c19
      obtain rfl := Option.some.inj H
      go_enter Tryz.func41, Tryz.ntmps41
      go_wp2
      go_ret
      exact ⟨by first | rfl | (simp; done) | (simp [*]; done), by repeat (first | exact Drawn0.refl _ | apply Drawn0.step)⟩
     ·
      rw [if_neg c19] at H
      have c19b0 : (a0 == 46) = false := beq_eq_false_iff_ne.mpr c19
      have c19b1 : (a0 != 46) = true := bne_iff_ne.mpr c19
      by_cases c20 : a0 = 95
      ·
       rw [if_pos c20] at H
       have c20b0 : (a0 == 95) = true := beq_iff_eq.mpr c20
       have c20b1 : (a0 != 95) = false := bne_eq_false_iff_eq.mpr c20
       clear c20
       obtain rfl := Option.some.inj H
       go_enter Tryz.func41, Tryz.ntmps41
       go_wp2
       go_ret
       exact ⟨by first | rfl | (simp; done) | (simp [*]; done), by repeat (first | exact Drawn0.refl _ | apply Drawn0.step)⟩
      ·
       rw [if_neg c20] at H
       have c20b0 : (a0 == 95) = false := beq_eq_false_iff_ne.mpr c20
       have c20b1 : (a0 != 95) = true := bne_iff_ne.mpr c20
       by_cases c21 : a0 = 45
       ·
        rw [if_pos c21] at H
        have c21b0 : (a0 == 45) = true := beq_iff_eq.mpr c21
        have c21b1 : (a0 != 45) = false := bne_eq_false_iff_eq.mpr c21
        clear c21
        obtain rfl := Option.some.inj H
        go_enter Tryz.func41, Tryz.ntmps41
        go_wp2
        go_ret
        exact ⟨by first | rfl | (simp; done) | (simp [*]; done), by repeat (first | exact Drawn0.refl _ | apply Drawn0.step)⟩
       ·
        rw [if_neg c21] at H
        have c21b0 : (a0 == 45) = false := beq_eq_false_iff_ne.mpr c21
        have c21b1 : (a0 != 45) = true := bne_iff_ne.mpr c21
        obtain rfl := Option.some.inj H
        go_enter Tryz.func41, Tryz.ntmps41
        go_wp2
        go_ret
        exact ⟨by first | rfl | (simp; done) | (simp [*]; done), by repeat (first | exact Drawn0.refl _ | apply Drawn0.step)⟩
 ·
  rw [if_neg c2] at H
  have c2b0 : decide (97 ≤ a0) = false := decide_eq_false c2
  clear c2
  by_cases c22 : a0 ≥ 65
  ·
   rw [if_pos c22] at H
   have c22b0 : decide (65 ≤ a0) = true := decide_eq_true c22
   clear c22
   by_cases c23 : a0 ≤ 90
   ·
    rw [if_pos c23] at H
    have c23b0 : decide (a0 ≤ 90) = true := decide_eq_true c23
    clear c23
    obtain rfl := Option.some.inj H
    go_enter Tryz.func41, Tryz.ntmps41
    go_wp2
    go_ret
    exact ⟨by first | rfl | (simp; done) | (simp [*]; done), by repeat (first | exact Drawn0.refl _ | apply Drawn0.step)⟩
   ·
    rw [if_neg c23] at H
    have c23b0 : decide (a0 ≤ 90) = false := decide_eq_false c23
    clear c23
    by_cases c24 : a0 ≥ 48
    ·
     rw [if_pos c24] at H
     have c24b0 : decide (48 ≤ a0) = true := decide_eq_true c24
     clear c24
     by_cases c25 : a0 ≤ 57
     ·
      rw [if_pos c25] at H
      have c25b0 : decide (a0 ≤ 57) = true := decide_eq_true c25
      clear c25
      obtain rfl := Option.some.inj H
      go_enter Tryz.func41, Tryz.ntmps41
      go_wp2
      go_ret
      exact ⟨by first | rfl | (simp; done) | (simp [*]; done), by repeat (first | exact Drawn0.refl _ | apply Drawn0.step)⟩
     ·
      rw [if_neg c25] at H
      have c25b0 : decide (a0 ≤ 57) = false := decide_eq_false c25
      clear c25
      by_cases c26 : a0 = 46
      ·
       rw [if_pos c26] at H
       have c26b0 : (a0 == 46) = true := beq_iff_eq.mpr c26
       have c26b1 : (a0 != 46) = false := bne_eq_false_iff_eq.mpr c26
       clear c26
       obtain rfl := Option.some.inj H
       go_enter Tryz.func41, Tryz.ntmps41
       go_wp2
       go_ret
       exact ⟨by first | rfl | (simp; done) | (simp [*]; done), by repeat (first | exact Drawn0.refl _ | apply Drawn0.step)⟩
      ·
       rw [if_neg c26] at H
       have c26b0 : (a0 == 46) = false := beq_eq_false_iff_ne.mpr c26
       have c26b1 : (a0 != 46) = true := bne_iff_ne.mpr c26
       by_cases c27 : a0 = 95
       ·
        rw [if_pos c27] at H
        have c27b0 : (a0 == 95) = true := beq_iff_eq.mpr c27
        have c27b1 : (a0 != 95) = false := bne_eq_false_iff_eq.mpr c27
        clear c27
        obtain rfl := Option.some.inj H
        go_enter Tryz.func41, Tryz.ntmps41
        go_wp2
        go_ret
        exact ⟨by first | rfl | (simp; done) | (simp [*]; done), by repeat (first | exact Drawn0.refl _ | apply Drawn0.step)⟩
       ·
        rw [if_neg c27] at H
        have c27b0 : (a0 == 95) = false := beq_eq_false_iff_ne.mpr c27
        have c27b1 : (a0 != 95) = true := bne_iff_ne.mpr c27
        by_cases c28 : a0 = 45
        ·
         rw [if_pos c28] at H
         have c28b0 : (a0 == 45) = true := beq_iff_eq.mpr c28
         have c28b1 : (a0 != 45) = false := bne_eq_false_iff_eq.mpr c28
         clear c28
         obtain rfl := Option.some.inj H
         go_enter Tryz.func41, Tryz.ntmps41
         go_wp2
         go_ret
         exact ⟨by first | rfl | (simp; done) | (simp [*]; done), by repeat (first | exact Drawn0.refl _ | apply Drawn0.step)⟩
        ·
         rw [if_neg c28] at H
         have c28b0 : (a0 == 45) = false := beq_eq_false_iff_ne.mpr c28
         have c28b1 : (a0 != 45) = true := bne_iff_ne.mpr c28
         obtain rfl := Option.some.inj H
         go_enter Tryz.func41, Tryz.ntmps41
         go_wp2
         go_ret
         exact ⟨by first | rfl | (simp; done) | (simp [*]; done), by repeat (first | exact Drawn0.refl _ | apply Drawn0.step)⟩
    ·
     rw [if_neg c24] at H
     have c24b0 : decide (48 ≤ a0) = false := decide_eq_false c24
     clear c24
     by_cases c29 : a0 = 46
     ·
      rw [if_pos c29] at H
      have c29b0 : (a0 == 46) = true := beq_iff_eq.mpr c29
      have c29b1 : (a0 != 46) = false := bne_eq_false_iff_eq.mpr c29
      clear c29
      obtain rfl := Option.some.inj H
      go_enter Tryz.func41, Tryz.ntmps41
      go_wp2
      go_ret
      exact ⟨by first | rfl | (simp; done) | (simp [*]; done), by repeat (first | exact Drawn0.refl _ | apply Drawn0.step)⟩
     ·
      rw [if_neg c29] at H
      have c29b0 : (a0 == 46) = false := beq_eq_false_iff_ne.mpr c29
      have c29b1 : (a0 != 46) = true := bne_iff_ne.mpr c29
      by_cases c30 : a0 = 95
      ·
       rw [if_pos c30] at H
       have c30b0 : (a0 == 95) = true := beq_iff_eq.mpr c30
       have c30b1 : (a0 != 95) = false := bne_eq_false_iff_eq.mpr c30
       clear c30
       obtain rfl := Option.some.inj H
       go_enter Tryz.func41, Tryz.ntmps41
       go_wp2
       go_ret
       exact ⟨by first | rfl | (simp; done) | (simp [*]; done), by repeat (first | exact Drawn0.refl _ | apply Drawn0.step)⟩
      ·
       rw [if_neg c30] at H
       have c30b0 : (a0 == 95) = false := beq_eq_false_iff_ne.mpr c30
       have c30b1 : (a0 != 95) = true := bne_iff_ne.mpr c30
       by_cases c31 : a0 = 45
       ·
        rw [if_pos c31] at H
        have c31b0 : (a0 == 45) = true := beq_iff_eq.mpr c31
        have c31b1 : (a0 != 45) = false := bne_eq_false_iff_eq.mpr c31
        clear c31
        obtain rfl := Option.some.inj H
        go_enter Tryz.func41, Tryz.ntmps41
        go_wp2
        go_ret
        exact ⟨by first | rfl | (simp; done) | (simp [*]; done), by repeat (first | exact Drawn0.refl _ | apply Drawn0.step)⟩
       ·
        rw [if_neg c31] at H
        have c31b0 : (a0 == 45) = false := beq_eq_false_iff_ne.mpr c31
        have c31b1 : (a0 != 45) = true := bne_iff_ne.mpr c31
        obtain rfl := Option.some.inj H
        go_enter Tryz.func41, Tryz.ntmps41
        go_wp2
        go_ret
        exact ⟨by first | rfl | (simp; done) | (simp [*]; done), by repeat (first | exact Drawn0.refl _ | apply Drawn0.step)⟩
  ·
   rw [if_neg c22] at H
   have c22b0 : decide (65 ≤ a0) = false := decide_eq_false c22
   clear c22
   by_cases c32 : a0 ≥ 48
   ·
    rw [if_pos c32] at H
    have c32b0 : decide (48 ≤ a0) = true := decide_eq_true c32
    clear c32
    by_cases c33 : a0 ≤ 57
    ·
     rw [if_pos c33] at H
     have c33b0 : decide (a0 ≤ 57) = true := decide_eq_true c33
     clear c33
     obtain rfl := Option.some.inj H
     go_enter Tryz.func41, Tryz.ntmps41
     go_wp2
     go_ret
     exact ⟨by first | rfl | (simp; done) | (simp [*]; done), by repeat (first | exact Drawn0.refl _ | apply Drawn0.step)⟩
    ·
     rw [if_neg c33] at H
     have c33b0 : decide (a0 ≤ 57) = false := decide_eq_false c33
     clear c33
     by_cases c34 : a0 = 46
     ·
      rw [if_pos c34] at H
      have c34b0 : (a0 == 46) = true := beq_iff_eq.mpr c34
      have c34b1 : (a0 != 46) = false := bne_eq_false_iff_eq.mpr c34
      clear c34
      obtain rfl := Option.some.inj H
      go_enter Tryz.func41, Tryz.ntmps41
      go_wp2
      go_ret
      exact ⟨by first | rfl | (simp; done) | (simp [*]; done), by repeat (first | exact Drawn0.refl _ | apply Drawn0.step)⟩
     ·
      rw [if_neg c34] at H
      have c34b0 : (a0 == 46) = false := beq_eq_false_iff_ne.mpr c34
      have c34b1 : (a0 != 46) = true := bne_iff_ne.mpr c34
      by_cases c35 : a0 = 95
      ·
       rw [if_pos c35] at H
       have c35b0 : (a0 == 95) = true := beq_iff_eq.mpr c35
       have c35b1 : (a0 != 95) = false := bne_eq_false_iff_eq.mpr c35
       clear c35
       obtain rfl := Option.some.inj H
       go_enter Tryz.func41, Tryz.ntmps41
       go_wp2
       go_ret
       exact ⟨by first | rfl | (simp; done) | (simp [*]; done), by repeat (first | exact Drawn0.refl _ | apply Drawn0.step)⟩
      ·
       rw [if_neg c35] at H
       have c35b0 : (a0 == 95) = false := beq_eq_false_iff_ne.mpr c35
       have c35b1 : (a0 != 95) = true := bne_iff_ne.mpr c35
       by_cases c36 : a0 = 45
       ·
        rw [if_pos c36] at H
        have c36b0 : (a0 == 45) = true := beq_iff_eq.mpr c36
        have c36b1 : (a0 != 45) = false := bne_eq_false_iff_eq.mpr c36
        clear c36
        obtain rfl := Option.some.inj H
        go_enter Tryz.func41, Tryz.ntmps41
        go_wp2
        go_ret
        exact ⟨by first | rfl | (simp; done) | (simp [*]; done), by repeat (first | exact Drawn0.refl _ | apply Drawn0.step)⟩
       ·
        rw [if_neg c36] at H
        have c36b0 : (a0 == 45) = false := beq_eq_false_iff_ne.mpr c36
        have c36b1 : (a0 != 45) = true := bne_iff_ne.mpr c36
        obtain rfl := Option.some.inj H
        go_enter Tryz.func41, Tryz.ntmps41
        go_wp2
        go_ret
        exact ⟨by first | rfl | (simp; done) | (simp [*]; done), by repeat (first | exact Drawn0.refl _ | apply Drawn0.step)⟩
   ·
    rw [if_neg c32] at H
    have c32b0 : decide (48 ≤ a0) = false := decide_eq_false c32
    clear c32
    by_cases c37 : a0 = 46
    ·
     rw [if_pos c37] at H
     have c37b0 : (a0 == 46) = true := beq_iff_eq.mpr c37
     have c37b1 : (a0 != 46) = false := bne_eq_false_iff_eq.mpr c37
     clear c37
     obtain rfl := Option.some.inj H
     go_enter Tryz.func41, Tryz.ntmps41
     go_wp2
     go_ret
     exact ⟨by first | rfl | (simp; done) | (simp [*]; done), by repeat (first | exact Drawn0.refl _ | apply Drawn0.step)⟩
    ·
     rw [if_neg c37] at H
     have c37b0 : (a0 == 46) = false := beq_eq_false_iff_ne.mpr c37
     have c37b1 : (a0 != 46) = true := bne_iff_ne.mpr c37
     by_cases c38 : a0 = 95
     ·
      rw [if_pos c38] at H
      have c38b0 : (a0 == 95) = true := beq_iff_eq.mpr c38
      have c38b1 : (a0 != 95) = false := bne_eq_false_iff_eq.mpr c38
      clear c38
      obtain rfl := Option.some.inj H
      go_enter Tryz.func41, Tryz.ntmps41
      go_wp2
      go_ret
      exact ⟨by first | rfl | (simp; done) | (simp [*]; done), by repeat (first | exact Drawn0.refl _ | apply Drawn0.step)⟩
     ·
      rw [if_neg c38] at H
      have c38b0 : (a0 == 95) = false := beq_eq_false_iff_ne.mpr c38
      have c38b1 : (a0 != 95) = true := bne_iff_ne.mpr c38
      by_cases c39 : a0 = 45
      ·
       rw [if_pos c39] at H
       have c39b0 : (a0 == 45) = true := beq_iff_eq.mpr c39
       have c39b1 : (a0 != 45) = false := bne_eq_false_iff_eq.mpr c39
       clear c39
       obtain rfl := Option.some.inj H
       go_enter Tryz.func41, Tryz.ntmps41
       go_wp2
       go_ret
       exact ⟨by first | rfl | (simp; done) | (simp [*]; done), by repeat (first | exact Drawn0.refl _ | apply Drawn0.step)⟩
      ·
       rw [if_neg c39] at H
       have c39b0 : (a0 == 45) = false := beq_eq_false_iff_ne.mpr c39
       have c39b1 : (a0 != 45) = true := bne_iff_ne.mpr c39
       obtain rfl := Option.some.inj H
       go_enter Tryz.func41, Tryz.ntmps41
       go_wp2
       go_ret
       exact ⟨by first | rfl | (simp; done) | (simp [*]; done), by repeat (first | exact Drawn0.refl _ | apply Drawn0.step)⟩
def paymasterref07_MayId.l0 : Nat → ByteArray → Int → Int → Option (Bool)
 | 0, _, _, _ => none
 | k + 1, x0, x3, x4 => if x4 < (x0.size : Int) then ((paymasterref07_Rune.f k x0 x4).bind fun bt109 => (if bt109.2 = 0 then (some false) else ((paymasterref07_within.f bt109.1).bind fun t111 => (if t111 = true then (paymasterref07_MayId.l0 k x0 (wrap64 (x3 + 1)) (wrap64 (x4 + bt109.2))) else (some false))))) else (if x3 ≥ 1 then (some (decide (x3 ≤ 24))) else (some false))
def paymasterref07_MayId.f (k : Nat) (a0 : ByteArray) : Option (Bool) := paymasterref07_MayId.l0 k a0 0 0
set_option maxHeartbeats 8000000 in
set_option maxRecDepth 100000 in
theorem paymasterref07_MayId.calls (k : Nat) (a0 : ByteArray) (r : Bool) (w : World) (h : paymasterref07_MayId.f k a0 = some r) :
  Calls Tryz.prog 28 #[.string a0] w fun e w' => e = .returned (.bool r) ∧ Drawn0 w w' := by
 have H : (paymasterref07_MayId.l0 k a0 0 0) = some r := h
 clear h
 have H' := aM' H
 clear H
 go_enter Tryz.func28, Tryz.ntmps28
 go_wp2
 go_loopg [3, 4] k (fun kq v3 v4 w' => ∃ (x3_1 : Int) (x4_1 : Int), v3 = .int .i64 x3_1 ∧ v4 = .int .i64 x4_1 ∧ Aside0 (paymasterref07_MayId.l0 kq a0 x3_1 x4_1 = some r) ∧ Aside0 (kq ≤ k) ∧ Drawn0 w w')
 case atStart => exact ⟨(0), (0), (by first | rfl | (simp; done) | (simp [*]; done)), (by first | rfl | (simp; done) | (simp [*]; done)), H', ⟨Nat.le_refl _⟩, by repeat (first | exact Drawn0.refl _ | apply Drawn0.step)⟩
 case round =>
  clear H'
  obtain ⟨x3_1, x4_1, rfl, rfl, HA, HK1, ⟨m1, rfl⟩⟩ := hrel
  cases gk with
  | zero => exact absurd HA.out (by simp [paymasterref07_MayId.l0])
  | succ k1 =>
   have H := HA.out
   clear HA
   simp only [paymasterref07_MayId.l0] at H
   by_cases c2 : x4_1 < (a0.size : Int)
   ·
    rw [if_pos c2] at H
    have c2b0 : decide (x4_1 < (a0.size : Int)) = true := decide_eq_true c2
    clear c2
    replace H := Option.bind_eq_some_iff.mp H
    obtain ⟨⟨t109, t110⟩, A30, H⟩ := H
    replace H : (if t110 = 0 then (some false) else ((paymasterref07_within.f t109).bind fun t111 => (if t111 = true then (paymasterref07_MayId.l0 k1 a0 (wrap64 (x3_1 + 1)) (wrap64 (x4_1 + t110))) else (some false)))) = some r := H
    have A3 := aM' A30
    clear A30
    by_cases c4 : t110 = 0
    ·
     rw [if_pos c4] at H
     have c4b0 : (t110 == 0) = true := beq_iff_eq.mpr c4
     have c4b1 : (t110 != 0) = false := bne_eq_false_iff_eq.mpr c4
     clear c4
     obtain rfl := Option.some.inj H
     go_wp2_with (first | ((with_reducible refine gate_callee (f := 40) rfl ?_); refine goesL_ (some 14) rfl rfl Tryz.func40 (by kernel_rfl) rfl #[.string a0, .int .i64 x4_1] rfl (by (try simp only [List.map_toArray, List.map_cons, List.map_nil]); first | done | rfl | (simp only [List.length_drop, List.length_take]; rfl)) ?_; (with_reducible refine (paymasterref07_Rune.calls k1 a0 x4_1 t109 t110 _ A3.out).mono ?_); rintro e w' ⟨rfl, ⟨nd, rfl⟩⟩; refine ⟨_, rfl, ?_⟩))
     go_ret
     exact ⟨by first | rfl | (simp; done) | (simp [*]; done), by repeat (first | exact Drawn0.refl _ | apply Drawn0.step)⟩
    ·
     rw [if_neg c4] at H
     have c4b0 : (t110 == 0) = false := beq_eq_false_iff_ne.mpr c4
     have c4b1 : (t110 != 0) = true := bne_iff_ne.mpr c4
     replace H := Option.bind_eq_some_iff.mp H
     obtain ⟨t111, A50, H⟩ := H
     replace H : (if t111 = true then (paymasterref07_MayId.l0 k1 a0 (wrap64 (x3_1 + 1)) (wrap64 (x4_1 + t110))) else (some false)) = some r := H
     have A5 := aM' A50
     clear A50
     by_cases c6 : t111 = true
     ·
      subst c6
      have H1 : (paymasterref07_MayId.l0 k1 a0 (wrap64 (x3_1 + 1)) (wrap64 (x4_1 + t110))) = some r := by rw [if_pos rfl] at H; exact H
      clear H
      have H := H1
      clear H1
      have H' := aM' H
      clear H
      go_wp2_with (first | ((with_reducible refine gate_callee (f := 40) rfl ?_); refine goesL_ (some 14) rfl rfl Tryz.func40 (by kernel_rfl) rfl #[.string a0, .int .i64 x4_1] rfl (by (try simp only [List.map_toArray, List.map_cons, List.map_nil]); first | done | rfl | (simp only [List.length_drop, List.length_take]; rfl)) ?_; (with_reducible refine (paymasterref07_Rune.calls k1 a0 x4_1 t109 t110 _ A3.out).mono ?_); rintro e w' ⟨rfl, ⟨nd, rfl⟩⟩; refine ⟨_, rfl, ?_⟩) | (go_at_call 41; (with_reducible refine (paymasterref07_within.calls t109 true _ A5.out).mono ?_); rintro e w' ⟨rfl, ⟨nd, rfl⟩⟩))
      go_roundg k1
      case measure => have := HK1.out; omega
      case rel => exact ⟨(wrap64 (x3_1 + 1)), (wrap64 (x4_1 + t110)), (by first | rfl | (simp; done) | (simp [*]; done)), (by first | rfl | (simp; done) | (simp [*]; done)), H', ⟨by have := HK1.out; omega⟩, by repeat (first | exact Drawn0.refl _ | apply Drawn0.step)⟩
     ·
      replace c6 := Bool.eq_false_iff.mpr c6
      subst c6
      have H1 : (some false) = some r := by rw [if_neg (show ¬ (false = true) by decide)] at H; exact H
      clear H
      have H := H1
      clear H1
      obtain rfl := Option.some.inj H
      go_wp2_with (first | ((with_reducible refine gate_callee (f := 40) rfl ?_); refine goesL_ (some 14) rfl rfl Tryz.func40 (by kernel_rfl) rfl #[.string a0, .int .i64 x4_1] rfl (by (try simp only [List.map_toArray, List.map_cons, List.map_nil]); first | done | rfl | (simp only [List.length_drop, List.length_take]; rfl)) ?_; (with_reducible refine (paymasterref07_Rune.calls k1 a0 x4_1 t109 t110 _ A3.out).mono ?_); rintro e w' ⟨rfl, ⟨nd, rfl⟩⟩; refine ⟨_, rfl, ?_⟩) | (go_at_call 41; (with_reducible refine (paymasterref07_within.calls t109 false _ A5.out).mono ?_); rintro e w' ⟨rfl, ⟨nd, rfl⟩⟩))
      go_ret
      exact ⟨by first | rfl | (simp; done) | (simp [*]; done), by repeat (first | exact Drawn0.refl _ | apply Drawn0.step)⟩
   ·
    rw [if_neg c2] at H
    have c2b0 : decide (x4_1 < (a0.size : Int)) = false := decide_eq_false c2
    clear c2
    by_cases c7 : x3_1 ≥ 1
    ·
     rw [if_pos c7] at H
     have c7b0 : decide (1 ≤ x3_1) = true := decide_eq_true c7
     clear c7
     obtain rfl := Option.some.inj H
     go_wp2
     go_ret
     exact ⟨by first | rfl | (simp; done) | (simp [*]; done), by repeat (first | exact Drawn0.refl _ | apply Drawn0.step)⟩
    ·
     rw [if_neg c7] at H
     have c7b0 : decide (1 ≤ x3_1) = false := decide_eq_false c7
     clear c7
     obtain rfl := Option.some.inj H
     go_wp2
     go_ret
     exact ⟨by first | rfl | (simp; done) | (simp [*]; done), by repeat (first | exact Drawn0.refl _ | apply Drawn0.step)⟩
end Go.Proofs.YtlmmpncdemblbaaGreatDoor.P
namespace Go.Proofs.YtlmmpncdemblbaaGreatDoor.P
open Go.RowKit Go.Proofs.YtlmmpncdemblbaaGreatDoorW.PrintWords Go.Proofs.YtlmmpncdemblbaaGreatDoorW.PrintLast Go.Proofs.YtlmmpncdemblbaaGreatDoorW.PrintMore
attribute [local go_sem] max2_int min2_int max_two min_two max_three min_three max_four min_four-- for this text's walks alone
set_option linter.unusedVariables false
set_option linter.unusedSimpArgs false
attribute [local go_sem high] eqAU128
def paymasterlaw16_LongEntry.f (k : Nat) (a0_0 : Bool) (a0_1 : ByteArray) (a0_2 : ByteArray) (a0_3 : Int) (a0_4 : Int) (a0_5 : Int) (l0_6 : List (SNode)) : Option (Bool) := if (l0_6.length : Int) > 100 then (some true) else ((paymasterlaw14_Great.f k l0_6).bind fun t104 => (if t104 = true then (some true) else ((paymasterlaw15_Great.f k (([(⟨a0_0, a0_1, a0_2, (⟨a0_3, a0_4⟩ : SU128)⟩ : SLeaf)] : List (SLeaf)))).bind fun t108 => (some t108))))
set_option maxHeartbeats 8000000 in
set_option maxRecDepth 100000 in
theorem paymasterlaw16_LongEntry.calls (k : Nat) (a0_0 : Bool) (a0_1 : ByteArray) (a0_2 : ByteArray) (a0_3 : Int) (a0_4 : Int) (a0_5 : Int) (A0_6 : Option Addr) (c0_6 : Nat) (l0_6 : List (SNode)) (r : Bool) (w : World) (hr0_6 : Kd.C kNode w A0_6 l0_6.length l0_6) (hc0_6 : l0_6.length ≤ c0_6) (h : paymasterlaw16_LongEntry.f k a0_0 a0_1 a0_2 a0_3 a0_4 a0_5 l0_6 = some r) :
  Calls Tryz.prog 15 #[.agg #[.bool a0_0, .string a0_1, .string a0_2, .int .u64 a0_3, .int .u64 a0_4, .int .u64 a0_5, .slice A0_6 l0_6.length c0_6]] w fun e w' => e = .returned (.bool r) ∧ Below w.heap.size w w' := by
 have hu39 := Tryz.underlying39
 have hu34 := Tryz.underlying34
 have HR0_6 := aM' hr0_6
 have HC0_6 := aM' hc0_6
 clear hr0_6 hc0_6
 have HB := aM' (Below.refl w.heap.size w)
 have H : (if (l0_6.length : Int) > 100 then (some true) else ((paymasterlaw14_Great.f k l0_6).bind fun t104 => (if t104 = true then (some true) else ((paymasterlaw15_Great.f k (([(⟨a0_0, a0_1, a0_2, (⟨a0_3, a0_4⟩ : SU128)⟩ : SLeaf)] : List (SLeaf)))).bind fun t108 => (some t108))))) = some r := h
 clear h
 by_cases c2 : (l0_6.length : Int) > 100
 ·
  rw [if_pos c2] at H
  have c2b0 : decide (100 < (l0_6.length : Int)) = true := decide_eq_true c2
  have c2b1 : decide (100 < l0_6.length) = true := decide_eq_true (by omega)
  clear c2
  obtain rfl := Option.some.inj H
  go_enter Tryz.func15, Tryz.ntmps15
  go_wp2_with (first | ((with_reducible refine gate_dst (N := 1) rfl ?_); (try (refine gate_guard (by rfl) ?_; dsimp only)); refine box_event ?hg (N := 1) ?hd (cs := #[.bool a0_0, .string a0_1, .string a0_2, .int .u64 a0_3, .int .u64 a0_4, .int .u64 a0_5, .slice A0_6 l0_6.length c0_6]) (t := 39) ?hr ?_; (case hd => rfl); (case hg => rfl); (case hr => first | (go_simp; done) | (go_simp; rfl)); intro gb103 hg w3 hbox hb; have n0_ := aM' (below_step (by repeat (first | (with_reducible first | exact HB.out | apply below_alloc | apply pw_below_drewN | apply below_drew1) | exact HB.out)) hb); have n1_ := aM' (hbox); have n2_ := aM' ((by rw [hg]; exact (below_size (by repeat (first | (with_reducible first | exact HB.out | apply below_alloc | apply pw_below_drewN | apply below_drew1) | exact HB.out))) : w.heap.size ≤ gb103)); have n3_ := aM' ((by rw [hg]; exact (below_size (by repeat (first | (with_reducible first | exact HB.out | apply below_alloc | apply pw_below_drewN | apply below_drew1) | exact HB.out))) : w.heap.size ≤ gb103)); clear HB; have HB := n0_; have BK103 := n1_; have GW103 := n2_; have GE103 := n3_; clear n0_ n1_ n2_ n3_; clear hb hbox hg; have hcz4_0 : w3.cell? ⟨gb103, 0, none⟩ = some (.bool a0_0) := (blk_cell BK103.out 0).trans rfl; have hcz4_1 : w3.cell? ⟨gb103, 1, none⟩ = some (.string a0_1) := (blk_cell BK103.out 1).trans rfl; have hcz4_2 : w3.cell? ⟨gb103, 2, none⟩ = some (.string a0_2) := (blk_cell BK103.out 2).trans rfl; have hcz4_3 : w3.cell? ⟨gb103, 3, none⟩ = some (.int .u64 a0_3) := (blk_cell BK103.out 3).trans rfl; have hcz4_4 : w3.cell? ⟨gb103, 4, none⟩ = some (.int .u64 a0_4) := (blk_cell BK103.out 4).trans rfl; have hcz4_5 : w3.cell? ⟨gb103, 5, none⟩ = some (.int .u64 a0_5) := (blk_cell BK103.out 5).trans rfl; have hcz4_6 : w3.cell? ⟨gb103, 6, none⟩ = some (.slice A0_6 l0_6.length c0_6) := (blk_cell BK103.out 6).trans rfl; have hfz4_0 := blk_frozen BK103.out 0; have hfz4_1 := blk_frozen BK103.out 1; have hfz4_2 := blk_frozen BK103.out 2; have hfz4_3 := blk_frozen BK103.out 3; have hfz4_4 := blk_frozen BK103.out 4; have hfz4_5 := blk_frozen BK103.out 5; have hfz4_6 := blk_frozen BK103.out 6))
  go_ret
  exact ⟨by first | rfl | (simp [errW_none, errW_some] <;> rfl) | (simp [*, errW_none, errW_some] <;> rfl), by repeat (first | (with_reducible first | exact HB.out | apply below_alloc | apply pw_below_drewN | apply below_drew1 | refine below_set ?_ GE103.out) | exact HB.out)⟩
 ·
  rw [if_neg c2] at H
  have c2b0 : decide (100 < (l0_6.length : Int)) = false := decide_eq_false c2
  have c2b1 : decide (100 < l0_6.length) = false := decide_eq_false (by omega)
  clear c2
  replace H := Option.bind_eq_some_iff.mp H
  obtain ⟨t104, A50, H⟩ := H
  replace H : (if t104 = true then (some true) else ((paymasterlaw15_Great.f k (([(⟨a0_0, a0_1, a0_2, (⟨a0_3, a0_4⟩ : SU128)⟩ : SLeaf)] : List (SLeaf)))).bind fun t108 => (some t108))) = some r := H
  have A5 := aM' A50
  clear A50
  by_cases c6 : t104 = true
  ·
   subst c6
   have H1 : (some true) = some r := by rw [if_pos rfl] at H; exact H
   clear H
   have H := H1
   clear H1
   obtain rfl := Option.some.inj H
   go_enter Tryz.func15, Tryz.ntmps15
   go_wp2_with (first | ((with_reducible refine gate_dst (N := 1) rfl ?_); (try (refine gate_guard (by rfl) ?_; dsimp only)); refine box_event ?hg (N := 1) ?hd (cs := #[.bool a0_0, .string a0_1, .string a0_2, .int .u64 a0_3, .int .u64 a0_4, .int .u64 a0_5, .slice A0_6 l0_6.length c0_6]) (t := 39) ?hr ?_; (case hd => rfl); (case hg => rfl); (case hr => first | (go_simp; done) | (go_simp; rfl)); intro gb103 hg w7 hbox hb; have n0_ := aM' (below_step (by repeat (first | (with_reducible first | exact HB.out | apply below_alloc | apply pw_below_drewN | apply below_drew1) | exact HB.out)) hb); have n1_ := aM' (hbox); have n2_ := aM' ((by rw [hg]; exact (below_size (by repeat (first | (with_reducible first | exact HB.out | apply below_alloc | apply pw_below_drewN | apply below_drew1) | exact HB.out))) : w.heap.size ≤ gb103)); have n3_ := aM' ((by rw [hg]; exact (below_size (by repeat (first | (with_reducible first | exact HB.out | apply below_alloc | apply pw_below_drewN | apply below_drew1) | exact HB.out))) : w.heap.size ≤ gb103)); clear HB; have HB := n0_; have BK103 := n1_; have GW103 := n2_; have GE103 := n3_; clear n0_ n1_ n2_ n3_; clear hb hbox hg; have hcz8_0 : w7.cell? ⟨gb103, 0, none⟩ = some (.bool a0_0) := (blk_cell BK103.out 0).trans rfl; have hcz8_1 : w7.cell? ⟨gb103, 1, none⟩ = some (.string a0_1) := (blk_cell BK103.out 1).trans rfl; have hcz8_2 : w7.cell? ⟨gb103, 2, none⟩ = some (.string a0_2) := (blk_cell BK103.out 2).trans rfl; have hcz8_3 : w7.cell? ⟨gb103, 3, none⟩ = some (.int .u64 a0_3) := (blk_cell BK103.out 3).trans rfl; have hcz8_4 : w7.cell? ⟨gb103, 4, none⟩ = some (.int .u64 a0_4) := (blk_cell BK103.out 4).trans rfl; have hcz8_5 : w7.cell? ⟨gb103, 5, none⟩ = some (.int .u64 a0_5) := (blk_cell BK103.out 5).trans rfl; have hcz8_6 : w7.cell? ⟨gb103, 6, none⟩ = some (.slice A0_6 l0_6.length c0_6) := (blk_cell BK103.out 6).trans rfl; have hfz8_0 := blk_frozen BK103.out 0; have hfz8_1 := blk_frozen BK103.out 1; have hfz8_2 := blk_frozen BK103.out 2; have hfz8_3 := blk_frozen BK103.out 3; have hfz8_4 := blk_frozen BK103.out 4; have hfz8_5 := blk_frozen BK103.out 5; have hfz8_6 := blk_frozen BK103.out 6) | (go_at_call 26; (with_reducible refine (paymasterlaw14_Great.calls k _ _ l0_6 true _ ?side1 ?side2 A5.out).mono ?_); (case side1 => repeat (first | exact (Kd.C_below HR0_6.out HB.out) | (with_reducible refine Kd.C_alloc ?_ _) | (with_reducible refine Kd.C_drewN ?_ _) | (with_reducible refine Kd.C_drew ?_))); (case side2 => exact HC0_6.out); rintro e w' ⟨rfl, ⟨nd, rfl⟩⟩))
   go_ret
   exact ⟨by first | rfl | (simp [errW_none, errW_some] <;> rfl) | (simp [*, errW_none, errW_some] <;> rfl), by repeat (first | (with_reducible first | exact HB.out | apply below_alloc | apply pw_below_drewN | apply below_drew1 | refine below_set ?_ GE103.out) | exact HB.out)⟩
  ·
   replace c6 := Bool.eq_false_iff.mpr c6
   subst c6
   have H1 : ((paymasterlaw15_Great.f k (([(⟨a0_0, a0_1, a0_2, (⟨a0_3, a0_4⟩ : SU128)⟩ : SLeaf)] : List (SLeaf)))).bind fun t108 => (some t108)) = some r := by rw [if_neg (show ¬ (false = true) by decide)] at H; exact H
   clear H
   have H := H1
   clear H1
   obtain ⟨y105, hy105⟩ : ∃ y_ : List (SLeaf), y_ = (([(⟨a0_0, a0_1, a0_2, (⟨a0_3, a0_4⟩ : SU128)⟩ : SLeaf)] : List (SLeaf))) := ⟨_, rfl⟩
   replace H : ((paymasterlaw15_Great.f k y105).bind fun t108 => (some t108)) = some r := by first | (rw [hy105]; with_reducible exact H) | (have H2_ := (Option.bind_some _ _).symm.trans H; rw [hy105]; with_reducible exact H2_) | (have H2_ := (Option.bind_some _ _).symm.trans H; with_reducible exact H2_) | with_reducible exact H | (rw [hy105]; exact H) | exact H
   have Ny105 := aM' hy105
   clear hy105
   replace H := Option.bind_eq_some_iff.mp H
   obtain ⟨t108, A90, H⟩ := H
   replace H : (some t108) = some r := H
   have A9 := aM' A90
   clear A90
   obtain rfl := Option.some.inj H
   go_enter Tryz.func15, Tryz.ntmps15
   go_wp2_with (first | ((with_reducible refine gate_dst (N := 1) rfl ?_); (try (refine gate_guard (by rfl) ?_; dsimp only)); refine box_event ?hg (N := 1) ?hd (cs := #[.bool a0_0, .string a0_1, .string a0_2, .int .u64 a0_3, .int .u64 a0_4, .int .u64 a0_5, .slice A0_6 l0_6.length c0_6]) (t := 39) ?hr ?_; (case hd => rfl); (case hg => rfl); (case hr => first | (go_simp; done) | (go_simp; rfl)); intro gb103 hg w10 hbox hb; have n0_ := aM' (below_step (by repeat (first | (with_reducible first | exact HB.out | apply below_alloc | apply pw_below_drewN | apply below_drew1) | exact HB.out)) hb); have n1_ := aM' (hbox); have n2_ := aM' ((by rw [hg]; exact (below_size (by repeat (first | (with_reducible first | exact HB.out | apply below_alloc | apply pw_below_drewN | apply below_drew1) | exact HB.out))) : w.heap.size ≤ gb103)); have n3_ := aM' ((by rw [hg]; exact (below_size (by repeat (first | (with_reducible first | exact HB.out | apply below_alloc | apply pw_below_drewN | apply below_drew1) | exact HB.out))) : w.heap.size ≤ gb103)); clear HB; have HB := n0_; have BK103 := n1_; have GW103 := n2_; have GE103 := n3_; clear n0_ n1_ n2_ n3_; clear hb hbox hg; have hcz11_0 : w10.cell? ⟨gb103, 0, none⟩ = some (.bool a0_0) := (blk_cell BK103.out 0).trans rfl; have hcz11_1 : w10.cell? ⟨gb103, 1, none⟩ = some (.string a0_1) := (blk_cell BK103.out 1).trans rfl; have hcz11_2 : w10.cell? ⟨gb103, 2, none⟩ = some (.string a0_2) := (blk_cell BK103.out 2).trans rfl; have hcz11_3 : w10.cell? ⟨gb103, 3, none⟩ = some (.int .u64 a0_3) := (blk_cell BK103.out 3).trans rfl; have hcz11_4 : w10.cell? ⟨gb103, 4, none⟩ = some (.int .u64 a0_4) := (blk_cell BK103.out 4).trans rfl; have hcz11_5 : w10.cell? ⟨gb103, 5, none⟩ = some (.int .u64 a0_5) := (blk_cell BK103.out 5).trans rfl; have hcz11_6 : w10.cell? ⟨gb103, 6, none⟩ = some (.slice A0_6 l0_6.length c0_6) := (blk_cell BK103.out 6).trans rfl; have hfz11_0 := blk_frozen BK103.out 0; have hfz11_1 := blk_frozen BK103.out 1; have hfz11_2 := blk_frozen BK103.out 2; have hfz11_3 := blk_frozen BK103.out 3; have hfz11_4 := blk_frozen BK103.out 4; have hfz11_5 := blk_frozen BK103.out 5; have hfz11_6 := blk_frozen BK103.out 6) | (go_at_call 26; (with_reducible refine (paymasterlaw14_Great.calls k _ _ l0_6 false _ ?side1 ?side2 A5.out).mono ?_); (case side1 => repeat (first | exact (Kd.C_below HR0_6.out HB.out) | (with_reducible refine Kd.C_alloc ?_ _) | (with_reducible refine Kd.C_drewN ?_ _) | (with_reducible refine Kd.C_drew ?_))); (case side2 => exact HC0_6.out); rintro e w' ⟨rfl, ⟨nd, rfl⟩⟩) | ((with_reducible refine gate_dst (N := 17) rfl ?_); (try (refine gate_guard (by rfl) ?_; dsimp only)); refine Kd.R_lit kLeaf _ 34 ?hg (N := 17) ?hd (xs := ([(⟨a0_0, a0_1, a0_2, (⟨a0_3, a0_4⟩ : SU128)⟩ : SLeaf)] : List (SLeaf))) (inner := [.bool a0_0, .string a0_1, .string a0_2, .int .u64 a0_3, .int .u64 a0_4]) (ok := fun _ => True) (okp := fun _ => True) ?hr ?hp (fun _ hk => hk) trivial (Below.refl _ _) (Nat.le_refl _) (by simp) ?_; (case hd => rfl); (case hg => rfl); (case hr => first | (go_simp; done) | (go_simp; rfl)); (case hp => exact (Reps.c5 (show Kd.M kLeaf _ _ _ (⟨a0_0, a0_1, a0_2, (⟨a0_3, a0_4⟩ : SU128)⟩ : SLeaf) [.bool a0_0, .string a0_1, .string a0_2, .int .u64 a0_3, .int .u64 a0_4] from (kLeaf_mkM _ _ _ (⟨a0_0, a0_1, a0_2, (⟨a0_3, a0_4⟩ : SU128)⟩ : SLeaf) )) (Reps.none _ _))); intro v106 w12 ho13 hb hg_ hnew_; clear hg_ hnew_; (first | rw [← Ny105.out] at ho13 | (simp only [Int.reduceToNat] at ho13; rw [← Ny105.out] at ho13)); have n0_ := aM' (Kd.R_lower ho13 (below_size (by repeat (first | (with_reducible first | exact HB.out | apply below_alloc | apply pw_below_drewN | apply below_drew1 | refine below_set ?_ GE103.out) | exact HB.out)))); have n1_ := aM' (blk_below (g := gb103) (o := .cells #[.bool a0_0, .string a0_1, .string a0_2, .int .u64 a0_3, .int .u64 a0_4, .int .u64 a0_5, .slice A0_6 l0_6.length c0_6] 39 (0, 0)) (by (with_reducible repeat (first | refine blk_drewN ?_ _ | refine blk_drew ?_ | refine blk_alloc ?_ _)); exact BK103.out) hb); have n2_ := aM' (below_step (by repeat (first | (with_reducible first | exact HB.out | apply below_alloc | apply pw_below_drewN | apply below_drew1 | refine below_set ?_ GE103.out) | exact HB.out)) hb); clear BK103; clear HB; have HO107 := n0_; have BK103 := n1_; have HB := n2_; clear n0_ n1_ n2_; clear hb ho13; obtain ⟨Ao14, co14, eo14⟩ := Kd.R_slice HO107.out; subst eo14) | (go_at_call 27; (with_reducible refine (paymasterlaw15_Great.calls k _ _ y105 t108 _ ?side1 ?side2 A9.out).mono ?_); (case side1 => repeat (first | exact (Kd.R_reads' HO107.out).2.2 | (with_reducible refine Kd.C_alloc ?_ _) | (with_reducible refine Kd.C_drewN ?_ _) | (with_reducible refine Kd.C_drew ?_))); (case side2 => exact (Kd.R_reads' HO107.out).2.1); rintro e w' ⟨rfl, ⟨nd, rfl⟩⟩))
   go_ret
   exact ⟨by first | rfl | (simp [errW_none, errW_some] <;> rfl) | (simp [*, errW_none, errW_some] <;> rfl), by repeat (first | (with_reducible first | exact HB.out | apply below_alloc | apply pw_below_drewN | apply below_drew1 | refine below_set ?_ GE103.out) | exact HB.out)⟩
mutual
def paymasterlaw17_Long.j0 : Nat → List (SEntry) → Bool → Option (Bool)
 | 0, _, _ => none
 | k + 1, x1, x14 => if x14 = true then (some true) else (paymasterlaw17_Long.l0 k x1 0)
def paymasterlaw17_Long.l0 : Nat → List (SEntry) → Int → Option (Bool)
 | 0, _, _ => none
 | k + 1, x1, x5 => if x5 < (x1.length : Int) then (if 0 ≤ x5 then ((paymasterlaw16_LongEntry.f k ((rd_TEntry x1 x5).f0.f0) ((rd_TEntry x1 x5).f0.f1) ((rd_TEntry x1 x5).f0.f2) ((rd_TEntry x1 x5).f0.f3.f0) ((rd_TEntry x1 x5).f0.f3.f1) ((rd_TEntry x1 x5).f1.f0) ((rd_TEntry x1 x5).f1.f1)).bind fun t111 => (if t111 = true then (some true) else (paymasterlaw17_Long.l0 k x1 (wrap64 (x5 + 1))))) else (none)) else (some false)
end
def paymasterlaw17_Long.f (k : Nat) (a0_0 : ByteArray) (a0_1 : Int) (a0_2 : Int) (a0_3 : Int) (l1 : List (SEntry)) : Option (Bool) := if (l1.length : Int) > 40 then (paymasterlaw17_Long.j0 k l1 true) else (paymasterlaw17_Long.j0 k l1 (decide ((a0_0.size : Int) > 60)))
set_option maxHeartbeats 8000000 in
set_option maxRecDepth 100000 in
theorem paymasterlaw17_Long.calls (k : Nat) (a0_0 : ByteArray) (a0_1 : Int) (a0_2 : Int) (a0_3 : Int) (A1 : Option Addr) (c1 : Nat) (l1 : List (SEntry)) (r : Bool) (w : World) (hr1 : Kd.C kEntry w A1 l1.length l1) (hc1 : l1.length ≤ c1) (h : paymasterlaw17_Long.f k a0_0 a0_1 a0_2 a0_3 l1 = some r) :
  Calls Tryz.prog 5 #[.agg #[.string a0_0, .int .u64 a0_1, .int .u64 a0_2, .int .i64 a0_3], .slice A1 l1.length c1] w fun e w' => e = .returned (.bool r) ∧ Below w.heap.size w w' := by
 have hu26 := Tryz.underlying26
 have hu39 := Tryz.underlying39
 have HR1 := aM' hr1
 have HC1 := aM' hc1
 clear hr1 hc1
 have HB := aM' (Below.refl w.heap.size w)
 have H : (if (l1.length : Int) > 40 then (paymasterlaw17_Long.j0 k l1 true) else (paymasterlaw17_Long.j0 k l1 (decide ((a0_0.size : Int) > 60)))) = some r := h
 clear h
 have HC3 := aM' H
 clear H
 go_enter Tryz.func5, Tryz.ntmps5
 go_upto_region 1 with (first | ((with_reducible refine gate_dst (N := 2) rfl ?_); (try (refine gate_guard (by rfl) ?_; dsimp only)); refine box_event ?hg (N := 2) ?hd (cs := #[.string a0_0, .int .u64 a0_1, .int .u64 a0_2, .int .i64 a0_3]) (t := 26) ?hr ?_; (case hd => rfl); (case hg => rfl); (case hr => first | (go_simp; done) | (go_simp; rfl)); intro gb109 hg w4 hbox hb; have n0_ := aM' (below_step (by repeat (first | (with_reducible first | exact HB.out | apply below_alloc | apply pw_below_drewN | apply below_drew1) | exact HB.out)) hb); have n1_ := aM' (hbox); have n2_ := aM' ((by rw [hg]; exact (below_size (by repeat (first | (with_reducible first | exact HB.out | apply below_alloc | apply pw_below_drewN | apply below_drew1) | exact HB.out))) : w.heap.size ≤ gb109)); have n3_ := aM' ((by rw [hg]; exact (below_size (by repeat (first | (with_reducible first | exact HB.out | apply below_alloc | apply pw_below_drewN | apply below_drew1) | exact HB.out))) : w.heap.size ≤ gb109)); clear HB; have HB := n0_; have BK109 := n1_; have GW109 := n2_; have GE109 := n3_; clear n0_ n1_ n2_ n3_; clear hb hbox hg))
 (try simp only [Act.put, List.setIfInBounds_toArray, List.set_cons_zero, List.set_cons_succ])
 go_cut [14] (fun v14 wc => ∃ (kq : Nat) (x14_2 : Bool), v14 = .bool x14_2 ∧ Aside0 (paymasterlaw17_Long.j0 kq l1 x14_2 = some r) ∧ Aside0 (kq ≤ k) ∧ Aside0 (wc.heap[gb109]? = some (.cells #[.string a0_0, .int .u64 a0_1, .int .u64 a0_2, .int .i64 a0_3] 26 (0, 0))) ∧ Aside0 (Below w.heap.size w wc))
 case first =>
  have H := HC3.out
  clear HC3
  by_cases c5 : (l1.length : Int) > 40
  ·
   rw [if_pos c5] at H
   have c5b0 : decide (40 < (l1.length : Int)) = true := decide_eq_true c5
   have c5b1 : decide (40 < l1.length) = true := decide_eq_true (by omega)
   clear c5
   (first | rw [c5b0] | (simp only [i64_w, i32_w]; rw [c5b0]) | skip)
   have H' := aM' H
   clear H
   go_wp2
   go_meet
   case rel => exact ⟨_, (true), (by first | rfl | (simp; done) | (simp [*]; done)), H', ⟨by first | omega | exact Nat.le_refl _⟩, ⟨by (with_reducible repeat (first | refine blk_drewN ?_ _ | refine blk_drew ?_ | refine blk_alloc ?_ _)); exact BK109.out⟩, ⟨by repeat (first | (with_reducible first | exact HB.out | apply below_alloc | apply pw_below_drewN | apply below_drew1 | refine below_set ?_ GE109.out) | exact HB.out)⟩⟩
  ·
   rw [if_neg c5] at H
   have c5b0 : decide (40 < (l1.length : Int)) = false := decide_eq_false c5
   have c5b1 : decide (40 < l1.length) = false := decide_eq_false (by omega)
   clear c5
   (first | rw [c5b0] | (simp only [i64_w, i32_w]; rw [c5b0]) | skip)
   have H' := aM' H
   clear H
   have hcz6_0 : w4.cell? ⟨gb109, 0, none⟩ = some (.string a0_0) := (blk_cell BK109.out 0).trans rfl
   have hcz6_1 : w4.cell? ⟨gb109, 1, none⟩ = some (.int .u64 a0_1) := (blk_cell BK109.out 1).trans rfl
   have hcz6_2 : w4.cell? ⟨gb109, 2, none⟩ = some (.int .u64 a0_2) := (blk_cell BK109.out 2).trans rfl
   have hcz6_3 : w4.cell? ⟨gb109, 3, none⟩ = some (.int .i64 a0_3) := (blk_cell BK109.out 3).trans rfl
   have hfz6_0 := blk_frozen BK109.out 0
   have hfz6_1 := blk_frozen BK109.out 1
   have hfz6_2 := blk_frozen BK109.out 2
   have hfz6_3 := blk_frozen BK109.out 3
   go_wp2
   go_meet
   case rel => exact ⟨_, (decide ((a0_0.size : Int) > 60)), (by first | rfl | (simp; done) | (simp [*]; done)), H', ⟨by first | omega | exact Nat.le_refl _⟩, ⟨by (with_reducible repeat (first | refine blk_drewN ?_ _ | refine blk_drew ?_ | refine blk_alloc ?_ _)); exact BK109.out⟩, ⟨by repeat (first | (with_reducible first | exact HB.out | apply below_alloc | apply pw_below_drewN | apply below_drew1 | refine below_set ?_ GE109.out) | exact HB.out)⟩⟩
 case rest =>
  clear HC3
  try clear c1
  try clear p2
  try clear c5
  try clear c5b0
  try clear c5b1
  try clear hcz6_0
  try clear hcz6_1
  try clear hcz6_2
  try clear hcz6_3
  try clear hfz6_0
  try clear hfz6_1
  try clear hfz6_2
  try clear hfz6_3
  obtain ⟨kq, x14_2, rfl, HA, HJ2, BK109, HB⟩ := hcut
  cases kq with
  | zero => exact absurd HA.out (by simp [paymasterlaw17_Long.j0])
  | succ kj2 =>
   have H := HA.out
   clear HA
   simp only [paymasterlaw17_Long.j0] at H
   by_cases c7 : x14_2 = true
   ·
    subst c7
    have H1 : (some true) = some r := by rw [if_pos rfl] at H; exact H
    clear H
    have H := H1
    clear H1
    obtain rfl := Option.some.inj H
    go_wp2
    go_ret
    exact ⟨by first | rfl | (simp [errW_none, errW_some] <;> rfl) | (simp [*, errW_none, errW_some] <;> rfl), by repeat (first | (with_reducible first | exact HB.out | apply below_alloc | apply pw_below_drewN | apply below_drew1 | refine below_set ?_ GE109.out) | exact HB.out)⟩
   ·
    replace c7 := Bool.eq_false_iff.mpr c7
    subst c7
    have H1 : (paymasterlaw17_Long.l0 kj2 l1 0) = some r := by rw [if_neg (show ¬ (false = true) by decide)] at H; exact H
    clear H
    have H := H1
    clear H1
    have H' := aM' H
    clear H
    go_wp2
    go_loopg [5] kj2 (fun kq v5 w' => ∃ (x5_2 : Int), v5 = .int .i64 x5_2 ∧ Aside0 (paymasterlaw17_Long.l0 kq l1 x5_2 = some r) ∧ Aside0 (kq ≤ kj2) ∧ Aside0 (w'.heap[gb109]? = some (.cells #[.string a0_0, .int .u64 a0_1, .int .u64 a0_2, .int .i64 a0_3] 26 (0, 0))) ∧ Aside0 (Below w.heap.size w w'))
    case atStart => exact ⟨(0), (by first | rfl | (simp; done) | (simp [*]; done)), H', ⟨Nat.le_refl _⟩, ⟨by (with_reducible repeat (first | refine blk_drewN ?_ _ | refine blk_drew ?_ | refine blk_alloc ?_ _)); exact BK109.out⟩, ⟨by repeat (first | (with_reducible first | exact HB.out | apply below_alloc | apply pw_below_drewN | apply below_drew1 | refine below_set ?_ GE109.out) | exact HB.out)⟩⟩
    case round =>
     clear H'
     try clear c1
     try clear p2
     try clear c5
     try clear c5b0
     try clear c5b1
     try clear c7
     try clear hcz6_0
     try clear hcz6_1
     try clear hcz6_2
     try clear hcz6_3
     try clear hfz6_0
     try clear hfz6_1
     try clear hfz6_2
     try clear hfz6_3
     try clear p2
     obtain ⟨x5_2, rfl, HA, HK2, BK109, HB⟩ := hrel
     cases gk with
     | zero => exact absurd HA.out (by simp [paymasterlaw17_Long.l0])
     | succ k2 =>
      have H := HA.out
      clear HA
      simp only [paymasterlaw17_Long.l0] at H
      by_cases c8 : x5_2 < (l1.length : Int)
      ·
       rw [if_pos c8] at H
       have c8b0 : decide (x5_2 < (l1.length : Int)) = true := decide_eq_true c8
       clear c8
       by_cases c9 : 0 ≤ x5_2
       ·
        rw [if_pos c9] at H
        have c9b0 : decide (0 ≤ x5_2) = true := decide_eq_true c9
        clear c9
        replace H := Option.bind_eq_some_iff.mp H
        obtain ⟨t111, A100, H⟩ := H
        replace H : (if t111 = true then (some true) else (paymasterlaw17_Long.l0 k2 l1 (wrap64 (x5_2 + 1)))) = some r := H
        have A10 := aM' A100
        clear A100
        by_cases c11 : t111 = true
        ·
         subst c11
         have H1 : (some true) = some r := by rw [if_pos rfl] at H; exact H
         clear H
         have H := H1
         clear H1
         obtain rfl := Option.some.inj H
         have p110 : 0 ≤ (x5_2 : Int) := of_decide_eq_true (by first | (with_reducible assumption) | assumption)
         have q110 : x5_2 < (l1.length : Int) := of_decide_eq_true (by first | (with_reducible assumption) | assumption)
         obtain ⟨ad110, A110_6, c110_6, e110, hx110_0, hx110_1, hx110_2, hx110_3, hx110_4, hx110_5, hx110_6, hl110_6, hi110_6⟩ := at_TEntry HR1.out x5_2 p110 q110
         cases e110
         replace hx110_0 := (HB.out.cell (bL' w _ hx110_0)).trans hx110_0
         replace hx110_1 := (HB.out.cell (bL' w _ hx110_1)).trans hx110_1
         replace hx110_2 := (HB.out.cell (bL' w _ hx110_2)).trans hx110_2
         replace hx110_3 := (HB.out.cell (bL' w _ hx110_3)).trans hx110_3
         replace hx110_4 := (HB.out.cell (bL' w _ hx110_4)).trans hx110_4
         replace hx110_5 := (HB.out.cell (bL' w _ hx110_5)).trans hx110_5
         replace hx110_6 := (HB.out.cell (bL' w _ hx110_6)).trans hx110_6
         have HR110_6 := aM' hi110_6
         have HC110_6 := aM' hl110_6
         clear hi110_6 hl110_6
         replace p110 := eq_true p110
         replace q110 := eq_true q110
         go_wp2_with (first | ((with_reducible refine gate_callee (f := 15) rfl ?_); refine goesL_ (some 25) rfl rfl Tryz.func15 (by kernel_rfl) rfl #[.agg #[.bool ((rd_TEntry l1 x5_2).f0.f0), .string ((rd_TEntry l1 x5_2).f0.f1), .string ((rd_TEntry l1 x5_2).f0.f2), .int .u64 ((rd_TEntry l1 x5_2).f0.f3.f0), .int .u64 ((rd_TEntry l1 x5_2).f0.f3.f1), .int .u64 ((rd_TEntry l1 x5_2).f1.f0), .slice A110_6 ((rd_TEntry l1 x5_2).f1.f1).length c110_6]] rfl (by (try simp only [List.map_toArray, List.map_cons, List.map_nil]); first | done | rfl | (simp only [List.length_drop, List.length_take]; rfl)) ?_; (with_reducible refine (paymasterlaw16_LongEntry.calls k2 ((rd_TEntry l1 x5_2).f0.f0) ((rd_TEntry l1 x5_2).f0.f1) ((rd_TEntry l1 x5_2).f0.f2) ((rd_TEntry l1 x5_2).f0.f3.f0) ((rd_TEntry l1 x5_2).f0.f3.f1) ((rd_TEntry l1 x5_2).f1.f0) _ _ ((rd_TEntry l1 x5_2).f1.f1) true _ ?side1 ?side2 A10.out).mono ?_); (case side1 => repeat (first | exact (Kd.C_below HR110_6.out HB.out) | (with_reducible refine Kd.C_alloc ?_ _) | (with_reducible refine Kd.C_drewN ?_ _) | (with_reducible refine Kd.C_drew ?_))); (case side2 => exact HC110_6.out); rintro e w12 ⟨rfl, hb⟩; refine ⟨_, rfl, ?_⟩; have n0_ := aM' (blk_below (g := gb109) (o := .cells #[.string a0_0, .int .u64 a0_1, .int .u64 a0_2, .int .i64 a0_3] 26 (0, 0)) (by (with_reducible repeat (first | refine blk_drewN ?_ _ | refine blk_drew ?_ | refine blk_alloc ?_ _)); exact BK109.out) hb); have n1_ := aM' (below_step (by repeat (first | (with_reducible first | exact HB.out | apply below_alloc | apply pw_below_drewN | apply below_drew1 | refine below_set ?_ GE109.out) | exact HB.out)) hb); clear BK109; clear HB; have BK109 := n0_; have HB := n1_; clear n0_ n1_; (try clear hb); (try clear hb2); (try clear hk); (try clear hi)))
         go_ret
         exact ⟨by first | rfl | (simp [errW_none, errW_some] <;> rfl) | (simp [*, errW_none, errW_some] <;> rfl), by repeat (first | (with_reducible first | exact HB.out | apply below_alloc | apply pw_below_drewN | apply below_drew1 | refine below_set ?_ GE109.out) | exact HB.out)⟩
        ·
         replace c11 := Bool.eq_false_iff.mpr c11
         subst c11
         have H1 : (paymasterlaw17_Long.l0 k2 l1 (wrap64 (x5_2 + 1))) = some r := by rw [if_neg (show ¬ (false = true) by decide)] at H; exact H
         clear H
         have H := H1
         clear H1
         have H' := aM' H
         clear H
         have p110 : 0 ≤ (x5_2 : Int) := of_decide_eq_true (by first | (with_reducible assumption) | assumption)
         have q110 : x5_2 < (l1.length : Int) := of_decide_eq_true (by first | (with_reducible assumption) | assumption)
         obtain ⟨ad110, A110_6, c110_6, e110, hx110_0, hx110_1, hx110_2, hx110_3, hx110_4, hx110_5, hx110_6, hl110_6, hi110_6⟩ := at_TEntry HR1.out x5_2 p110 q110
         cases e110
         replace hx110_0 := (HB.out.cell (bL' w _ hx110_0)).trans hx110_0
         replace hx110_1 := (HB.out.cell (bL' w _ hx110_1)).trans hx110_1
         replace hx110_2 := (HB.out.cell (bL' w _ hx110_2)).trans hx110_2
         replace hx110_3 := (HB.out.cell (bL' w _ hx110_3)).trans hx110_3
         replace hx110_4 := (HB.out.cell (bL' w _ hx110_4)).trans hx110_4
         replace hx110_5 := (HB.out.cell (bL' w _ hx110_5)).trans hx110_5
         replace hx110_6 := (HB.out.cell (bL' w _ hx110_6)).trans hx110_6
         have HR110_6 := aM' hi110_6
         have HC110_6 := aM' hl110_6
         clear hi110_6 hl110_6
         replace p110 := eq_true p110
         replace q110 := eq_true q110
         go_wp2_with (first | ((with_reducible refine gate_callee (f := 15) rfl ?_); refine goesL_ (some 25) rfl rfl Tryz.func15 (by kernel_rfl) rfl #[.agg #[.bool ((rd_TEntry l1 x5_2).f0.f0), .string ((rd_TEntry l1 x5_2).f0.f1), .string ((rd_TEntry l1 x5_2).f0.f2), .int .u64 ((rd_TEntry l1 x5_2).f0.f3.f0), .int .u64 ((rd_TEntry l1 x5_2).f0.f3.f1), .int .u64 ((rd_TEntry l1 x5_2).f1.f0), .slice A110_6 ((rd_TEntry l1 x5_2).f1.f1).length c110_6]] rfl (by (try simp only [List.map_toArray, List.map_cons, List.map_nil]); first | done | rfl | (simp only [List.length_drop, List.length_take]; rfl)) ?_; (with_reducible refine (paymasterlaw16_LongEntry.calls k2 ((rd_TEntry l1 x5_2).f0.f0) ((rd_TEntry l1 x5_2).f0.f1) ((rd_TEntry l1 x5_2).f0.f2) ((rd_TEntry l1 x5_2).f0.f3.f0) ((rd_TEntry l1 x5_2).f0.f3.f1) ((rd_TEntry l1 x5_2).f1.f0) _ _ ((rd_TEntry l1 x5_2).f1.f1) false _ ?side1 ?side2 A10.out).mono ?_); (case side1 => repeat (first | exact (Kd.C_below HR110_6.out HB.out) | (with_reducible refine Kd.C_alloc ?_ _) | (with_reducible refine Kd.C_drewN ?_ _) | (with_reducible refine Kd.C_drew ?_))); (case side2 => exact HC110_6.out); rintro e w13 ⟨rfl, hb⟩; refine ⟨_, rfl, ?_⟩; have n0_ := aM' (blk_below (g := gb109) (o := .cells #[.string a0_0, .int .u64 a0_1, .int .u64 a0_2, .int .i64 a0_3] 26 (0, 0)) (by (with_reducible repeat (first | refine blk_drewN ?_ _ | refine blk_drew ?_ | refine blk_alloc ?_ _)); exact BK109.out) hb); have n1_ := aM' (below_step (by repeat (first | (with_reducible first | exact HB.out | apply below_alloc | apply pw_below_drewN | apply below_drew1 | refine below_set ?_ GE109.out) | exact HB.out)) hb); clear BK109; clear HB; have BK109 := n0_; have HB := n1_; clear n0_ n1_; (try clear hb); (try clear hb2); (try clear hk); (try clear hi)))
         go_roundg k2
         case measure => have := HJ2.out; have := HK2.out; omega
         case rel => exact ⟨(wrap64 (x5_2 + 1)), (by first | rfl | (simp; done) | (simp [*]; done)), H', ⟨by have := HJ2.out; have := HK2.out; omega⟩, ⟨by (with_reducible repeat (first | refine blk_drewN ?_ _ | refine blk_drew ?_ | refine blk_alloc ?_ _)); exact BK109.out⟩, ⟨by repeat (first | (with_reducible first | exact HB.out | apply below_alloc | apply pw_below_drewN | apply below_drew1 | refine below_set ?_ GE109.out) | exact HB.out)⟩⟩
       ·
        rw [if_neg c9] at H
        exact absurd H (by simp)
      ·
       rw [if_neg c8] at H
       have c8b0 : decide (x5_2 < (l1.length : Int)) = false := decide_eq_false c8
       clear c8
       obtain rfl := Option.some.inj H
       go_wp2
       go_ret
       exact ⟨by first | rfl | (simp [errW_none, errW_some] <;> rfl) | (simp [*, errW_none, errW_some] <;> rfl), by repeat (first | (with_reducible first | exact HB.out | apply below_alloc | apply pw_below_drewN | apply below_drew1 | refine below_set ?_ GE109.out) | exact HB.out)⟩
def verify_asked_shape.f (a0_0 : ByteArray) (a0_1 : Int) (a0_2 : Int) (a0_3 : Int) (a0_4 : Bool) (a0_5 : ByteArray) (a0_6 : ByteArray) (a0_7 : Int) (a0_8 : Int) (a0_9 : Int) (l0_10 : List (SNode)) : Option (Int) := (proof_Shape.f (a0_0.size : Int) a0_3 a0_9 l0_10).bind fun t116 => (some t116)
set_option maxHeartbeats 8000000 in
set_option maxRecDepth 100000 in
theorem verify_asked_shape.calls (a0_0 : ByteArray) (a0_1 : Int) (a0_2 : Int) (a0_3 : Int) (a0_4 : Bool) (a0_5 : ByteArray) (a0_6 : ByteArray) (a0_7 : Int) (a0_8 : Int) (a0_9 : Int) (A0_10 : Option Addr) (c0_10 : Nat) (l0_10 : List (SNode)) (r : Int) (w : World) (hr0_10 : Kd.C kNode w A0_10 l0_10.length l0_10) (hc0_10 : l0_10.length ≤ c0_10) (h : verify_asked_shape.f a0_0 a0_1 a0_2 a0_3 a0_4 a0_5 a0_6 a0_7 a0_8 a0_9 l0_10 = some r) :
  Calls Tryz.prog 21 #[.agg #[.string a0_0, .int .u64 a0_1, .int .u64 a0_2, .int .i64 a0_3, .bool a0_4, .string a0_5, .string a0_6, .int .u64 a0_7, .int .u64 a0_8, .int .u64 a0_9, .slice A0_10 l0_10.length c0_10]] w fun e w' => e = .returned (.int .i64 r) ∧ Below w.heap.size w w' := by
 have hu54 := Tryz.underlying54
 have hu37 := Tryz.underlying37
 have HR0_10 := aM' hr0_10
 have HC0_10 := aM' hc0_10
 clear hr0_10 hc0_10
 have HB := aM' (Below.refl w.heap.size w)
 have H : ((proof_Shape.f (a0_0.size : Int) a0_3 a0_9 l0_10).bind fun t116 => (some t116)) = some r := h
 clear h
 replace H := Option.bind_eq_some_iff.mp H
 obtain ⟨t116, A20, H⟩ := H
 replace H : (some t116) = some r := H
 have A2 := aM' A20
 clear A20
 obtain rfl := Option.some.inj H
 go_enter Tryz.func21, Tryz.ntmps21
 go_wp2_with (first | ((with_reducible refine gate_dst (N := 1) rfl ?_); refine box_event ?hg (N := 1) ?hd (cs := #[.string a0_0, .int .u64 a0_1, .int .u64 a0_2, .int .i64 a0_3, .bool a0_4, .string a0_5, .string a0_6, .int .u64 a0_7, .int .u64 a0_8, .int .u64 a0_9, .slice A0_10 l0_10.length c0_10]) (t := 54) ?hr ?_; (case hd => rfl); (case hg => rfl); (case hr => first | (go_simp; done) | (go_simp; rfl)); intro gb115 hg w3 hbox hb; have n0_ := aM' (below_step (by repeat (first | (with_reducible first | exact HB.out | apply below_alloc | apply pw_below_drewN | apply below_drew1) | exact HB.out)) hb); have n1_ := aM' (hbox); have n2_ := aM' ((by rw [hg]; exact (below_size (by repeat (first | (with_reducible first | exact HB.out | apply below_alloc | apply pw_below_drewN | apply below_drew1) | exact HB.out))) : w.heap.size ≤ gb115)); have n3_ := aM' ((by rw [hg]; exact (below_size (by repeat (first | (with_reducible first | exact HB.out | apply below_alloc | apply pw_below_drewN | apply below_drew1) | exact HB.out))) : w.heap.size ≤ gb115)); clear HB; have HB := n0_; have BK115 := n1_; have GW115 := n2_; have GE115 := n3_; clear n0_ n1_ n2_ n3_; clear hb hbox hg; have hcz4_0 : w3.cell? ⟨gb115, 0, none⟩ = some (.string a0_0) := (blk_cell BK115.out 0).trans rfl; have hcz4_1 : w3.cell? ⟨gb115, 1, none⟩ = some (.int .u64 a0_1) := (blk_cell BK115.out 1).trans rfl; have hcz4_2 : w3.cell? ⟨gb115, 2, none⟩ = some (.int .u64 a0_2) := (blk_cell BK115.out 2).trans rfl; have hcz4_3 : w3.cell? ⟨gb115, 3, none⟩ = some (.int .i64 a0_3) := (blk_cell BK115.out 3).trans rfl; have hcz4_4 : w3.cell? ⟨gb115, 4, none⟩ = some (.bool a0_4) := (blk_cell BK115.out 4).trans rfl; have hcz4_5 : w3.cell? ⟨gb115, 5, none⟩ = some (.string a0_5) := (blk_cell BK115.out 5).trans rfl; have hcz4_6 : w3.cell? ⟨gb115, 6, none⟩ = some (.string a0_6) := (blk_cell BK115.out 6).trans rfl; have hcz4_7 : w3.cell? ⟨gb115, 7, none⟩ = some (.int .u64 a0_7) := (blk_cell BK115.out 7).trans rfl; have hcz4_8 : w3.cell? ⟨gb115, 8, none⟩ = some (.int .u64 a0_8) := (blk_cell BK115.out 8).trans rfl; have hcz4_9 : w3.cell? ⟨gb115, 9, none⟩ = some (.int .u64 a0_9) := (blk_cell BK115.out 9).trans rfl; have hcz4_10 : w3.cell? ⟨gb115, 10, none⟩ = some (.slice A0_10 l0_10.length c0_10) := (blk_cell BK115.out 10).trans rfl; have hfz4_0 := blk_frozen BK115.out 0; have hfz4_1 := blk_frozen BK115.out 1; have hfz4_2 := blk_frozen BK115.out 2; have hfz4_3 := blk_frozen BK115.out 3; have hfz4_4 := blk_frozen BK115.out 4; have hfz4_5 := blk_frozen BK115.out 5; have hfz4_6 := blk_frozen BK115.out 6; have hfz4_7 := blk_frozen BK115.out 7; have hfz4_8 := blk_frozen BK115.out 8; have hfz4_9 := blk_frozen BK115.out 9; have hfz4_10 := blk_frozen BK115.out 10) | ((with_reducible refine gate_callee (f := 34) rfl ?_); refine goesL_ (some 13) rfl rfl Tryz.func34 (by kernel_rfl) rfl #[.int .i64 (a0_0.size : Int), .int .i64 a0_3, .agg #[.int .u64 a0_9, .slice A0_10 l0_10.length c0_10]] rfl (by (try simp only [List.map_toArray, List.map_cons, List.map_nil]); first | done | rfl | (simp only [List.length_drop, List.length_take]; rfl)) ?_; (with_reducible refine (proof_Shape.calls (a0_0.size : Int) a0_3 a0_9 _ _ l0_10 t116 _ ?side1 ?side2 A2.out).mono ?_); (case side1 => repeat (first | exact (Kd.C_below HR0_10.out HB.out) | (with_reducible refine Kd.C_alloc ?_ _) | (with_reducible refine Kd.C_drewN ?_ _) | (with_reducible refine Kd.C_drew ?_))); (case side2 => exact HC0_10.out); rintro e w5 ⟨rfl, hb⟩; refine ⟨_, rfl, ?_⟩; have n0_ := aM' (blk_below (g := gb115) (o := .cells #[.string a0_0, .int .u64 a0_1, .int .u64 a0_2, .int .i64 a0_3, .bool a0_4, .string a0_5, .string a0_6, .int .u64 a0_7, .int .u64 a0_8, .int .u64 a0_9, .slice A0_10 l0_10.length c0_10] 54 (0, 0)) (by (with_reducible repeat (first | refine blk_drewN ?_ _ | refine blk_drew ?_ | refine blk_alloc ?_ _)); exact BK115.out) hb); have n1_ := aM' (below_step (by repeat (first | (with_reducible first | exact HB.out | apply below_alloc | apply pw_below_drewN | apply below_drew1 | refine below_set ?_ GE115.out) | exact HB.out)) hb); clear BK115; clear HB; have BK115 := n0_; have HB := n1_; clear n0_ n1_; (try clear hb); (try clear hb2); (try clear hk); (try clear hi)))
 go_ret
 exact ⟨by first | rfl | (simp [errW_none, errW_some] <;> rfl) | (simp [*, errW_none, errW_some] <;> rfl), by repeat (first | (with_reducible first | exact HB.out | apply below_alloc | apply pw_below_drewN | apply below_drew1 | refine below_set ?_ GE115.out) | exact HB.out)⟩
def paymasterref07_MayLeaf.f (k : Nat) (a0_0 : Bool) (a0_1 : ByteArray) (a0_2 : ByteArray) (a0_3 : Int) (a0_4 : Int) : Option (Bool) := if a0_0 = true then (if a0_1.toList = ([] : List UInt8) then (if (!(a0_3 == 0) || (!(a0_4 == 0))) = true then (some false) else (some (decide ((a0_2.size : Int) ≤ 32)))) else (some false)) else ((paymasterref07_MayId.f k a0_1).bind fun t129 => (if t129 = true then (some (decide ((a0_2.size : Int) ≤ 32))) else (some false)))
set_option maxHeartbeats 8000000 in
set_option maxRecDepth 100000 in
theorem paymasterref07_MayLeaf.calls (k : Nat) (a0_0 : Bool) (a0_1 : ByteArray) (a0_2 : ByteArray) (a0_3 : Int) (a0_4 : Int) (r : Bool) (w : World) (h : paymasterref07_MayLeaf.f k a0_0 a0_1 a0_2 a0_3 a0_4 = some r) :
  Calls Tryz.prog 16 #[.agg #[.bool a0_0, .string a0_1, .string a0_2, .int .u64 a0_3, .int .u64 a0_4]] w fun e w' => e = .returned (.bool r) ∧ Below w.heap.size w w' := by
 have hu34 := Tryz.underlying34
 have hu24 := Tryz.underlying24
 have HB := aM' (Below.refl w.heap.size w)
 have H : (if a0_0 = true then (if a0_1.toList = ([] : List UInt8) then (if (!(a0_3 == 0) || (!(a0_4 == 0))) = true then (some false) else (some (decide ((a0_2.size : Int) ≤ 32)))) else (some false)) else ((paymasterref07_MayId.f k a0_1).bind fun t129 => (if t129 = true then (some (decide ((a0_2.size : Int) ≤ 32))) else (some false)))) = some r := h
 clear h
 by_cases c2 : a0_0 = true
 ·
  subst c2
  have H1 : (if a0_1.toList = ([] : List UInt8) then (if (!(a0_3 == 0) || (!(a0_4 == 0))) = true then (some false) else (some (decide ((a0_2.size : Int) ≤ 32)))) else (some false)) = some r := by rw [if_pos rfl] at H; exact H
  clear H
  have H := H1
  clear H1
  by_cases c3 : a0_1.toList = ([] : List UInt8)
  ·
   rw [if_pos c3] at H
   have c3b0 : (a0_1.toList == ([] : List UInt8)) = true := beq_iff_eq.mpr c3
   have c3b1 : (a0_1.toList != ([] : List UInt8)) = false := bne_eq_false_iff_eq.mpr c3
   clear c3
   by_cases c4 : (!(a0_3 == 0) || (!(a0_4 == 0))) = true
   ·
    rw [if_pos c4] at H
    have c4b0 : (!(a0_3 == 0) || (!(a0_4 == 0))) = true := c4
    clear c4
    obtain rfl := Option.some.inj H
    go_enter Tryz.func16, Tryz.ntmps16
    go_wp2_with (first | ((with_reducible refine gate_dst (N := 1) rfl ?_); refine box_event ?hg (N := 1) ?hd (cs := #[.bool true, .string a0_1, .string a0_2, .int .u64 a0_3, .int .u64 a0_4]) (t := 34) ?hr ?_; (case hd => rfl); (case hg => rfl); (case hr => first | (go_simp; done) | (go_simp; rfl)); intro gb127 hg w5 hbox hb; have n0_ := aM' (below_step (by repeat (first | (with_reducible first | exact HB.out | apply below_alloc | apply pw_below_drewN | apply below_drew1) | exact HB.out)) hb); have n1_ := aM' (hbox); have n2_ := aM' ((by rw [hg]; exact (below_size (by repeat (first | (with_reducible first | exact HB.out | apply below_alloc | apply pw_below_drewN | apply below_drew1) | exact HB.out))) : w.heap.size ≤ gb127)); have n3_ := aM' ((by rw [hg]; exact (below_size (by repeat (first | (with_reducible first | exact HB.out | apply below_alloc | apply pw_below_drewN | apply below_drew1) | exact HB.out))) : w.heap.size ≤ gb127)); clear HB; have HB := n0_; have BK127 := n1_; have GW127 := n2_; have GE127 := n3_; clear n0_ n1_ n2_ n3_; clear hb hbox hg) | ((with_reducible refine gate_dst (N := 3) rfl ?_); refine box_event ?hg (N := 3) ?hd (cs := #[.int .u64 0, .int .u64 0]) (t := 24) ?hr ?_; (case hd => rfl); (case hg => rfl); (case hr => first | (go_simp; done) | (go_simp; rfl)); intro gb128 hg w6 hbox hb; have n0_ := aM' (blk_below (g := gb127) (o := .cells #[.bool true, .string a0_1, .string a0_2, .int .u64 a0_3, .int .u64 a0_4] 34 (0, 0)) (by (with_reducible repeat (first | refine blk_drewN ?_ _ | refine blk_drew ?_ | refine blk_alloc ?_ _)); exact BK127.out) hb); have n1_ := aM' (below_step (by repeat (first | (with_reducible first | exact HB.out | apply below_alloc | apply pw_below_drewN | apply below_drew1 | refine below_set ?_ GE127.out) | exact HB.out)) hb); have n2_ := aM' (hbox); have n3_ := aM' ((by rw [hg]; exact (below_size (by repeat (first | (with_reducible first | exact HB.out | apply below_alloc | apply pw_below_drewN | apply below_drew1 | refine below_set ?_ GE127.out) | exact HB.out))) : w.heap.size ≤ gb128)); have n4_ := aM' ((by rw [hg]; exact (below_size (by repeat (first | (with_reducible first | exact HB.out | apply below_alloc | apply pw_below_drewN | apply below_drew1 | refine below_set ?_ GE127.out) | exact HB.out))) : w.heap.size ≤ gb128)); have n5_ := aM' ((by rw [hg]; exact Nat.ne_of_lt (blk_lt (g := gb127) (o := .cells #[.bool true, .string a0_1, .string a0_2, .int .u64 a0_3, .int .u64 a0_4] 34 (0, 0)) (by (with_reducible repeat (first | refine blk_drewN ?_ _ | refine blk_drew ?_ | refine blk_alloc ?_ _)); exact BK127.out)) : gb127 ≠ gb128)); have n6_ := aM' ((by rw [hg]; exact Nat.ne_of_gt (blk_lt (g := gb127) (o := .cells #[.bool true, .string a0_1, .string a0_2, .int .u64 a0_3, .int .u64 a0_4] 34 (0, 0)) (by (with_reducible repeat (first | refine blk_drewN ?_ _ | refine blk_drew ?_ | refine blk_alloc ?_ _)); exact BK127.out)) : gb128 ≠ gb127)); clear BK127; clear HB; have BK127 := n0_; have HB := n1_; have BK128 := n2_; have GW128 := n3_; have GE128 := n4_; have NB127_128 := n5_; have NB128_127 := n6_; clear n0_ n1_ n2_ n3_ n4_ n5_ n6_; clear hb hbox hg; have hnb7 := NB128_127.out; have hnc7 := NB127_128.out; have hcz8_0 : w6.cell? ⟨gb128, 0, none⟩ = some (.int .u64 0) := (blk_cell BK128.out 0).trans rfl; have hcz8_1 : w6.cell? ⟨gb128, 1, none⟩ = some (.int .u64 0) := (blk_cell BK128.out 1).trans rfl; have hfz8_0 := blk_frozen BK128.out 0; have hfz8_1 := blk_frozen BK128.out 1; have hcz9_0 : w6.cell? ⟨gb127, 0, none⟩ = some (.bool true) := (blk_cell BK127.out 0).trans rfl; have hcz9_1 : w6.cell? ⟨gb127, 1, none⟩ = some (.string a0_1) := (blk_cell BK127.out 1).trans rfl; have hcz9_2 : w6.cell? ⟨gb127, 2, none⟩ = some (.string a0_2) := (blk_cell BK127.out 2).trans rfl; have hcz9_3 : w6.cell? ⟨gb127, 3, none⟩ = some (.int .u64 a0_3) := (blk_cell BK127.out 3).trans rfl; have hcz9_4 : w6.cell? ⟨gb127, 4, none⟩ = some (.int .u64 a0_4) := (blk_cell BK127.out 4).trans rfl; have hfz9_0 := blk_frozen BK127.out 0; have hfz9_1 := blk_frozen BK127.out 1; have hfz9_2 := blk_frozen BK127.out 2; have hfz9_3 := blk_frozen BK127.out 3; have hfz9_4 := blk_frozen BK127.out 4))
    go_ret
    exact ⟨by first | rfl | (simp [errW_none, errW_some] <;> rfl) | (simp [*, errW_none, errW_some] <;> rfl), by repeat (first | (with_reducible first | exact HB.out | apply below_alloc | apply pw_below_drewN | apply below_drew1 | refine below_set ?_ GE127.out | refine below_set ?_ GE128.out) | exact HB.out)⟩
   ·
    rw [if_neg c4] at H
    have c4b0 : (!(a0_3 == 0) || (!(a0_4 == 0))) = false := by simpa using c4
    clear c4
    obtain rfl := Option.some.inj H
    go_enter Tryz.func16, Tryz.ntmps16
    go_wp2_with (first | ((with_reducible refine gate_dst (N := 1) rfl ?_); refine box_event ?hg (N := 1) ?hd (cs := #[.bool true, .string a0_1, .string a0_2, .int .u64 a0_3, .int .u64 a0_4]) (t := 34) ?hr ?_; (case hd => rfl); (case hg => rfl); (case hr => first | (go_simp; done) | (go_simp; rfl)); intro gb127 hg w10 hbox hb; have n0_ := aM' (below_step (by repeat (first | (with_reducible first | exact HB.out | apply below_alloc | apply pw_below_drewN | apply below_drew1) | exact HB.out)) hb); have n1_ := aM' (hbox); have n2_ := aM' ((by rw [hg]; exact (below_size (by repeat (first | (with_reducible first | exact HB.out | apply below_alloc | apply pw_below_drewN | apply below_drew1) | exact HB.out))) : w.heap.size ≤ gb127)); have n3_ := aM' ((by rw [hg]; exact (below_size (by repeat (first | (with_reducible first | exact HB.out | apply below_alloc | apply pw_below_drewN | apply below_drew1) | exact HB.out))) : w.heap.size ≤ gb127)); clear HB; have HB := n0_; have BK127 := n1_; have GW127 := n2_; have GE127 := n3_; clear n0_ n1_ n2_ n3_; clear hb hbox hg) | ((with_reducible refine gate_dst (N := 3) rfl ?_); refine box_event ?hg (N := 3) ?hd (cs := #[.int .u64 0, .int .u64 0]) (t := 24) ?hr ?_; (case hd => rfl); (case hg => rfl); (case hr => first | (go_simp; done) | (go_simp; rfl)); intro gb128 hg w11 hbox hb; have n0_ := aM' (blk_below (g := gb127) (o := .cells #[.bool true, .string a0_1, .string a0_2, .int .u64 a0_3, .int .u64 a0_4] 34 (0, 0)) (by (with_reducible repeat (first | refine blk_drewN ?_ _ | refine blk_drew ?_ | refine blk_alloc ?_ _)); exact BK127.out) hb); have n1_ := aM' (below_step (by repeat (first | (with_reducible first | exact HB.out | apply below_alloc | apply pw_below_drewN | apply below_drew1 | refine below_set ?_ GE127.out) | exact HB.out)) hb); have n2_ := aM' (hbox); have n3_ := aM' ((by rw [hg]; exact (below_size (by repeat (first | (with_reducible first | exact HB.out | apply below_alloc | apply pw_below_drewN | apply below_drew1 | refine below_set ?_ GE127.out) | exact HB.out))) : w.heap.size ≤ gb128)); have n4_ := aM' ((by rw [hg]; exact (below_size (by repeat (first | (with_reducible first | exact HB.out | apply below_alloc | apply pw_below_drewN | apply below_drew1 | refine below_set ?_ GE127.out) | exact HB.out))) : w.heap.size ≤ gb128)); have n5_ := aM' ((by rw [hg]; exact Nat.ne_of_lt (blk_lt (g := gb127) (o := .cells #[.bool true, .string a0_1, .string a0_2, .int .u64 a0_3, .int .u64 a0_4] 34 (0, 0)) (by (with_reducible repeat (first | refine blk_drewN ?_ _ | refine blk_drew ?_ | refine blk_alloc ?_ _)); exact BK127.out)) : gb127 ≠ gb128)); have n6_ := aM' ((by rw [hg]; exact Nat.ne_of_gt (blk_lt (g := gb127) (o := .cells #[.bool true, .string a0_1, .string a0_2, .int .u64 a0_3, .int .u64 a0_4] 34 (0, 0)) (by (with_reducible repeat (first | refine blk_drewN ?_ _ | refine blk_drew ?_ | refine blk_alloc ?_ _)); exact BK127.out)) : gb128 ≠ gb127)); clear BK127; clear HB; have BK127 := n0_; have HB := n1_; have BK128 := n2_; have GW128 := n3_; have GE128 := n4_; have NB127_128 := n5_; have NB128_127 := n6_; clear n0_ n1_ n2_ n3_ n4_ n5_ n6_; clear hb hbox hg; have hnb12 := NB128_127.out; have hnc12 := NB127_128.out; have hcz13_0 : w11.cell? ⟨gb128, 0, none⟩ = some (.int .u64 0) := (blk_cell BK128.out 0).trans rfl; have hcz13_1 : w11.cell? ⟨gb128, 1, none⟩ = some (.int .u64 0) := (blk_cell BK128.out 1).trans rfl; have hfz13_0 := blk_frozen BK128.out 0; have hfz13_1 := blk_frozen BK128.out 1; have hcz14_0 : w11.cell? ⟨gb127, 0, none⟩ = some (.bool true) := (blk_cell BK127.out 0).trans rfl; have hcz14_1 : w11.cell? ⟨gb127, 1, none⟩ = some (.string a0_1) := (blk_cell BK127.out 1).trans rfl; have hcz14_2 : w11.cell? ⟨gb127, 2, none⟩ = some (.string a0_2) := (blk_cell BK127.out 2).trans rfl; have hcz14_3 : w11.cell? ⟨gb127, 3, none⟩ = some (.int .u64 a0_3) := (blk_cell BK127.out 3).trans rfl; have hcz14_4 : w11.cell? ⟨gb127, 4, none⟩ = some (.int .u64 a0_4) := (blk_cell BK127.out 4).trans rfl; have hfz14_0 := blk_frozen BK127.out 0; have hfz14_1 := blk_frozen BK127.out 1; have hfz14_2 := blk_frozen BK127.out 2; have hfz14_3 := blk_frozen BK127.out 3; have hfz14_4 := blk_frozen BK127.out 4))
    go_ret
    exact ⟨by first | rfl | (simp [errW_none, errW_some] <;> rfl) | (simp [*, errW_none, errW_some] <;> rfl), by repeat (first | (with_reducible first | exact HB.out | apply below_alloc | apply pw_below_drewN | apply below_drew1 | refine below_set ?_ GE127.out | refine below_set ?_ GE128.out) | exact HB.out)⟩
  ·
   rw [if_neg c3] at H
   have c3b0 : (a0_1.toList == ([] : List UInt8)) = false := beq_eq_false_iff_ne.mpr c3
   have c3b1 : (a0_1.toList != ([] : List UInt8)) = true := bne_iff_ne.mpr c3
   obtain rfl := Option.some.inj H
   go_enter Tryz.func16, Tryz.ntmps16
   go_wp2_with (first | ((with_reducible refine gate_dst (N := 1) rfl ?_); refine box_event ?hg (N := 1) ?hd (cs := #[.bool true, .string a0_1, .string a0_2, .int .u64 a0_3, .int .u64 a0_4]) (t := 34) ?hr ?_; (case hd => rfl); (case hg => rfl); (case hr => first | (go_simp; done) | (go_simp; rfl)); intro gb127 hg w15 hbox hb; have n0_ := aM' (below_step (by repeat (first | (with_reducible first | exact HB.out | apply below_alloc | apply pw_below_drewN | apply below_drew1) | exact HB.out)) hb); have n1_ := aM' (hbox); have n2_ := aM' ((by rw [hg]; exact (below_size (by repeat (first | (with_reducible first | exact HB.out | apply below_alloc | apply pw_below_drewN | apply below_drew1) | exact HB.out))) : w.heap.size ≤ gb127)); have n3_ := aM' ((by rw [hg]; exact (below_size (by repeat (first | (with_reducible first | exact HB.out | apply below_alloc | apply pw_below_drewN | apply below_drew1) | exact HB.out))) : w.heap.size ≤ gb127)); clear HB; have HB := n0_; have BK127 := n1_; have GW127 := n2_; have GE127 := n3_; clear n0_ n1_ n2_ n3_; clear hb hbox hg) | ((with_reducible refine gate_dst (N := 3) rfl ?_); refine box_event ?hg (N := 3) ?hd (cs := #[.int .u64 0, .int .u64 0]) (t := 24) ?hr ?_; (case hd => rfl); (case hg => rfl); (case hr => first | (go_simp; done) | (go_simp; rfl)); intro gb128 hg w16 hbox hb; have n0_ := aM' (blk_below (g := gb127) (o := .cells #[.bool true, .string a0_1, .string a0_2, .int .u64 a0_3, .int .u64 a0_4] 34 (0, 0)) (by (with_reducible repeat (first | refine blk_drewN ?_ _ | refine blk_drew ?_ | refine blk_alloc ?_ _)); exact BK127.out) hb); have n1_ := aM' (below_step (by repeat (first | (with_reducible first | exact HB.out | apply below_alloc | apply pw_below_drewN | apply below_drew1 | refine below_set ?_ GE127.out) | exact HB.out)) hb); have n2_ := aM' (hbox); have n3_ := aM' ((by rw [hg]; exact (below_size (by repeat (first | (with_reducible first | exact HB.out | apply below_alloc | apply pw_below_drewN | apply below_drew1 | refine below_set ?_ GE127.out) | exact HB.out))) : w.heap.size ≤ gb128)); have n4_ := aM' ((by rw [hg]; exact (below_size (by repeat (first | (with_reducible first | exact HB.out | apply below_alloc | apply pw_below_drewN | apply below_drew1 | refine below_set ?_ GE127.out) | exact HB.out))) : w.heap.size ≤ gb128)); have n5_ := aM' ((by rw [hg]; exact Nat.ne_of_lt (blk_lt (g := gb127) (o := .cells #[.bool true, .string a0_1, .string a0_2, .int .u64 a0_3, .int .u64 a0_4] 34 (0, 0)) (by (with_reducible repeat (first | refine blk_drewN ?_ _ | refine blk_drew ?_ | refine blk_alloc ?_ _)); exact BK127.out)) : gb127 ≠ gb128)); have n6_ := aM' ((by rw [hg]; exact Nat.ne_of_gt (blk_lt (g := gb127) (o := .cells #[.bool true, .string a0_1, .string a0_2, .int .u64 a0_3, .int .u64 a0_4] 34 (0, 0)) (by (with_reducible repeat (first | refine blk_drewN ?_ _ | refine blk_drew ?_ | refine blk_alloc ?_ _)); exact BK127.out)) : gb128 ≠ gb127)); clear BK127; clear HB; have BK127 := n0_; have HB := n1_; have BK128 := n2_; have GW128 := n3_; have GE128 := n4_; have NB127_128 := n5_; have NB128_127 := n6_; clear n0_ n1_ n2_ n3_ n4_ n5_ n6_; clear hb hbox hg; have hnb17 := NB128_127.out; have hnc17 := NB127_128.out; have hcz18_0 : w16.cell? ⟨gb128, 0, none⟩ = some (.int .u64 0) := (blk_cell BK128.out 0).trans rfl; have hcz18_1 : w16.cell? ⟨gb128, 1, none⟩ = some (.int .u64 0) := (blk_cell BK128.out 1).trans rfl; have hfz18_0 := blk_frozen BK128.out 0; have hfz18_1 := blk_frozen BK128.out 1; have hcz19_0 : w16.cell? ⟨gb127, 0, none⟩ = some (.bool true) := (blk_cell BK127.out 0).trans rfl; have hcz19_1 : w16.cell? ⟨gb127, 1, none⟩ = some (.string a0_1) := (blk_cell BK127.out 1).trans rfl; have hcz19_2 : w16.cell? ⟨gb127, 2, none⟩ = some (.string a0_2) := (blk_cell BK127.out 2).trans rfl; have hcz19_3 : w16.cell? ⟨gb127, 3, none⟩ = some (.int .u64 a0_3) := (blk_cell BK127.out 3).trans rfl; have hcz19_4 : w16.cell? ⟨gb127, 4, none⟩ = some (.int .u64 a0_4) := (blk_cell BK127.out 4).trans rfl; have hfz19_0 := blk_frozen BK127.out 0; have hfz19_1 := blk_frozen BK127.out 1; have hfz19_2 := blk_frozen BK127.out 2; have hfz19_3 := blk_frozen BK127.out 3; have hfz19_4 := blk_frozen BK127.out 4))
   go_ret
   exact ⟨by first | rfl | (simp [errW_none, errW_some] <;> rfl) | (simp [*, errW_none, errW_some] <;> rfl), by repeat (first | (with_reducible first | exact HB.out | apply below_alloc | apply pw_below_drewN | apply below_drew1 | refine below_set ?_ GE127.out | refine below_set ?_ GE128.out) | exact HB.out)⟩
 ·
  replace c2 := Bool.eq_false_iff.mpr c2
  subst c2
  have H1 : ((paymasterref07_MayId.f k a0_1).bind fun t129 => (if t129 = true then (some (decide ((a0_2.size : Int) ≤ 32))) else (some false))) = some r := by rw [if_neg (show ¬ (false = true) by decide)] at H; exact H
  clear H
  have H := H1
  clear H1
  replace H := Option.bind_eq_some_iff.mp H
  obtain ⟨t129, A200, H⟩ := H
  replace H : (if t129 = true then (some (decide ((a0_2.size : Int) ≤ 32))) else (some false)) = some r := H
  have A20 := aM' A200
  clear A200
  by_cases c21 : t129 = true
  ·
   subst c21
   have H1 : (some (decide ((a0_2.size : Int) ≤ 32))) = some r := by rw [if_pos rfl] at H; exact H
   clear H
   have H := H1
   clear H1
   obtain rfl := Option.some.inj H
   go_enter Tryz.func16, Tryz.ntmps16
   go_wp2_with (first | ((with_reducible refine gate_dst (N := 1) rfl ?_); refine box_event ?hg (N := 1) ?hd (cs := #[.bool false, .string a0_1, .string a0_2, .int .u64 a0_3, .int .u64 a0_4]) (t := 34) ?hr ?_; (case hd => rfl); (case hg => rfl); (case hr => first | (go_simp; done) | (go_simp; rfl)); intro gb127 hg w22 hbox hb; have n0_ := aM' (below_step (by repeat (first | (with_reducible first | exact HB.out | apply below_alloc | apply pw_below_drewN | apply below_drew1) | exact HB.out)) hb); have n1_ := aM' (hbox); have n2_ := aM' ((by rw [hg]; exact (below_size (by repeat (first | (with_reducible first | exact HB.out | apply below_alloc | apply pw_below_drewN | apply below_drew1) | exact HB.out))) : w.heap.size ≤ gb127)); have n3_ := aM' ((by rw [hg]; exact (below_size (by repeat (first | (with_reducible first | exact HB.out | apply below_alloc | apply pw_below_drewN | apply below_drew1) | exact HB.out))) : w.heap.size ≤ gb127)); clear HB; have HB := n0_; have BK127 := n1_; have GW127 := n2_; have GE127 := n3_; clear n0_ n1_ n2_ n3_; clear hb hbox hg) | ((with_reducible refine gate_dst (N := 3) rfl ?_); refine box_event ?hg (N := 3) ?hd (cs := #[.int .u64 0, .int .u64 0]) (t := 24) ?hr ?_; (case hd => rfl); (case hg => rfl); (case hr => first | (go_simp; done) | (go_simp; rfl)); intro gb128 hg w23 hbox hb; have n0_ := aM' (blk_below (g := gb127) (o := .cells #[.bool false, .string a0_1, .string a0_2, .int .u64 a0_3, .int .u64 a0_4] 34 (0, 0)) (by (with_reducible repeat (first | refine blk_drewN ?_ _ | refine blk_drew ?_ | refine blk_alloc ?_ _)); exact BK127.out) hb); have n1_ := aM' (below_step (by repeat (first | (with_reducible first | exact HB.out | apply below_alloc | apply pw_below_drewN | apply below_drew1 | refine below_set ?_ GE127.out) | exact HB.out)) hb); have n2_ := aM' (hbox); have n3_ := aM' ((by rw [hg]; exact (below_size (by repeat (first | (with_reducible first | exact HB.out | apply below_alloc | apply pw_below_drewN | apply below_drew1 | refine below_set ?_ GE127.out) | exact HB.out))) : w.heap.size ≤ gb128)); have n4_ := aM' ((by rw [hg]; exact (below_size (by repeat (first | (with_reducible first | exact HB.out | apply below_alloc | apply pw_below_drewN | apply below_drew1 | refine below_set ?_ GE127.out) | exact HB.out))) : w.heap.size ≤ gb128)); have n5_ := aM' ((by rw [hg]; exact Nat.ne_of_lt (blk_lt (g := gb127) (o := .cells #[.bool false, .string a0_1, .string a0_2, .int .u64 a0_3, .int .u64 a0_4] 34 (0, 0)) (by (with_reducible repeat (first | refine blk_drewN ?_ _ | refine blk_drew ?_ | refine blk_alloc ?_ _)); exact BK127.out)) : gb127 ≠ gb128)); have n6_ := aM' ((by rw [hg]; exact Nat.ne_of_gt (blk_lt (g := gb127) (o := .cells #[.bool false, .string a0_1, .string a0_2, .int .u64 a0_3, .int .u64 a0_4] 34 (0, 0)) (by (with_reducible repeat (first | refine blk_drewN ?_ _ | refine blk_drew ?_ | refine blk_alloc ?_ _)); exact BK127.out)) : gb128 ≠ gb127)); clear BK127; clear HB; have BK127 := n0_; have HB := n1_; have BK128 := n2_; have GW128 := n3_; have GE128 := n4_; have NB127_128 := n5_; have NB128_127 := n6_; clear n0_ n1_ n2_ n3_ n4_ n5_ n6_; clear hb hbox hg; have hnb24 := NB128_127.out; have hnc24 := NB127_128.out; have hcz25_0 : w23.cell? ⟨gb128, 0, none⟩ = some (.int .u64 0) := (blk_cell BK128.out 0).trans rfl; have hcz25_1 : w23.cell? ⟨gb128, 1, none⟩ = some (.int .u64 0) := (blk_cell BK128.out 1).trans rfl; have hfz25_0 := blk_frozen BK128.out 0; have hfz25_1 := blk_frozen BK128.out 1; have hcz26_0 : w23.cell? ⟨gb127, 0, none⟩ = some (.bool false) := (blk_cell BK127.out 0).trans rfl; have hcz26_1 : w23.cell? ⟨gb127, 1, none⟩ = some (.string a0_1) := (blk_cell BK127.out 1).trans rfl; have hcz26_2 : w23.cell? ⟨gb127, 2, none⟩ = some (.string a0_2) := (blk_cell BK127.out 2).trans rfl; have hcz26_3 : w23.cell? ⟨gb127, 3, none⟩ = some (.int .u64 a0_3) := (blk_cell BK127.out 3).trans rfl; have hcz26_4 : w23.cell? ⟨gb127, 4, none⟩ = some (.int .u64 a0_4) := (blk_cell BK127.out 4).trans rfl; have hfz26_0 := blk_frozen BK127.out 0; have hfz26_1 := blk_frozen BK127.out 1; have hfz26_2 := blk_frozen BK127.out 2; have hfz26_3 := blk_frozen BK127.out 3; have hfz26_4 := blk_frozen BK127.out 4) | (go_at_call 28; (with_reducible refine (paymasterref07_MayId.calls k a0_1 true _ A20.out).mono ?_); rintro e w' ⟨rfl, ⟨nd, rfl⟩⟩))
   go_ret
   exact ⟨by first | rfl | (simp [errW_none, errW_some] <;> rfl) | (simp [*, errW_none, errW_some] <;> rfl), by repeat (first | (with_reducible first | exact HB.out | apply below_alloc | apply pw_below_drewN | apply below_drew1 | refine below_set ?_ GE127.out | refine below_set ?_ GE128.out) | exact HB.out)⟩
  ·
   replace c21 := Bool.eq_false_iff.mpr c21
   subst c21
   have H1 : (some false) = some r := by rw [if_neg (show ¬ (false = true) by decide)] at H; exact H
   clear H
   have H := H1
   clear H1
   obtain rfl := Option.some.inj H
   go_enter Tryz.func16, Tryz.ntmps16
   go_wp2_with (first | ((with_reducible refine gate_dst (N := 1) rfl ?_); refine box_event ?hg (N := 1) ?hd (cs := #[.bool false, .string a0_1, .string a0_2, .int .u64 a0_3, .int .u64 a0_4]) (t := 34) ?hr ?_; (case hd => rfl); (case hg => rfl); (case hr => first | (go_simp; done) | (go_simp; rfl)); intro gb127 hg w27 hbox hb; have n0_ := aM' (below_step (by repeat (first | (with_reducible first | exact HB.out | apply below_alloc | apply pw_below_drewN | apply below_drew1) | exact HB.out)) hb); have n1_ := aM' (hbox); have n2_ := aM' ((by rw [hg]; exact (below_size (by repeat (first | (with_reducible first | exact HB.out | apply below_alloc | apply pw_below_drewN | apply below_drew1) | exact HB.out))) : w.heap.size ≤ gb127)); have n3_ := aM' ((by rw [hg]; exact (below_size (by repeat (first | (with_reducible first | exact HB.out | apply below_alloc | apply pw_below_drewN | apply below_drew1) | exact HB.out))) : w.heap.size ≤ gb127)); clear HB; have HB := n0_; have BK127 := n1_; have GW127 := n2_; have GE127 := n3_; clear n0_ n1_ n2_ n3_; clear hb hbox hg) | ((with_reducible refine gate_dst (N := 3) rfl ?_); refine box_event ?hg (N := 3) ?hd (cs := #[.int .u64 0, .int .u64 0]) (t := 24) ?hr ?_; (case hd => rfl); (case hg => rfl); (case hr => first | (go_simp; done) | (go_simp; rfl)); intro gb128 hg w28 hbox hb; have n0_ := aM' (blk_below (g := gb127) (o := .cells #[.bool false, .string a0_1, .string a0_2, .int .u64 a0_3, .int .u64 a0_4] 34 (0, 0)) (by (with_reducible repeat (first | refine blk_drewN ?_ _ | refine blk_drew ?_ | refine blk_alloc ?_ _)); exact BK127.out) hb); have n1_ := aM' (below_step (by repeat (first | (with_reducible first | exact HB.out | apply below_alloc | apply pw_below_drewN | apply below_drew1 | refine below_set ?_ GE127.out) | exact HB.out)) hb); have n2_ := aM' (hbox); have n3_ := aM' ((by rw [hg]; exact (below_size (by repeat (first | (with_reducible first | exact HB.out | apply below_alloc | apply pw_below_drewN | apply below_drew1 | refine below_set ?_ GE127.out) | exact HB.out))) : w.heap.size ≤ gb128)); have n4_ := aM' ((by rw [hg]; exact (below_size (by repeat (first | (with_reducible first | exact HB.out | apply below_alloc | apply pw_below_drewN | apply below_drew1 | refine below_set ?_ GE127.out) | exact HB.out))) : w.heap.size ≤ gb128)); have n5_ := aM' ((by rw [hg]; exact Nat.ne_of_lt (blk_lt (g := gb127) (o := .cells #[.bool false, .string a0_1, .string a0_2, .int .u64 a0_3, .int .u64 a0_4] 34 (0, 0)) (by (with_reducible repeat (first | refine blk_drewN ?_ _ | refine blk_drew ?_ | refine blk_alloc ?_ _)); exact BK127.out)) : gb127 ≠ gb128)); have n6_ := aM' ((by rw [hg]; exact Nat.ne_of_gt (blk_lt (g := gb127) (o := .cells #[.bool false, .string a0_1, .string a0_2, .int .u64 a0_3, .int .u64 a0_4] 34 (0, 0)) (by (with_reducible repeat (first | refine blk_drewN ?_ _ | refine blk_drew ?_ | refine blk_alloc ?_ _)); exact BK127.out)) : gb128 ≠ gb127)); clear BK127; clear HB; have BK127 := n0_; have HB := n1_; have BK128 := n2_; have GW128 := n3_; have GE128 := n4_; have NB127_128 := n5_; have NB128_127 := n6_; clear n0_ n1_ n2_ n3_ n4_ n5_ n6_; clear hb hbox hg; have hnb29 := NB128_127.out; have hnc29 := NB127_128.out; have hcz30_0 : w28.cell? ⟨gb128, 0, none⟩ = some (.int .u64 0) := (blk_cell BK128.out 0).trans rfl; have hcz30_1 : w28.cell? ⟨gb128, 1, none⟩ = some (.int .u64 0) := (blk_cell BK128.out 1).trans rfl; have hfz30_0 := blk_frozen BK128.out 0; have hfz30_1 := blk_frozen BK128.out 1; have hcz31_0 : w28.cell? ⟨gb127, 0, none⟩ = some (.bool false) := (blk_cell BK127.out 0).trans rfl; have hcz31_1 : w28.cell? ⟨gb127, 1, none⟩ = some (.string a0_1) := (blk_cell BK127.out 1).trans rfl; have hcz31_2 : w28.cell? ⟨gb127, 2, none⟩ = some (.string a0_2) := (blk_cell BK127.out 2).trans rfl; have hcz31_3 : w28.cell? ⟨gb127, 3, none⟩ = some (.int .u64 a0_3) := (blk_cell BK127.out 3).trans rfl; have hcz31_4 : w28.cell? ⟨gb127, 4, none⟩ = some (.int .u64 a0_4) := (blk_cell BK127.out 4).trans rfl; have hfz31_0 := blk_frozen BK127.out 0; have hfz31_1 := blk_frozen BK127.out 1; have hfz31_2 := blk_frozen BK127.out 2; have hfz31_3 := blk_frozen BK127.out 3; have hfz31_4 := blk_frozen BK127.out 4) | (go_at_call 28; (with_reducible refine (paymasterref07_MayId.calls k a0_1 false _ A20.out).mono ?_); rintro e w' ⟨rfl, ⟨nd, rfl⟩⟩))
   go_ret
   exact ⟨by first | rfl | (simp [errW_none, errW_some] <;> rfl) | (simp [*, errW_none, errW_some] <;> rfl), by repeat (first | (with_reducible first | exact HB.out | apply below_alloc | apply pw_below_drewN | apply below_drew1 | refine below_set ?_ GE127.out | refine below_set ?_ GE128.out) | exact HB.out)⟩
end Go.Proofs.YtlmmpncdemblbaaGreatDoor.P
namespace Go.Proofs.YtlmmpncdemblbaaGreatDoor.P
open Go.RowKit Go.Proofs.YtlmmpncdemblbaaGreatDoorW.PrintWords Go.Proofs.YtlmmpncdemblbaaGreatDoorW.PrintLast Go.Proofs.YtlmmpncdemblbaaGreatDoorW.PrintMore
attribute [local go_sem] max2_int min2_int max_two min_two max_three min_three max_four min_four-- for this text's walks alone
set_option linter.unusedVariables false
set_option linter.unusedSimpArgs false
def paymasterref17_May.j0 : Nat → Bool → ByteArray → Int → Int → Int → Option (Int)
 | 0, _, _, _, _, _ => none
 | k + 1, x10, x102000, x102001, x102002, x102003 => if x10 = true then (some 120) else (if (x102000.size : Int) < 1 then (some 70) else (if (x102000.size : Int) > 32 then (some 70) else (some 0)))
def paymasterref17_May.f (k : Nat) (a0_0 : ByteArray) (a0_1 : Int) (a0_2 : Int) (a0_3 : Int) : Option (Int) := if a0_3 < 0 then (paymasterref17_May.j0 k true a0_0 a0_1 a0_2 a0_3) else (paymasterref17_May.j0 k (decide (a0_3 > 63)) a0_0 a0_1 a0_2 a0_3)
set_option maxHeartbeats 8000000 in
set_option maxRecDepth 100000 in
theorem paymasterref17_May.calls (k : Nat) (a0_0 : ByteArray) (a0_1 : Int) (a0_2 : Int) (a0_3 : Int) (r : Int) (w : World) (h : paymasterref17_May.f k a0_0 a0_1 a0_2 a0_3 = some r) :
  Calls Tryz.prog 7 #[.agg #[.string a0_0, .int .u64 a0_1, .int .u64 a0_2, .int .i64 a0_3]] w fun e w' => e = .returned (.int .i64 r) ∧ Below w.heap.size w w' := by
 have hu26 := Tryz.underlying26
 have HB := aM' (Below.refl w.heap.size w)
 have H : (if a0_3 < 0 then (paymasterref17_May.j0 k true a0_0 a0_1 a0_2 a0_3) else (paymasterref17_May.j0 k (decide (a0_3 > 63)) a0_0 a0_1 a0_2 a0_3)) = some r := h
 clear h
 have HC2 := aM' H
 clear H
 go_enter Tryz.func7, Tryz.ntmps7
 go_upto_region 1 with (first | ((with_reducible refine gate_dst (N := 1) rfl ?_); (try (refine gate_guard (by rfl) ?_; dsimp only)); refine box_event ?hg (N := 1) ?hd (cs := #[.string a0_0, .int .u64 a0_1, .int .u64 a0_2, .int .i64 a0_3]) (t := 26) ?hr ?_; (case hd => rfl); (case hg => rfl); (case hr => first | (go_simp; done) | (go_simp; rfl)); intro gb101 hg w3 hbox hb; have n0_ := aM' (below_step (by repeat (first | (with_reducible first | exact HB.out | apply below_alloc | apply pw_below_drewN | apply below_drew1) | exact HB.out)) hb); have n1_ := aM' (hbox); have n2_ := aM' ((by rw [hg]; exact (below_size (by repeat (first | (with_reducible first | exact HB.out | apply below_alloc | apply pw_below_drewN | apply below_drew1) | exact HB.out))) : w.heap.size ≤ gb101)); have n3_ := aM' ((by rw [hg]; exact (below_size (by repeat (first | (with_reducible first | exact HB.out | apply below_alloc | apply pw_below_drewN | apply below_drew1) | exact HB.out))) : w.heap.size ≤ gb101)); clear HB; have HB := n0_; have BK101 := n1_; have GW101 := n2_; have GE101 := n3_; clear n0_ n1_ n2_ n3_; clear hb hbox hg))
 (try simp only [Act.put, List.setIfInBounds_toArray, List.set_cons_zero, List.set_cons_succ])
 go_cut [10] (fun v10 wc => ∃ (kq : Nat) (x10_1 : Bool), v10 = .bool x10_1 ∧ Aside0 (paymasterref17_May.j0 kq x10_1 a0_0 a0_1 a0_2 a0_3 = some r) ∧ Aside0 (kq ≤ k) ∧ Aside0 (wc.heap[gb101]? = some (.cells #[.string a0_0, .int .u64 a0_1, .int .u64 a0_2, .int .i64 a0_3] 26 (0, 0))) ∧ Aside0 (Below w.heap.size w wc))
 case first =>
  have H := HC2.out
  clear HC2
  by_cases c4 : a0_3 < 0
  ·
   rw [if_pos c4] at H
   have c4b0 : decide (a0_3 < 0) = true := decide_eq_true c4
   clear c4
   (first | rw [c4b0] | (simp only [i64_w, i32_w]; rw [c4b0]) | skip)
   have H' := aM' H
   clear H
   have hcz5_0 : w3.cell? ⟨gb101, 0, none⟩ = some (.string a0_0) := (blk_cell BK101.out 0).trans rfl
   have hcz5_1 : w3.cell? ⟨gb101, 1, none⟩ = some (.int .u64 a0_1) := (blk_cell BK101.out 1).trans rfl
   have hcz5_2 : w3.cell? ⟨gb101, 2, none⟩ = some (.int .u64 a0_2) := (blk_cell BK101.out 2).trans rfl
   have hcz5_3 : w3.cell? ⟨gb101, 3, none⟩ = some (.int .i64 a0_3) := (blk_cell BK101.out 3).trans rfl
   have hfz5_0 := blk_frozen BK101.out 0
   have hfz5_1 := blk_frozen BK101.out 1
   have hfz5_2 := blk_frozen BK101.out 2
   have hfz5_3 := blk_frozen BK101.out 3
   go_wp2
   go_meet
   case rel => exact ⟨_, (true), (by first | rfl | (simp; done) | (simp [*]; done)), H', ⟨by first | omega | exact Nat.le_refl _⟩, ⟨by (with_reducible repeat (first | refine blk_drewN ?_ _ | refine blk_drew ?_ | refine blk_alloc ?_ _)); exact BK101.out⟩, ⟨by repeat (first | (with_reducible first | exact HB.out | apply below_alloc | apply pw_below_drewN | apply below_drew1 | refine below_set ?_ GE101.out) | exact HB.out)⟩⟩
  ·
   rw [if_neg c4] at H
   have c4b0 : decide (a0_3 < 0) = false := decide_eq_false c4
   clear c4
   (first | rw [c4b0] | (simp only [i64_w, i32_w]; rw [c4b0]) | skip)
   have H' := aM' H
   clear H
   have hcz6_0 : w3.cell? ⟨gb101, 0, none⟩ = some (.string a0_0) := (blk_cell BK101.out 0).trans rfl
   have hcz6_1 : w3.cell? ⟨gb101, 1, none⟩ = some (.int .u64 a0_1) := (blk_cell BK101.out 1).trans rfl
   have hcz6_2 : w3.cell? ⟨gb101, 2, none⟩ = some (.int .u64 a0_2) := (blk_cell BK101.out 2).trans rfl
   have hcz6_3 : w3.cell? ⟨gb101, 3, none⟩ = some (.int .i64 a0_3) := (blk_cell BK101.out 3).trans rfl
   have hfz6_0 := blk_frozen BK101.out 0
   have hfz6_1 := blk_frozen BK101.out 1
   have hfz6_2 := blk_frozen BK101.out 2
   have hfz6_3 := blk_frozen BK101.out 3
   go_wp2
   go_meet
   case rel => exact ⟨_, (decide (a0_3 > 63)), (by first | rfl | (simp; done) | (simp [*]; done)), H', ⟨by first | omega | exact Nat.le_refl _⟩, ⟨by (with_reducible repeat (first | refine blk_drewN ?_ _ | refine blk_drew ?_ | refine blk_alloc ?_ _)); exact BK101.out⟩, ⟨by repeat (first | (with_reducible first | exact HB.out | apply below_alloc | apply pw_below_drewN | apply below_drew1 | refine below_set ?_ GE101.out) | exact HB.out)⟩⟩
 case rest =>
  clear HC2
  try clear p2
  try clear c4
  try clear c4b0
  try clear hcz5_0
  try clear hcz5_1
  try clear hcz5_2
  try clear hcz5_3
  try clear hcz6_0
  try clear hcz6_1
  try clear hcz6_2
  try clear hcz6_3
  try clear hfz5_0
  try clear hfz5_1
  try clear hfz5_2
  try clear hfz5_3
  try clear hfz6_0
  try clear hfz6_1
  try clear hfz6_2
  try clear hfz6_3
  obtain ⟨kq, x10_1, rfl, HA, HJ1, BK101, HB⟩ := hcut
  cases kq with
  | zero => exact absurd HA.out (by simp [paymasterref17_May.j0])
  | succ kj1 =>
   have H := HA.out
   clear HA
   simp only [paymasterref17_May.j0] at H
   by_cases c7 : x10_1 = true
   ·
    subst c7
    have H1 : (some 120) = some r := by rw [if_pos rfl] at H; exact H
    clear H
    have H := H1
    clear H1
    obtain rfl := Option.some.inj H
    go_wp2
    go_ret
    exact ⟨by first | rfl | (simp [errW_none, errW_some] <;> rfl) | (simp [*, errW_none, errW_some] <;> rfl), by repeat (first | (with_reducible first | exact HB.out | apply below_alloc | apply pw_below_drewN | apply below_drew1 | refine below_set ?_ GE101.out) | exact HB.out)⟩
   ·
    replace c7 := Bool.eq_false_iff.mpr c7
    subst c7
    have H1 : (if (a0_0.size : Int) < 1 then (some 70) else (if (a0_0.size : Int) > 32 then (some 70) else (some 0))) = some r := by rw [if_neg (show ¬ (false = true) by decide)] at H; exact H
    clear H
    have H := H1
    clear H1
    by_cases c8 : (a0_0.size : Int) < 1
    ·
     rw [if_pos c8] at H
     have c8b0 : decide ((a0_0.size : Int) < 1) = true := decide_eq_true c8
     have c8b1 : decide (a0_0.size < 1) = true := decide_eq_true (by omega)
     clear c8
     obtain rfl := Option.some.inj H
     have hcz9_0 : wc.cell? ⟨gb101, 0, none⟩ = some (.string a0_0) := (blk_cell BK101.out 0).trans rfl
     have hcz9_1 : wc.cell? ⟨gb101, 1, none⟩ = some (.int .u64 a0_1) := (blk_cell BK101.out 1).trans rfl
     have hcz9_2 : wc.cell? ⟨gb101, 2, none⟩ = some (.int .u64 a0_2) := (blk_cell BK101.out 2).trans rfl
     have hcz9_3 : wc.cell? ⟨gb101, 3, none⟩ = some (.int .i64 a0_3) := (blk_cell BK101.out 3).trans rfl
     have hfz9_0 := blk_frozen BK101.out 0
     have hfz9_1 := blk_frozen BK101.out 1
     have hfz9_2 := blk_frozen BK101.out 2
     have hfz9_3 := blk_frozen BK101.out 3
     go_wp2
     go_ret
     exact ⟨by first | rfl | (simp [errW_none, errW_some] <;> rfl) | (simp [*, errW_none, errW_some] <;> rfl), by repeat (first | (with_reducible first | exact HB.out | apply below_alloc | apply pw_below_drewN | apply below_drew1 | refine below_set ?_ GE101.out) | exact HB.out)⟩
    ·
     rw [if_neg c8] at H
     have c8b0 : decide ((a0_0.size : Int) < 1) = false := decide_eq_false c8
     have c8b1 : decide (a0_0.size < 1) = false := decide_eq_false (by omega)
     clear c8
     by_cases c10 : (a0_0.size : Int) > 32
     ·
      rw [if_pos c10] at H
      have c10b0 : decide (32 < (a0_0.size : Int)) = true := decide_eq_true c10
      have c10b1 : decide (32 < a0_0.size) = true := decide_eq_true (by omega)
      clear c10
      obtain rfl := Option.some.inj H
      have hcz11_0 : wc.cell? ⟨gb101, 0, none⟩ = some (.string a0_0) := (blk_cell BK101.out 0).trans rfl
      have hcz11_1 : wc.cell? ⟨gb101, 1, none⟩ = some (.int .u64 a0_1) := (blk_cell BK101.out 1).trans rfl
      have hcz11_2 : wc.cell? ⟨gb101, 2, none⟩ = some (.int .u64 a0_2) := (blk_cell BK101.out 2).trans rfl
      have hcz11_3 : wc.cell? ⟨gb101, 3, none⟩ = some (.int .i64 a0_3) := (blk_cell BK101.out 3).trans rfl
      have hfz11_0 := blk_frozen BK101.out 0
      have hfz11_1 := blk_frozen BK101.out 1
      have hfz11_2 := blk_frozen BK101.out 2
      have hfz11_3 := blk_frozen BK101.out 3
      go_wp2
      go_ret
      exact ⟨by first | rfl | (simp [errW_none, errW_some] <;> rfl) | (simp [*, errW_none, errW_some] <;> rfl), by repeat (first | (with_reducible first | exact HB.out | apply below_alloc | apply pw_below_drewN | apply below_drew1 | refine below_set ?_ GE101.out) | exact HB.out)⟩
     ·
      rw [if_neg c10] at H
      have c10b0 : decide (32 < (a0_0.size : Int)) = false := decide_eq_false c10
      have c10b1 : decide (32 < a0_0.size) = false := decide_eq_false (by omega)
      clear c10
      obtain rfl := Option.some.inj H
      have hcz12_0 : wc.cell? ⟨gb101, 0, none⟩ = some (.string a0_0) := (blk_cell BK101.out 0).trans rfl
      have hcz12_1 : wc.cell? ⟨gb101, 1, none⟩ = some (.int .u64 a0_1) := (blk_cell BK101.out 1).trans rfl
      have hcz12_2 : wc.cell? ⟨gb101, 2, none⟩ = some (.int .u64 a0_2) := (blk_cell BK101.out 2).trans rfl
      have hcz12_3 : wc.cell? ⟨gb101, 3, none⟩ = some (.int .i64 a0_3) := (blk_cell BK101.out 3).trans rfl
      have hfz12_0 := blk_frozen BK101.out 0
      have hfz12_1 := blk_frozen BK101.out 1
      have hfz12_2 := blk_frozen BK101.out 2
      have hfz12_3 := blk_frozen BK101.out 3
      go_wp2
      go_ret
      exact ⟨by first | rfl | (simp [errW_none, errW_some] <;> rfl) | (simp [*, errW_none, errW_some] <;> rfl), by repeat (first | (with_reducible first | exact HB.out | apply below_alloc | apply pw_below_drewN | apply below_drew1 | refine below_set ?_ GE101.out) | exact HB.out)⟩
end Go.Proofs.YtlmmpncdemblbaaGreatDoor.P
namespace Go.Proofs.YtlmmpncdemblbaaGreatDoor.P
open Go.RowKit Go.Proofs.YtlmmpncdemblbaaGreatDoorW.PrintWords Go.Proofs.YtlmmpncdemblbaaGreatDoorW.PrintLast Go.Proofs.YtlmmpncdemblbaaGreatDoorW.PrintMore
attribute [local go_sem] max2_int min2_int max_two min_two max_three min_three max_four min_four-- for this text's walks alone
set_option linter.unusedVariables false
set_option linter.unusedSimpArgs false
theorem eqARoot (d : Nat) (w : World) (x0 y0 : ByteArray) (x1 y1 : Int) (x2 y2 : Int) (x3 y3 : Int) :
  (Op.equalIn (d + 3) 26 (.agg #[.string x0, .int .u64 x1, .int .u64 x2, .int .i64 x3]) (.agg #[.string y0, .int .u64 y1, .int .u64 y2, .int .i64 y3])).run Tryz.prog w = .ok (x0.toList == y0.toList && ((x1 == y1 && (x2 == y2)) && (x3 == y3))) w := by
 refine eqA_of Tryz.underlying26 (by kernel_rfl) ?_
 refine eqf_cons (by rfl) (by go_simp; rfl) (by go_simp; rfl) (by go_simp) ?_
 refine eqf_cons (by rfl) (by go_simp) (by go_simp) (eqAU128 (d + 0) w _ _ _ _) ?_
 exact eqf_last (by rfl) (by go_simp; rfl) (by go_simp; rfl) (by go_simp)
end Go.Proofs.YtlmmpncdemblbaaGreatDoor.P
namespace Go.Proofs.YtlmmpncdemblbaaGreatDoor.P
open Go.RowKit Go.Proofs.YtlmmpncdemblbaaGreatDoorW.PrintWords Go.Proofs.YtlmmpncdemblbaaGreatDoorW.PrintLast Go.Proofs.YtlmmpncdemblbaaGreatDoorW.PrintMore
set_option linter.unusedVariables false
set_option linter.unusedSimpArgs false
set_option linter.unnecessarySimpa false
abbrev dots : ByteArray := ⟨#[46, 95, 45]⟩
theorem dots_dec : ∀ k, k < 3 → ((Utf8.decode dots k).1 < 128 ∧ (Utf8.decode dots k).2 = 1) := by decide
set_option maxRecDepth 100000 in
set_option maxHeartbeats 1000000 in
theorem iRune_err (w : World) : Calls Tryz.prog 91 #[.string dots, .int .i32 65533] w fun e w' => e = .returned (.int .i64 (-1)) ∧ ∃ pos, w' = w.iter dots pos := by
 go_enter Tryz.func91, Tryz.ntmps91
 go_wp2
 go_loopw [] (fun w' => ∃ pos, pos ≤ 3 ∧ w' = w.iter dots pos) (fun w' => 3 - w'.iterPos w.heap.size)
 case atStart => exact ⟨0, by omega, rfl⟩
 case round =>
  obtain ⟨pos, hp, rfl⟩ := hrel
  by_cases hlt : pos < 3
  ·
   have hnx : ∀ ty, (Instr.next (.pointer (some ⟨w.heap.size, 0, none⟩)) true ty).run Tryz.prog (w.iter dots pos) = _ := fun ty => run_next_any w dots pos ty hlt
   obtain ⟨h1, h2⟩ := dots_dec pos hlt
   have b1 : (((Utf8.decode dots pos).1 : Int) == 65533) = false := by simp; omega
   clear h1
   go_wp2
   go_roundw
   case rel => exact ⟨pos + 1, by omega, rfl⟩
   case measure => simp; omega
  ·
   obtain rfl : pos = 3 := by omega
   have hnx : ∀ ty, (Instr.next (.pointer (some ⟨w.heap.size, 0, none⟩)) true ty).run Tryz.prog (w.iter dots 3) = _ := fun ty => run_next_end w dots 3 ty (by decide)
   go_wp2
   go_ret
   exact ⟨rfl, _, rfl⟩
theorem enc2 (r : Int) (hv : Utf8.valid r = true) (h1 : 128 ≤ r) (h2 : r < 2048) : ∃ a b : UInt8, Utf8.encode r = ⟨#[a, b]⟩ ∧ 128 ≤ b.toNat := by
 refine ⟨UInt8.ofNat (192 + r.toNat / 64), UInt8.ofNat (128 + r.toNat % 64), ?_, by simp; omega⟩
 simp only [Utf8.encode, hv, if_true]; rw [if_neg (by omega), if_pos (by omega)]
theorem enc3 (r : Int) (hv : Utf8.valid r = true) (h1 : 2048 ≤ r) (h2 : r < 65536) : ∃ a b c : UInt8, Utf8.encode r = ⟨#[a, b, c]⟩ ∧ 128 ≤ c.toNat := by
 refine ⟨UInt8.ofNat (224 + r.toNat / 4096), UInt8.ofNat (128 + r.toNat / 64 % 64), UInt8.ofNat (128 + r.toNat % 64), ?_, by simp; omega⟩
 simp only [Utf8.encode, hv, if_true]; rw [if_neg (by omega), if_neg (by omega), if_pos (by omega)]
theorem enc4 (r : Int) (hv : Utf8.valid r = true) (h1 : 65536 ≤ r) : ∃ a b c d : UInt8, Utf8.encode r = ⟨#[a, b, c, d]⟩ := by
 refine ⟨UInt8.ofNat (240 + r.toNat / 262144), UInt8.ofNat (128 + r.toNat / 4096 % 64), UInt8.ofNat (128 + r.toNat / 64 % 64), UInt8.ofNat (128 + r.toNat % 64), ?_⟩
 simp only [Utf8.encode, hv, if_true]; rw [if_neg (by omega), if_neg (by omega), if_neg (by omega)]
theorem valid_lib {r : Int} (hv : Utf8.valid r = true) : Lib.validRune r = true := by
 unfold Lib.validRune; unfold Utf8.valid at hv; simp only [Bool.or_eq_true, Bool.and_eq_true, decide_eq_true_eq] at hv; rw [decide_eq_true_eq]; omega
set_option maxRecDepth 100000 in
set_option maxHeartbeats 1000000 in
theorem iRune_2 (r : Int) (hv : Utf8.valid r = true) (h1 : 128 ≤ r) (h2 : r < 2048) (hne : r ≠ 65533) (w : World) : Calls Tryz.prog 91 #[.string dots, .int .i32 r] w fun e w' => e = .returned (.int .i64 (-1)) ∧ Below w.heap.size w w' := by
 obtain ⟨a, b, hrs, hb⟩ := enc2 r hv h1 h2
 have b1 : (r == 65533) = false := by simpa using hne
 have b2 : decide (0 ≤ r) = true := decide_eq_true (by omega)
 have b3 : decide (r < 128) = false := decide_eq_false (by omega)
 have hvr := valid_lib hv
 clear hne
 go_enter Tryz.func91, Tryz.ntmps91
 go_wp2_with (go_at_call 101; refine (Tryz.utf8_ValidRune r _).mono ?_; rw [hvr]; rintro e w' ⟨rfl, hw⟩; rw [hw])
 go_step3
 go_wp2
 refine wp_loop_rounds 1 ?_
 rw [rounds_succ]
 go_wp2
 go_step3
 go_wp2
 have e1 : (((dots[1]'(by decide)).toNat : Int) != (((⟨#[a, b]⟩ : ByteArray)[1]'(show 1 < 2 by decide)).toNat : Int)) = true := by
  show ((95 : Int) != (b.toNat : Int)) = true
  simp; omega
 go_quiet (fail)
 obtain ⟨W, hW⟩ : ∃ W, W = w.drewN nq := ⟨_, rfl⟩
 rw [← hW]
 have HW : Aside0 (Below w.heap.size w W) := ⟨by rw [hW]; exact pw_below_drewN (Below.refl _ _) _⟩
 clear hW
 go_wp2
 have w2 : IntKind.i64.wrap 2 = 2 := by decide
 go_quiet ((go_at_call 100; exact Calls.quiet_of_same (Tryz.strings_IndexByte _ _ _)))
 have e2 : Lib.indexByte (dots.extract 2 3).data.toList ((((⟨#[a, b]⟩ : ByteArray)[1]'(show 1 < 2 by decide)).toNat : Int).toNat.toUInt8) = -1 := by
  show (if (45 : UInt8) == b.toNat.toUInt8 then (0 : Int) else if Lib.indexByte [] b.toNat.toUInt8 == -1 then -1 else Lib.indexByte [] b.toNat.toUInt8 + 1) = -1
  rw [if_neg (by intro h; have := congrArg UInt8.toNat (eq_of_beq h); simp at this; omega)]
  rfl
 rw [e2]
 clear e1 e2 w2
 go_wp2
 rw [Exit.noGoto_ret]
 go_wp2
 rw [Exit.noGoto_ret]
 go_ret
 exact ⟨rfl, pw_below_drewN HW.out _⟩
set_option maxRecDepth 100000 in
set_option maxHeartbeats 1000000 in
theorem iRune_3 (r : Int) (hv : Utf8.valid r = true) (h1 : 2048 ≤ r) (h2 : r < 65536) (hne : r ≠ 65533) (w : World) : Calls Tryz.prog 91 #[.string dots, .int .i32 r] w fun e w' => e = .returned (.int .i64 (-1)) ∧ Below w.heap.size w w' := by
 obtain ⟨a, b, c, hrs, hb⟩ := enc3 r hv h1 h2
 have b1 : (r == 65533) = false := by simpa using hne
 have b2 : decide (0 ≤ r) = true := decide_eq_true (by omega)
 have b3 : decide (r < 128) = false := decide_eq_false (by omega)
 have hvr := valid_lib hv
 clear hne
 go_enter Tryz.func91, Tryz.ntmps91
 go_wp2_with (go_at_call 101; refine (Tryz.utf8_ValidRune r _).mono ?_; rw [hvr]; rintro e w' ⟨rfl, hw⟩; rw [hw])
 go_step3
 go_wp2
 refine wp_loop_rounds 1 ?_
 rw [rounds_succ]
 go_wp2
 go_step3
 go_wp2
 have e1 : (((dots[2]'(by decide)).toNat : Int) != (((⟨#[a, b, c]⟩ : ByteArray)[2]'(show 2 < 3 by decide)).toNat : Int)) = true := by
  show ((45 : Int) != (c.toNat : Int)) = true
  simp; omega
 go_quiet (fail)
 obtain ⟨W, hW⟩ : ∃ W, W = w.drewN nq := ⟨_, rfl⟩
 rw [← hW]
 have HW : Aside0 (Below w.heap.size w W) := ⟨by rw [hW]; exact pw_below_drewN (Below.refl _ _) _⟩
 clear hW
 go_wp2
 have w2 : IntKind.i64.wrap 3 = 3 := by decide
 go_quiet ((go_at_call 100; exact Calls.quiet_of_same (Tryz.strings_IndexByte _ _ _)))
 have e2 : Lib.indexByte ByteArray.empty.data.toList ((((⟨#[a, b, c]⟩ : ByteArray)[2]'(show 2 < 3 by decide)).toNat : Int).toNat.toUInt8) = -1 := by
  rfl
 rw [e2]
 clear e1 e2 w2
 go_wp2
 rw [Exit.noGoto_ret]
 go_wp2
 rw [Exit.noGoto_ret]
 go_ret
 exact ⟨rfl, pw_below_drewN HW.out _⟩
set_option maxRecDepth 100000 in
set_option maxHeartbeats 1000000 in
theorem iRune_4 (r : Int) (hv : Utf8.valid r = true) (h1 : 65536 ≤ r) (hne : r ≠ 65533) (w : World) : Calls Tryz.prog 91 #[.string dots, .int .i32 r] w fun e w' => e = .returned (.int .i64 (-1)) ∧ Below w.heap.size w w' := by
 obtain ⟨a, b, c, d, hrs⟩ := enc4 r hv h1
 have b1 : (r == 65533) = false := by simpa using hne
 have b2 : decide (0 ≤ r) = true := decide_eq_true (by omega)
 have b3 : decide (r < 128) = false := decide_eq_false (by omega)
 have hvr := valid_lib hv
 clear hne
 go_enter Tryz.func91, Tryz.ntmps91
 go_wp2_with (go_at_call 101; refine (Tryz.utf8_ValidRune r _).mono ?_; rw [hvr]; rintro e w' ⟨rfl, hw⟩; rw [hw])
 go_step3
 go_wp2
 refine wp_loop_rounds 1 ?_
 rw [rounds_succ]
 go_wp2
 rw [Exit.noGoto_ret]
 go_ret
 exact ⟨rfl, Below.refl _ _⟩
theorem below_iter (w : World) (s : ByteArray) (p : Nat) : Below w.heap.size w (w.iter s p) := below_alloc (Below.refl _ _) _
theorem iRune_high (r : Int) (hv : Utf8.valid r = true) (h1 : 128 ≤ r) (w : World) : Calls Tryz.prog 91 #[.string dots, .int .i32 r] w fun e w' => e = .returned (.int .i64 (-1)) ∧ Below w.heap.size w w' := by
 by_cases hne : r = 65533
 ·
  subst hne
  exact (iRune_err w).mono fun e w' ⟨h, p, hw⟩ => ⟨h, by rw [hw]; exact below_iter w _ _⟩
 ·
  by_cases h2 : r < 2048
  ·
   exact iRune_2 r hv h1 h2 hne w
  ·
   by_cases h3 : r < 65536
   ·
    exact iRune_3 r hv (by omega) h3 hne w
   ·
    exact iRune_4 r hv (by omega) hne w
def dotI (r : Int) : Bool := decide (r = 46 ∨ r = 95 ∨ r = 45)
theorem dots_at : ∀ k : Fin 128, decide (0 ≤ Lib.indexByte dots.data.toList ((k.val : Nat) : Int).toNat.toUInt8) = dotI ((k.val : Nat) : Int) := by decide
set_option maxHeartbeats 400000 in
theorem cRune_high (r : Int) (hv : Utf8.valid r = true) (h1 : 128 ≤ r) (w : World) : Calls Tryz.prog 85 #[.string dots, .int .i32 r] w fun e w' => e = .returned (.bool false) ∧ Below w.heap.size w w' := by
 go_enter Tryz.func85, Tryz.ntmps85
 go_wp2_with fail
 refine (iRune_high r hv h1 _).mono ?_
 rintro e w1 ⟨rfl, hb⟩
 have HB := aM' hb
 clear hb
 go_wp2
 go_ret
 exact ⟨rfl, HB.out⟩
def strings_ContainsRune.f (s : ByteArray) (r : Int) : Option Bool := if s = dots ∧ Utf8.valid r = true then some (dotI r) else none
theorem strings_ContainsRune.calls (s : ByteArray) (r : Int) (b : Bool) (w : World) (h : strings_ContainsRune.f s r = some b) :
  Calls Tryz.prog 85 #[.string s, .int .i32 r] w fun e w' => e = .returned (.bool b) ∧ Below w.heap.size w w' := by
 unfold strings_ContainsRune.f at h
 split at h
 ·
  rename_i hh
  obtain ⟨rfl, hv⟩ := hh
  obtain rfl := Option.some.inj h
  by_cases h1 : r < 128
  ·
   have h0 : 0 ≤ r := by unfold Utf8.valid at hv; simp only [Bool.or_eq_true, Bool.and_eq_true, decide_eq_true_eq] at hv; omega
   obtain ⟨k, rfl⟩ := Int.eq_ofNat_of_zero_le h0
   have h3 := dots_at ⟨k, by omega⟩
   refine (Tryz.strings_ContainsRune_ascii dots (k : Int) w h0 h1).mono ?_
   rintro e w' ⟨rfl, rfl⟩
   refine ⟨?_, Below.refl _ _⟩
   rw [show decide (0 ≤ Lib.indexByte dots.data.toList ((k : Nat) : Int).toNat.toUInt8) = dotI ((k : Nat) : Int) from h3]
  ·
   have e : dotI r = false := by unfold dotI; exact decide_eq_false (by omega)
   rw [e]
   exact cRune_high r hv (by omega) w
 ·
  cases h
end Go.Proofs.YtlmmpncdemblbaaGreatDoor.P
namespace Go.Proofs.YtlmmpncdemblbaaGreatDoor.P
open Go.RowKit Go.Proofs.YtlmmpncdemblbaaGreatDoorW.PrintWords Go.Proofs.YtlmmpncdemblbaaGreatDoorW.PrintLast Go.Proofs.YtlmmpncdemblbaaGreatDoorW.PrintMore
attribute [local go_sem] max2_int min2_int max_two min_two max_three min_three max_four min_four-- for this text's walks alone
set_option linter.unusedVariables false
set_option linter.unusedSimpArgs false
def tag_within.f (a0 : Int) : Option (Bool) := if a0 ≥ 97 then (if a0 ≤ 122 then (some true) else (if a0 ≥ 65 then (if a0 ≤ 90 then (some true) else (if a0 ≥ 48 then (if a0 ≤ 57 then (some true) else ((strings_ContainsRune.f (⟨#[46, 95, 45]⟩ : ByteArray) a0).bind fun t101 => (if t101 = true then (some true) else (some (decide (a0 ≥ 161)))))) else ((strings_ContainsRune.f (⟨#[46, 95, 45]⟩ : ByteArray) a0).bind fun t102 => (if t102 = true then (some true) else (some (decide (a0 ≥ 161))))))) else (if a0 ≥ 48 then (if a0 ≤ 57 then (some true) else ((strings_ContainsRune.f (⟨#[46, 95, 45]⟩ : ByteArray) a0).bind fun t103 => (if t103 = true then (some true) else (some (decide (a0 ≥ 161)))))) else ((strings_ContainsRune.f (⟨#[46, 95, 45]⟩ : ByteArray) a0).bind fun t104 => (if t104 = true then (some true) else (some (decide (a0 ≥ 161)))))))) else (if a0 ≥ 65 then (if a0 ≤ 90 then (some true) else (if a0 ≥ 48 then (if a0 ≤ 57 then (some true) else ((strings_ContainsRune.f (⟨#[46, 95, 45]⟩ : ByteArray) a0).bind fun t105 => (if t105 = true then (some true) else (some (decide (a0 ≥ 161)))))) else ((strings_ContainsRune.f (⟨#[46, 95, 45]⟩ : ByteArray) a0).bind fun t106 => (if t106 = true then (some true) else (some (decide (a0 ≥ 161))))))) else (if a0 ≥ 48 then (if a0 ≤ 57 then (some true) else ((strings_ContainsRune.f (⟨#[46, 95, 45]⟩ : ByteArray) a0).bind fun t107 => (if t107 = true then (some true) else (some (decide (a0 ≥ 161)))))) else ((strings_ContainsRune.f (⟨#[46, 95, 45]⟩ : ByteArray) a0).bind fun t108 => (if t108 = true then (some true) else (some (decide (a0 ≥ 161)))))))
set_option maxHeartbeats 8000000 in
set_option maxRecDepth 100000 in
theorem tag_within.calls (a0 : Int) (r : Bool) (w : World) (h : tag_within.f a0 = some r) :
  Calls Tryz.prog 66 #[.int .i32 a0] w fun e w' => e = .returned (.bool r) ∧ Below w.heap.size w w' := by
 have HB := aM' (Below.refl w.heap.size w)
 have H : (if a0 ≥ 97 then (if a0 ≤ 122 then (some true) else (if a0 ≥ 65 then (if a0 ≤ 90 then (some true) else (if a0 ≥ 48 then (if a0 ≤ 57 then (some true) else ((strings_ContainsRune.f (⟨#[46, 95, 45]⟩ : ByteArray) a0).bind fun t101 => (if t101 = true then (some true) else (some (decide (a0 ≥ 161)))))) else ((strings_ContainsRune.f (⟨#[46, 95, 45]⟩ : ByteArray) a0).bind fun t102 => (if t102 = true then (some true) else (some (decide (a0 ≥ 161))))))) else (if a0 ≥ 48 then (if a0 ≤ 57 then (some true) else ((strings_ContainsRune.f (⟨#[46, 95, 45]⟩ : ByteArray) a0).bind fun t103 => (if t103 = true then (some true) else (some (decide (a0 ≥ 161)))))) else ((strings_ContainsRune.f (⟨#[46, 95, 45]⟩ : ByteArray) a0).bind fun t104 => (if t104 = true then (some true) else (some (decide (a0 ≥ 161)))))))) else (if a0 ≥ 65 then (if a0 ≤ 90 then (some true) else (if a0 ≥ 48 then (if a0 ≤ 57 then (some true) else ((strings_ContainsRune.f (⟨#[46, 95, 45]⟩ : ByteArray) a0).bind fun t105 => (if t105 = true then (some true) else (some (decide (a0 ≥ 161)))))) else ((strings_ContainsRune.f (⟨#[46, 95, 45]⟩ : ByteArray) a0).bind fun t106 => (if t106 = true then (some true) else (some (decide (a0 ≥ 161))))))) else (if a0 ≥ 48 then (if a0 ≤ 57 then (some true) else ((strings_ContainsRune.f (⟨#[46, 95, 45]⟩ : ByteArray) a0).bind fun t107 => (if t107 = true then (some true) else (some (decide (a0 ≥ 161)))))) else ((strings_ContainsRune.f (⟨#[46, 95, 45]⟩ : ByteArray) a0).bind fun t108 => (if t108 = true then (some true) else (some (decide (a0 ≥ 161)))))))) = some r := h
 clear h
 by_cases c2 : a0 ≥ 97
 ·
  rw [if_pos c2] at H
  have c2b0 : decide (97 ≤ a0) = true := decide_eq_true c2
  clear c2
  by_cases c3 : a0 ≤ 122
  ·
   rw [if_pos c3] at H
   have c3b0 : decide (a0 ≤ 122) = true := decide_eq_true c3
   clear c3
   obtain rfl := Option.some.inj H
   go_enter Tryz.func66, Tryz.ntmps66
   go_wp2
   go_ret
   exact ⟨by first | rfl | (simp [errW_none, errW_some] <;> rfl) | (simp [*, errW_none, errW_some] <;> rfl), by repeat (first | (with_reducible first | exact HB.out | apply below_alloc | apply pw_below_drewN | apply below_drew1) | exact HB.out)⟩
  ·
   rw [if_neg c3] at H
   have c3b0 : decide (a0 ≤ 122) = false := decide_eq_false c3
   clear c3
   by_cases c4 : a0 ≥ 65
   ·
    rw [if_pos c4] at H
    have c4b0 : decide (65 ≤ a0) = true := decide_eq_true c4
    clear c4
    by_cases c5 : a0 ≤ 90
    ·
     rw [if_pos c5] at H
     have c5b0 : decide (a0 ≤ 90) = true := decide_eq_true c5
     clear c5
     obtain rfl := Option.some.inj H
     go_enter Tryz.func66, Tryz.ntmps66
     go_wp2
     go_ret
     exact ⟨by first | rfl | (simp [errW_none, errW_some] <;> rfl) | (simp [*, errW_none, errW_some] <;> rfl), by repeat (first | (with_reducible first | exact HB.out | apply below_alloc | apply pw_below_drewN | apply below_drew1) | exact HB.out)⟩
    ·
     rw [if_neg c5] at H
     have c5b0 : decide (a0 ≤ 90) = false := decide_eq_false c5
     clear c5
     by_cases c6 : a0 ≥ 48
     ·
      rw [if_pos c6] at H
      have c6b0 : decide (48 ≤ a0) = true := decide_eq_true c6
      clear c6
      by_cases c7 : a0 ≤ 57
      ·
       rw [if_pos c7] at H
       have c7b0 : decide (a0 ≤ 57) = true := decide_eq_true c7
       clear c7
       obtain rfl := Option.some.inj H
       go_enter Tryz.func66, Tryz.ntmps66
       go_wp2
       go_ret
       exact ⟨by first | rfl | (simp [errW_none, errW_some] <;> rfl) | (simp [*, errW_none, errW_some] <;> rfl), by repeat (first | (with_reducible first | exact HB.out | apply below_alloc | apply pw_below_drewN | apply below_drew1) | exact HB.out)⟩
      ·
       rw [if_neg c7] at H
       have c7b0 : decide (a0 ≤ 57) = false := decide_eq_false c7
       clear c7
       replace H := Option.bind_eq_some_iff.mp H
       obtain ⟨t101, A80, H⟩ := H
       replace H : (if t101 = true then (some true) else (some (decide (a0 ≥ 161)))) = some r := H
       have A8 := aM' A80
       clear A80
       by_cases c9 : t101 = true
       ·
        subst c9
        have H1 : (some true) = some r := by rw [if_pos rfl] at H; exact H
        clear H
        have H := H1
        clear H1
        obtain rfl := Option.some.inj H
        go_enter Tryz.func66, Tryz.ntmps66
        go_wp2_with (first | (go_at_call 85; (with_reducible refine (strings_ContainsRune.calls (⟨#[46, 95, 45]⟩ : ByteArray) a0 true _ A8.out).mono ?_); rintro e w10 ⟨rfl, hb⟩; have n0_ := aM' (below_step (by repeat (first | (with_reducible first | exact HB.out | apply below_alloc | apply pw_below_drewN | apply below_drew1) | exact HB.out)) hb); clear HB; have HB := n0_; clear n0_; (try clear hb); (try clear hb2); (try clear hk); (try clear hi)))
        go_ret
        exact ⟨by first | rfl | (simp [errW_none, errW_some] <;> rfl) | (simp [*, errW_none, errW_some] <;> rfl), by repeat (first | (with_reducible first | exact HB.out | apply below_alloc | apply pw_below_drewN | apply below_drew1) | exact HB.out)⟩
       ·
        replace c9 := Bool.eq_false_iff.mpr c9
        subst c9
        have H1 : (some (decide (a0 ≥ 161))) = some r := by rw [if_neg (show ¬ (false = true) by decide)] at H; exact H
        clear H
        have H := H1
        clear H1
        obtain rfl := Option.some.inj H
        go_enter Tryz.func66, Tryz.ntmps66
        go_wp2_with (first | (go_at_call 85; (with_reducible refine (strings_ContainsRune.calls (⟨#[46, 95, 45]⟩ : ByteArray) a0 false _ A8.out).mono ?_); rintro e w11 ⟨rfl, hb⟩; have n0_ := aM' (below_step (by repeat (first | (with_reducible first | exact HB.out | apply below_alloc | apply pw_below_drewN | apply below_drew1) | exact HB.out)) hb); clear HB; have HB := n0_; clear n0_; (try clear hb); (try clear hb2); (try clear hk); (try clear hi)))
        go_ret
        exact ⟨by first | rfl | (simp [errW_none, errW_some] <;> rfl) | (simp [*, errW_none, errW_some] <;> rfl), by repeat (first | (with_reducible first | exact HB.out | apply below_alloc | apply pw_below_drewN | apply below_drew1) | exact HB.out)⟩
     ·
      rw [if_neg c6] at H
      have c6b0 : decide (48 ≤ a0) = false := decide_eq_false c6
      clear c6
      replace H := Option.bind_eq_some_iff.mp H
      obtain ⟨t102, A120, H⟩ := H
      replace H : (if t102 = true then (some true) else (some (decide (a0 ≥ 161)))) = some r := H
      have A12 := aM' A120
      clear A120
      by_cases c13 : t102 = true
      ·
       subst c13
       have H1 : (some true) = some r := by rw [if_pos rfl] at H; exact H
       clear H
       have H := H1
       clear H1
       obtain rfl := Option.some.inj H
       go_enter Tryz.func66, Tryz.ntmps66
       go_wp2_with (first | (go_at_call 85; (with_reducible refine (strings_ContainsRune.calls (⟨#[46, 95, 45]⟩ : ByteArray) a0 true _ A12.out).mono ?_); rintro e w14 ⟨rfl, hb⟩; have n0_ := aM' (below_step (by repeat (first | (with_reducible first | exact HB.out | apply below_alloc | apply pw_below_drewN | apply below_drew1) | exact HB.out)) hb); clear HB; have HB := n0_; clear n0_; (try clear hb); (try clear hb2); (try clear hk); (try clear hi)))
       go_ret
       exact ⟨by first | rfl | (simp [errW_none, errW_some] <;> rfl) | (simp [*, errW_none, errW_some] <;> rfl), by repeat (first | (with_reducible first | exact HB.out | apply below_alloc | apply pw_below_drewN | apply below_drew1) | exact HB.out)⟩
      ·
       replace c13 := Bool.eq_false_iff.mpr c13
       subst c13
       have H1 : (some (decide (a0 ≥ 161))) = some r := by rw [if_neg (show ¬ (false = true) by decide)] at H; exact H
       clear H
       have H := H1
       clear H1
       obtain rfl := Option.some.inj H
       go_enter Tryz.func66, Tryz.ntmps66
       go_wp2_with (first | (go_at_call 85; (with_reducible refine (strings_ContainsRune.calls (⟨#[46, 95, 45]⟩ : ByteArray) a0 false _ A12.out).mono ?_); rintro e w15 ⟨rfl, hb⟩; have n0_ := aM' (below_step (by repeat (first | (with_reducible first | exact HB.out | apply below_alloc | apply pw_below_drewN | apply below_drew1) | exact HB.out)) hb); clear HB; have HB := n0_; clear n0_; (try clear hb); (try clear hb2); (try clear hk); (try clear hi)))
       go_ret
       exact ⟨by first | rfl | (simp [errW_none, errW_some] <;> rfl) | (simp [*, errW_none, errW_some] <;> rfl), by repeat (first | (with_reducible first | exact HB.out | apply below_alloc | apply pw_below_drewN | apply below_drew1) | exact HB.out)⟩
   ·
    rw [if_neg c4] at H
    have c4b0 : decide (65 ≤ a0) = false := decide_eq_false c4
    clear c4
    by_cases c16 : a0 ≥ 48
    ·
     rw [if_pos c16] at H
     have c16b0 : decide (48 ≤ a0) = true := decide_eq_true c16
     clear c16
     by_cases c17 : a0 ≤ 57
     ·
      rw [if_pos c17] at H
      have c17b0 : decide (a0 ≤ 57) = true := decide_eq_true c17
      clear c17
      obtain rfl := Option.some.inj H
      go_enter Tryz.func66, Tryz.ntmps66
      go_wp2
      go_ret
      exact ⟨by first | rfl | (simp [errW_none, errW_some] <;> rfl) | (simp [*, errW_none, errW_some] <;> rfl), by repeat (first | (with_reducible first | exact HB.out | apply below_alloc | apply pw_below_drewN | apply below_drew1) | exact HB.out)⟩
     ·
      rw [if_neg c17] at H
      have c17b0 : decide (a0 ≤ 57) = false := decide_eq_false c17
      clear c17
      replace H := Option.bind_eq_some_iff.mp H
      obtain ⟨t103, A180, H⟩ := H
      replace H : (if t103 = true then (some true) else (some (decide (a0 ≥ 161)))) = some r := H
      have A18 := aM' A180
      clear A180
      by_cases c19 : t103 = true
      ·
       subst c19
       have H1 : (some true) = some r := by rw [if_pos rfl] at H; exact H
       clear H
       have H := H1
       clear H1
       obtain rfl := Option.some.inj H
       go_enter Tryz.func66, Tryz.ntmps66
       go_wp2_with (first | (go_at_call 85; (with_reducible refine (strings_ContainsRune.calls (⟨#[46, 95, 45]⟩ : ByteArray) a0 true _ A18.out).mono ?_); rintro e w20 ⟨rfl, hb⟩; have n0_ := aM' (below_step (by repeat (first | (with_reducible first | exact HB.out | apply below_alloc | apply pw_below_drewN | apply below_drew1) | exact HB.out)) hb); clear HB; have HB := n0_; clear n0_; (try clear hb); (try clear hb2); (try clear hk); (try clear hi)))
       go_ret
       exact ⟨by first | rfl | (simp [errW_none, errW_some] <;> rfl) | (simp [*, errW_none, errW_some] <;> rfl), by repeat (first | (with_reducible first | exact HB.out | apply below_alloc | apply pw_below_drewN | apply below_drew1) | exact HB.out)⟩
      ·
       replace c19 := Bool.eq_false_iff.mpr c19
       subst c19
       have H1 : (some (decide (a0 ≥ 161))) = some r := by rw [if_neg (show ¬ (false = true) by decide)] at H; exact H
       clear H
       have H := H1
       clear H1
       obtain rfl := Option.some.inj H
       go_enter Tryz.func66, Tryz.ntmps66
       go_wp2_with (first | (go_at_call 85; (with_reducible refine (strings_ContainsRune.calls (⟨#[46, 95, 45]⟩ : ByteArray) a0 false _ A18.out).mono ?_); rintro e w21 ⟨rfl, hb⟩; have n0_ := aM' (below_step (by repeat (first | (with_reducible first | exact HB.out | apply below_alloc | apply pw_below_drewN | apply below_drew1) | exact HB.out)) hb); clear HB; have HB := n0_; clear n0_; (try clear hb); (try clear hb2); (try clear hk); (try clear hi)))
       go_ret
       exact ⟨by first | rfl | (simp [errW_none, errW_some] <;> rfl) | (simp [*, errW_none, errW_some] <;> rfl), by repeat (first | (with_reducible first | exact HB.out | apply below_alloc | apply pw_below_drewN | apply below_drew1) | exact HB.out)⟩
    ·
     rw [if_neg c16] at H
     have c16b0 : decide (48 ≤ a0) = false := decide_eq_false c16
     clear c16
     replace H := Option.bind_eq_some_iff.mp H
     obtain ⟨t104, A220, H⟩ := H
     replace H : (if t104 = true then (some true) else (some (decide (a0 ≥ 161)))) = some r := H
     have A22 := aM' A220
     clear A220
     by_cases c23 : t104 = true
     ·
      subst c23
      have H1 : (some true) = some r := by rw [if_pos rfl] at H; exact H
      clear H
      have H := H1
      clear H1
      obtain rfl := Option.some.inj H
      go_enter Tryz.func66, Tryz.ntmps66
      go_wp2_with (first | (go_at_call 85; (with_reducible refine (strings_ContainsRune.calls (⟨#[46, 95, 45]⟩ : ByteArray) a0 true _ A22.out).mono ?_); rintro e w24 ⟨rfl, hb⟩; have n0_ := aM' (below_step (by repeat (first | (with_reducible first | exact HB.out | apply below_alloc | apply pw_below_drewN | apply below_drew1) | exact HB.out)) hb); clear HB; have HB := n0_; clear n0_; (try clear hb); (try clear hb2); (try clear hk); (try clear hi)))
      go_ret
      exact ⟨by first | rfl | (simp [errW_none, errW_some] <;> rfl) | (simp [*, errW_none, errW_some] <;> rfl), by repeat (first | (with_reducible first | exact HB.out | apply below_alloc | apply pw_below_drewN | apply below_drew1) | exact HB.out)⟩
     ·
      replace c23 := Bool.eq_false_iff.mpr c23
      subst c23
      have H1 : (some (decide (a0 ≥ 161))) = some r := by rw [if_neg (show ¬ (false = true) by decide)] at H; exact H
      clear H
      have H := H1
      clear H1
      obtain rfl := Option.some.inj H
      go_enter Tryz.func66, Tryz.ntmps66
      go_wp2_with (first | (go_at_call 85; (with_reducible refine (strings_ContainsRune.calls (⟨#[46, 95, 45]⟩ : ByteArray) a0 false _ A22.out).mono ?_); rintro e w25 ⟨rfl, hb⟩; have n0_ := aM' (below_step (by repeat (first | (with_reducible first | exact HB.out | apply below_alloc | apply pw_below_drewN | apply below_drew1) | exact HB.out)) hb); clear HB; have HB := n0_; clear n0_; (try clear hb); (try clear hb2); (try clear hk); (try clear hi)))
      go_ret
      exact ⟨by first | rfl | (simp [errW_none, errW_some] <;> rfl) | (simp [*, errW_none, errW_some] <;> rfl), by repeat (first | (with_reducible first | exact HB.out | apply below_alloc | apply pw_below_drewN | apply below_drew1) | exact HB.out)⟩
 ·
  rw [if_neg c2] at H
  have c2b0 : decide (97 ≤ a0) = false := decide_eq_false c2
  clear c2
  by_cases c26 : a0 ≥ 65
  ·
   rw [if_pos c26] at H
   have c26b0 : decide (65 ≤ a0) = true := decide_eq_true c26
   clear c26
   by_cases c27 : a0 ≤ 90
   ·
    rw [if_pos c27] at H
    have c27b0 : decide (a0 ≤ 90) = true := decide_eq_true c27
    clear c27
    obtain rfl := Option.some.inj H
    go_enter Tryz.func66, Tryz.ntmps66
    go_wp2
    go_ret
    exact ⟨by first | rfl | (simp [errW_none, errW_some] <;> rfl) | (simp [*, errW_none, errW_some] <;> rfl), by repeat (first | (with_reducible first | exact HB.out | apply below_alloc | apply pw_below_drewN | apply below_drew1) | exact HB.out)⟩
   ·
    rw [if_neg c27] at H
    have c27b0 : decide (a0 ≤ 90) = false := decide_eq_false c27
    clear c27
    by_cases c28 : a0 ≥ 48
    ·
     rw [if_pos c28] at H
     have c28b0 : decide (48 ≤ a0) = true := decide_eq_true c28
     clear c28
     by_cases c29 : a0 ≤ 57
     ·
      rw [if_pos c29] at H
      have c29b0 : decide (a0 ≤ 57) = true := decide_eq_true c29
      clear c29
      obtain rfl := Option.some.inj H
      go_enter Tryz.func66, Tryz.ntmps66
      go_wp2
      go_ret
      exact ⟨by first | rfl | (simp [errW_none, errW_some] <;> rfl) | (simp [*, errW_none, errW_some] <;> rfl), by repeat (first | (with_reducible first | exact HB.out | apply below_alloc | apply pw_below_drewN | apply below_drew1) | exact HB.out)⟩
     ·
      rw [if_neg c29] at H
      have c29b0 : decide (a0 ≤ 57) = false := decide_eq_false c29
      clear c29
      replace H := Option.bind_eq_some_iff.mp H
      obtain ⟨t105, A300, H⟩ := H
      replace H : (if t105 = true then (some true) else (some (decide (a0 ≥ 161)))) = some r := H
      have A30 := aM' A300
      clear A300
      by_cases c31 : t105 = true
      ·
       subst c31
       have H1 : (some true) = some r := by rw [if_pos rfl] at H; exact H
       clear H
       have H := H1
       clear H1
       obtain rfl := Option.some.inj H
       go_enter Tryz.func66, Tryz.ntmps66
       go_wp2_with (first | (go_at_call 85; (with_reducible refine (strings_ContainsRune.calls (⟨#[46, 95, 45]⟩ : ByteArray) a0 true _ A30.out).mono ?_); rintro e w32 ⟨rfl, hb⟩; have n0_ := aM' (below_step (by repeat (first | (with_reducible first | exact HB.out | apply below_alloc | apply pw_below_drewN | apply below_drew1) | exact HB.out)) hb); clear HB; have HB := n0_; clear n0_; (try clear hb); (try clear hb2); (try clear hk); (try clear hi)))
       go_ret
       exact ⟨by first | rfl | (simp [errW_none, errW_some] <;> rfl) | (simp [*, errW_none, errW_some] <;> rfl), by repeat (first | (with_reducible first | exact HB.out | apply below_alloc | apply pw_below_drewN | apply below_drew1) | exact HB.out)⟩
      ·
       replace c31 := Bool.eq_false_iff.mpr c31
       subst c31
       have H1 : (some (decide (a0 ≥ 161))) = some r := by rw [if_neg (show ¬ (false = true) by decide)] at H; exact H
       clear H
       have H := H1
       clear H1
       obtain rfl := Option.some.inj H
       go_enter Tryz.func66, Tryz.ntmps66
       go_wp2_with (first | (go_at_call 85; (with_reducible refine (strings_ContainsRune.calls (⟨#[46, 95, 45]⟩ : ByteArray) a0 false _ A30.out).mono ?_); rintro e w33 ⟨rfl, hb⟩; have n0_ := aM' (below_step (by repeat (first | (with_reducible first | exact HB.out | apply below_alloc | apply pw_below_drewN | apply below_drew1) | exact HB.out)) hb); clear HB; have HB := n0_; clear n0_; (try clear hb); (try clear hb2); (try clear hk); (try clear hi)))
       go_ret
       exact ⟨by first | rfl | (simp [errW_none, errW_some] <;> rfl) | (simp [*, errW_none, errW_some] <;> rfl), by repeat (first | (with_reducible first | exact HB.out | apply below_alloc | apply pw_below_drewN | apply below_drew1) | exact HB.out)⟩
    ·
     rw [if_neg c28] at H
     have c28b0 : decide (48 ≤ a0) = false := decide_eq_false c28
     clear c28
     replace H := Option.bind_eq_some_iff.mp H
     obtain ⟨t106, A340, H⟩ := H
     replace H : (if t106 = true then (some true) else (some (decide (a0 ≥ 161)))) = some r := H
     have A34 := aM' A340
     clear A340
     by_cases c35 : t106 = true
     ·
      subst c35
      have H1 : (some true) = some r := by rw [if_pos rfl] at H; exact H
      clear H
      have H := H1
      clear H1
      obtain rfl := Option.some.inj H
      go_enter Tryz.func66, Tryz.ntmps66
      go_wp2_with (first | (go_at_call 85; (with_reducible refine (strings_ContainsRune.calls (⟨#[46, 95, 45]⟩ : ByteArray) a0 true _ A34.out).mono ?_); rintro e w36 ⟨rfl, hb⟩; have n0_ := aM' (below_step (by repeat (first | (with_reducible first | exact HB.out | apply below_alloc | apply pw_below_drewN | apply below_drew1) | exact HB.out)) hb); clear HB; have HB := n0_; clear n0_; (try clear hb); (try clear hb2); (try clear hk); (try clear hi)))
      go_ret
      exact ⟨by first | rfl | (simp [errW_none, errW_some] <;> rfl) | (simp [*, errW_none, errW_some] <;> rfl), by repeat (first | (with_reducible first | exact HB.out | apply below_alloc | apply pw_below_drewN | apply below_drew1) | exact HB.out)⟩
     ·
      replace c35 := Bool.eq_false_iff.mpr c35
      subst c35
      have H1 : (some (decide (a0 ≥ 161))) = some r := by rw [if_neg (show ¬ (false = true) by decide)] at H; exact H
      clear H
      have H := H1
      clear H1
      obtain rfl := Option.some.inj H
      go_enter Tryz.func66, Tryz.ntmps66
      go_wp2_with (first | (go_at_call 85; (with_reducible refine (strings_ContainsRune.calls (⟨#[46, 95, 45]⟩ : ByteArray) a0 false _ A34.out).mono ?_); rintro e w37 ⟨rfl, hb⟩; have n0_ := aM' (below_step (by repeat (first | (with_reducible first | exact HB.out | apply below_alloc | apply pw_below_drewN | apply below_drew1) | exact HB.out)) hb); clear HB; have HB := n0_; clear n0_; (try clear hb); (try clear hb2); (try clear hk); (try clear hi)))
      go_ret
      exact ⟨by first | rfl | (simp [errW_none, errW_some] <;> rfl) | (simp [*, errW_none, errW_some] <;> rfl), by repeat (first | (with_reducible first | exact HB.out | apply below_alloc | apply pw_below_drewN | apply below_drew1) | exact HB.out)⟩
  ·
   rw [if_neg c26] at H
   have c26b0 : decide (65 ≤ a0) = false := decide_eq_false c26
   clear c26
   by_cases c38 : a0 ≥ 48
   ·
    rw [if_pos c38] at H
    have c38b0 : decide (48 ≤ a0) = true := decide_eq_true c38
    clear c38
    by_cases c39 : a0 ≤ 57
    ·
     rw [if_pos c39] at H
     have c39b0 : decide (a0 ≤ 57) = true := decide_eq_true c39
     clear c39
     obtain rfl := Option.some.inj H
     go_enter Tryz.func66, Tryz.ntmps66
     go_wp2
     go_ret
     exact ⟨by first | rfl | (simp [errW_none, errW_some] <;> rfl) | (simp [*, errW_none, errW_some] <;> rfl), by repeat (first | (with_reducible first | exact HB.out | apply below_alloc | apply pw_below_drewN | apply below_drew1) | exact HB.out)⟩
    ·
     rw [if_neg c39] at H
     have c39b0 : decide (a0 ≤ 57) = false := decide_eq_false c39
     clear c39
     replace H := Option.bind_eq_some_iff.mp H
     obtain ⟨t107, A400, H⟩ := H
     replace H : (if t107 = true then (some true) else (some (decide (a0 ≥ 161)))) = some r := H
     have A40 := aM' A400
     clear A400
     by_cases c41 : t107 = true
     ·
      subst c41
      have H1 : (some true) = some r := by rw [if_pos rfl] at H; exact H
      clear H
      have H := H1
      clear H1
      obtain rfl := Option.some.inj H
      go_enter Tryz.func66, Tryz.ntmps66
      go_wp2_with (first | (go_at_call 85; (with_reducible refine (strings_ContainsRune.calls (⟨#[46, 95, 45]⟩ : ByteArray) a0 true _ A40.out).mono ?_); rintro e w42 ⟨rfl, hb⟩; have n0_ := aM' (below_step (by repeat (first | (with_reducible first | exact HB.out | apply below_alloc | apply pw_below_drewN | apply below_drew1) | exact HB.out)) hb); clear HB; have HB := n0_; clear n0_; (try clear hb); (try clear hb2); (try clear hk); (try clear hi)))
      go_ret
      exact ⟨by first | rfl | (simp [errW_none, errW_some] <;> rfl) | (simp [*, errW_none, errW_some] <;> rfl), by repeat (first | (with_reducible first | exact HB.out | apply below_alloc | apply pw_below_drewN | apply below_drew1) | exact HB.out)⟩
     ·
      replace c41 := Bool.eq_false_iff.mpr c41
      subst c41
      have H1 : (some (decide (a0 ≥ 161))) = some r := by rw [if_neg (show ¬ (false = true) by decide)] at H; exact H
      clear H
      have H := H1
      clear H1
      obtain rfl := Option.some.inj H
      go_enter Tryz.func66, Tryz.ntmps66
      go_wp2_with (first | (go_at_call 85; (with_reducible refine (strings_ContainsRune.calls (⟨#[46, 95, 45]⟩ : ByteArray) a0 false _ A40.out).mono ?_); rintro e w43 ⟨rfl, hb⟩; have n0_ := aM' (below_step (by repeat (first | (with_reducible first | exact HB.out | apply below_alloc | apply pw_below_drewN | apply below_drew1) | exact HB.out)) hb); clear HB; have HB := n0_; clear n0_; (try clear hb); (try clear hb2); (try clear hk); (try clear hi)))
      go_ret
      exact ⟨by first | rfl | (simp [errW_none, errW_some] <;> rfl) | (simp [*, errW_none, errW_some] <;> rfl), by repeat (first | (with_reducible first | exact HB.out | apply below_alloc | apply pw_below_drewN | apply below_drew1) | exact HB.out)⟩
   ·
    rw [if_neg c38] at H
    have c38b0 : decide (48 ≤ a0) = false := decide_eq_false c38
    clear c38
    replace H := Option.bind_eq_some_iff.mp H
    obtain ⟨t108, A440, H⟩ := H
    replace H : (if t108 = true then (some true) else (some (decide (a0 ≥ 161)))) = some r := H
    have A44 := aM' A440
    clear A440
    by_cases c45 : t108 = true
    ·
     subst c45
     have H1 : (some true) = some r := by rw [if_pos rfl] at H; exact H
     clear H
     have H := H1
     clear H1
     obtain rfl := Option.some.inj H
     go_enter Tryz.func66, Tryz.ntmps66
     go_wp2_with (first | (go_at_call 85; (with_reducible refine (strings_ContainsRune.calls (⟨#[46, 95, 45]⟩ : ByteArray) a0 true _ A44.out).mono ?_); rintro e w46 ⟨rfl, hb⟩; have n0_ := aM' (below_step (by repeat (first | (with_reducible first | exact HB.out | apply below_alloc | apply pw_below_drewN | apply below_drew1) | exact HB.out)) hb); clear HB; have HB := n0_; clear n0_; (try clear hb); (try clear hb2); (try clear hk); (try clear hi)))
     go_ret
     exact ⟨by first | rfl | (simp [errW_none, errW_some] <;> rfl) | (simp [*, errW_none, errW_some] <;> rfl), by repeat (first | (with_reducible first | exact HB.out | apply below_alloc | apply pw_below_drewN | apply below_drew1) | exact HB.out)⟩
    ·
     replace c45 := Bool.eq_false_iff.mpr c45
     subst c45
     have H1 : (some (decide (a0 ≥ 161))) = some r := by rw [if_neg (show ¬ (false = true) by decide)] at H; exact H
     clear H
     have H := H1
     clear H1
     obtain rfl := Option.some.inj H
     go_enter Tryz.func66, Tryz.ntmps66
     go_wp2_with (first | (go_at_call 85; (with_reducible refine (strings_ContainsRune.calls (⟨#[46, 95, 45]⟩ : ByteArray) a0 false _ A44.out).mono ?_); rintro e w47 ⟨rfl, hb⟩; have n0_ := aM' (below_step (by repeat (first | (with_reducible first | exact HB.out | apply below_alloc | apply pw_below_drewN | apply below_drew1) | exact HB.out)) hb); clear HB; have HB := n0_; clear n0_; (try clear hb); (try clear hb2); (try clear hk); (try clear hi)))
     go_ret
     exact ⟨by first | rfl | (simp [errW_none, errW_some] <;> rfl) | (simp [*, errW_none, errW_some] <;> rfl), by repeat (first | (with_reducible first | exact HB.out | apply below_alloc | apply pw_below_drewN | apply below_drew1) | exact HB.out)⟩
end Go.Proofs.YtlmmpncdemblbaaGreatDoor.P
namespace Go.Proofs
open Go.Shelf
def Tryz.laysValid_ren : Go.Shelf.Ren := ⟨fun | 196 => 65 | 259 => 84 | n => n, fun | 9 => 9 | 4 => 4 | 3 => 3 | 5 => 5 | 12 => 12 | 119 => 118 | 0 => 0 | 46 => 122 | 139 => 121 | 138 => 120 | 53 => 22 | n => n, fun | 3 => 0 | 4 => 1 | n => n⟩
theorem Tryz.laysValid : Go.Proofs.Lays.n196 Tryz.prog Tryz.laysValid_ren := {
 mixed := by kernel_rfl
 f196 := Tryz.func65.trans (congrArg some (by kernel_rfl))
 f259 := Tryz.func84.trans (congrArg some (by kernel_rfl))
 t0 := Tryz.underlying0
 a0 := Tryz.isAgg0
 z0 := Tryz.sizeOf0
 v0 := Tryz.zeroValue0
 t3 := Tryz.underlying3
 a3 := Tryz.isAgg3
 z3 := Tryz.sizeOf3
 v3 := Tryz.zeroValue3
 t4 := Tryz.underlying4
 a4 := Tryz.isAgg4
 z4 := Tryz.sizeOf4
 v4 := Tryz.zeroValue4
 t5 := Tryz.underlying5
 a5 := Tryz.isAgg5
 z5 := Tryz.sizeOf5
 v5 := Tryz.zeroValue5
 t9 := Tryz.underlying9
 a9 := Tryz.isAgg9
 z9 := Tryz.sizeOf9
 v9 := Tryz.zeroValue9
 t12 := Tryz.underlying12
 a12 := Tryz.isAgg12
 z12 := Tryz.sizeOf12
 v12 := Tryz.zeroValue12
 t46 := Tryz.underlying122
 a46 := Tryz.isAgg122
 z46 := Tryz.sizeOf122
 v46 := Tryz.zeroValue122
 t53 := Tryz.underlying22
 a53 := Tryz.isAgg22
 z53 := Tryz.sizeOf22
 v53 := Tryz.zeroValue22
 t119 := Tryz.underlying118
 a119 := Tryz.isAgg118
 z119 := Tryz.sizeOf118
 t138 := Tryz.underlying120
 a138 := Tryz.isAgg120
 z138 := Tryz.sizeOf120
 v138 := Tryz.zeroValue120
 t139 := Tryz.underlying121
 a139 := Tryz.isAgg121
 z139 := Tryz.sizeOf121
 v139 := Tryz.zeroValue121
 g3 := by kernel_rfl
 g4 := by kernel_rfl }
open Go.RowKit in
theorem Tryz.utf8_ValidString (s : ByteArray) (w : World) (hs : s.size ≤ 9223372036854775807) (hT : Lib.Utf8Tabs (Tryz.laysValid_ren.g 3) (Tryz.laysValid_ren.g 4) w) :
  Calls Tryz.prog 65 #[.string s] w fun e w' => e = .returned (.bool (Lib.validD s.data.toList)) ∧ Below w.heap.size w w' := Any.utf8_ValidString Tryz.laysValid s w hs hT
end Go.Proofs
namespace Go.Proofs.YtlmmpncdemblbaaGreatDoor.P
open Go.RowKit Go.Proofs.YtlmmpncdemblbaaGreatDoorW.PrintWords Go.Proofs.YtlmmpncdemblbaaGreatDoorW.PrintLast Go.Proofs.YtlmmpncdemblbaaGreatDoorW.PrintMore
set_option linter.unusedVariables false
set_option linter.unusedSimpArgs false
set_option linter.unnecessarySimpa false
def Tabs (w : World) : Prop := Lib.Utf8Tabs (Tryz.laysValid_ren.g 3) (Tryz.laysValid_ren.g 4) w
def LaidT (w : World) : Prop := Laid w ∧ Tabs w
theorem LaidT.below {w w1 : World} (h : LaidT w) (hb : Below w.heap.size w w1) : LaidT w1 := ⟨h.1.below hb, Utf8Tabs_below h.2 hb⟩
abbrev laid3 : List (String × DataW Unit) := [("paymaster/block.constants", Rows.laid_paymaster_block_constants), ("unicode/utf8.acceptRanges", Rows.laid_unicode_utf8_acceptRanges), ("unicode/utf8.first", Rows.laid_unicode_utf8_first)]
theorem kConst_of_reads {w : World} (h : Lib.VarReads Tryz.prog w "paymaster/block.constants" Rows.laid_paymaster_block_constants) : Laid w := by
 obtain ⟨g, t, cs, fuel, p, hg, ht, hv, htr⟩ := h
 obtain rfl : g = 3 := Option.some.inj (hg.symm.trans kGlobal)
 obtain rfl : t = 132 := Option.some.inj (ht.symm.trans kGlobalType)
 have e : Rows.laid_paymaster_block_constants = Lib.tabData (H := Unit) .u32 kConst := by rfl
 rw [e] at htr
 have hc := Lib.cells_of_tab Tryz.underlying132 Tryz.underlying113 (by kernel_rfl) (by kernel_rfl) htr
 intro i hi
 rw [World.var?_cell kGlobal hv i]
 have hl : i < kConst.length := hi
 rw [← Array.getElem?_toList, hc, List.getElem?_map, List.getElem?_eq_getElem hl]
 simp [List.getD, List.getElem?_eq_getElem hl]
theorem accept_data : Rows.laid_unicode_utf8_acceptRanges = Lib.acceptData := by kernel_rfl
theorem first_data : Rows.laid_unicode_utf8_first = Lib.firstData := by kernel_rfl
theorem laidT_of_met {w : World} (h : laidMetH Tryz.prog laid3 w) : LaidT w := by
 have h : laidMet Tryz.prog laid3 w := h
 refine ⟨kConst_of_reads (Lib.laidMet.reads h (.head _)), ?_⟩
 have h1 := Lib.laidMet.reads h (.tail _ (.head _))
 have h2 := Lib.laidMet.reads h (.tail _ (.tail _ (.head _)))
 rw [accept_data] at h1
 rw [first_data] at h2
 exact utf8Tabs_of_readsT (U8Types.of196 Tryz.laysValid) ⟨by kernel_rfl, by kernel_rfl, by kernel_rfl, by kernel_rfl, by kernel_rfl, by kernel_rfl, by kernel_rfl⟩ h2 h1
noncomputable def laidWorldT (os : Os) : World := World.laidAll Tryz.prog os laid3
theorem laidWorldT_met (os : Os) (args : Array Value) : laidMetH Tryz.prog laid3 ((laidWorldT os).forCall (fun _ _ => 0) ⟨#[], args, []⟩).memory := laidMet_laidAll args (by kernel_rfl) (by kernel_rfl)
end Go.Proofs.YtlmmpncdemblbaaGreatDoor.P
namespace Go.Proofs.YtlmmpncdemblbaaGreatDoor.P
open Go.RowKit Go.Proofs.YtlmmpncdemblbaaGreatDoorW.PrintWords Go.Proofs.YtlmmpncdemblbaaGreatDoorW.PrintLast Go.Proofs.YtlmmpncdemblbaaGreatDoorW.PrintMore
set_option linter.unusedVariables false
set_option linter.unusedSimpArgs false
set_option linter.unnecessarySimpa false
def runeOf (d : Nat × Nat) : Int × Int := if d.1 = 65533 ∧ d.2 = 1 then (0, 0) else ((d.1 : Int), (d.2 : Int))
def runeI (s : ByteArray) (i : Nat) : Int × Int := runeOf (Utf8.decode s i)
theorem runeOf_bad : runeOf (65533, 1) = (0, 0) := rfl
theorem runeOf_ok (c w : Nat) (h : w ≠ 1) : runeOf (c, w) = ((c : Int), (w : Int)) := by unfold runeOf; rw [if_neg (fun q => h q.2)]
theorem get_nat (s : ByteArray) (i : Nat) (h : i < s.size) : s.get! i = s[i]'h := by simp [ByteArray.get!, getElem!_pos, h]; rfl
theorem bt_nat (s : ByteArray) (i : Nat) (h : i < s.size) : bt s (i : Int) = ((s.get! i).toNat : Int) := by
 unfold bt; rw [dif_pos (by simpa using h)]; simp [get_nat s i h]
theorem refTail (s : ByteArray) (hs : s.size ≤ 1000000) (i : Nat) (hi : i < s.size) (many n least j : Nat) (hj : 1 ≤ j) (hjm : j ≤ many) (hn : n < 4194304) (k : Nat) (hm : many ≤ 4) :
  paymasterref07_Rune.l0 (k + 1) s (i : Int) (many : Int) (n : Int) (least : Int) (j : Int) =
   if j < many then (if i + j < s.size ∧ (s.get! (i + j)).toNat / 64 = 2 then paymasterref07_Rune.l0 k s (i : Int) (many : Int) ((64 * n + (s.get! (i + j)).toNat % 64 : Nat) : Int) (least : Int) ((j + 1 : Nat) : Int) else some (0, 0))
   else (if n < least ∨ 1114111 < n ∨ (55296 ≤ n ∧ n < 57344) then some (0, 0) else some ((n : Int), (many : Int))) := by
 have hb := (s.get! (i + j)).toNat_lt
 simp only [paymasterref07_Rune.l0]
 by_cases h1 : j < many
 ·
  rw [if_pos (by omega), if_pos h1]
  by_cases h2 : i + j < s.size
  ·
   have e : wrap64 ((i : Int) + (j : Int)) = ((i + j : Nat) : Int) := by rw [wrap64_id (by omega) (by omega)]; omega
   rw [e, if_neg (by omega), if_pos (by omega), if_pos (by omega), bt_nat s _ h2]
   by_cases h3 : (s.get! (i + j)).toNat < 128
   ·
    rw [if_pos (by omega), if_neg (by omega)]
   ·
    by_cases h4 : 192 ≤ (s.get! (i + j)).toNat
    ·
     rw [if_neg (by omega), if_pos (by omega), if_neg (by omega)]
    ·
     rw [if_neg (by omega), if_neg (by omega), if_pos (by omega)]
     congr 1
     ·
      rw [wrap64_id (x := (((s.get! (i + j)).toNat : Nat) : Int)) (by omega) (by omega), wrap64_id (x := 64 * (n : Int)) (by omega) (by omega), wrap64_id (x := 64 * (n : Int) + _) (by omega) (by omega), wrap64_id (by omega) (by omega)]; omega
     ·
      rw [wrap64_id (by omega) (by omega)]; omega
  ·
   have e : wrap64 ((i : Int) + (j : Int)) = ((i + j : Nat) : Int) := by rw [wrap64_id (by omega) (by omega)]; omega
   rw [e, if_pos (by omega), if_neg (by omega)]
 ·
  rw [if_neg (by omega), if_neg h1]
  by_cases a1 : n < least
  ·
   rw [if_pos (by omega), if_pos (by omega)]
  ·
   by_cases a2 : 1114111 < n
   ·
    rw [if_neg (by omega), if_pos (by omega), if_pos (by omega)]
   ·
    by_cases a3 : 55296 ≤ n
    ·
     by_cases a4 : n < 57344
     ·
      rw [if_neg (by omega), if_neg (by omega), if_pos (by omega), if_pos (by omega), if_pos (by omega)]
     ·
      rw [if_neg (by omega), if_neg (by omega), if_pos (by omega), if_neg (by omega), if_neg (by omega)]
    ·
     rw [if_neg (by omega), if_neg (by omega), if_neg (by omega), if_neg (by omega)]
theorem refTail_ev {s : ByteArray} (hs : s.size ≤ 1000000) {i : Nat} (hi : i < s.size) {many n least j : Nat} (hj : 1 ≤ j) (hjm : j ≤ many) (hn : n < 4194304) (hm : many ≤ 4) {r : Int × Int}
  (h : Ev (fun k => if j < many then (if i + j < s.size ∧ (s.get! (i + j)).toNat / 64 = 2 then paymasterref07_Rune.l0 k s (i : Int) (many : Int) ((64 * n + (s.get! (i + j)).toNat % 64 : Nat) : Int) (least : Int) ((j + 1 : Nat) : Int) else some (0, 0))
   else (if n < least ∨ 1114111 < n ∨ (55296 ≤ n ∧ n < 57344) then some (0, 0) else some ((n : Int), (many : Int)))) r) :
  Ev (fun k => paymasterref07_Rune.l0 k s (i : Int) (many : Int) (n : Int) (least : Int) (j : Int)) r := Ev.step (fun k => refTail s hs i hi many n least j hj hjm hn k hm) h
theorem ev_ite {α : Type} {c : Prop} [Decidable c] {g f : Nat → Option α} {r q : α} (h : c → Ev g r) (k : ¬ c → Ev f q) : Ev (fun n => if c then g n else f n) (if c then r else q) := by
 by_cases hc : c
 ·
  simp only [if_pos hc]; exact h hc
 ·
  simp only [if_neg hc]; exact k hc
def endI (n many least : Nat) : Int × Int := if n < least ∨ 1114111 < n ∨ (55296 ≤ n ∧ n < 57344) then (0, 0) else ((n : Int), (many : Int))
theorem refEnd_ev {s : ByteArray} (hs : s.size ≤ 1000000) {i : Nat} (hi : i < s.size) {n least j : Nat} (hj : 1 ≤ j) (hn : n < 4194304) (hm : j ≤ 4) :
  Ev (fun k => paymasterref07_Rune.l0 k s (i : Int) (j : Int) (n : Int) (least : Int) (j : Int)) (endI n j least) := by
 refine refTail_ev hs hi hj (Nat.le_refl _) hn hm ?_
 simp only [if_neg (Nat.lt_irrefl j)]
 unfold endI
 split <;> exact Ev.now _
theorem refMid_ev {s : ByteArray} (hs : s.size ≤ 1000000) {i : Nat} (hi : i < s.size) {many n least j : Nat} (hj : 1 ≤ j) (hjm : j < many) (hn : n < 4194304) (hm : many ≤ 4) {r : Int × Int}
  (h : Ev (fun k => paymasterref07_Rune.l0 k s (i : Int) (many : Int) ((64 * n + (s.get! (i + j)).toNat % 64 : Nat) : Int) (least : Int) ((j + 1 : Nat) : Int)) r) :
  Ev (fun k => paymasterref07_Rune.l0 k s (i : Int) (many : Int) (n : Int) (least : Int) (j : Int)) (if i + j < s.size ∧ (s.get! (i + j)).toNat / 64 = 2 then r else (0, 0)) := by
 refine refTail_ev hs hi hj (by omega) hn hm ?_
 simp only [if_pos hjm]
 exact ev_ite (fun _ => h) (fun _ => Ev.now _)
theorem rune_1 (s : ByteArray) (i B : Nat) (hB : (s.get! i).toNat = B) (h : B < 128) : runeI s i = ((B : Int), 1) := by
 have hd : Utf8.decode s i = (B, 1) := by simp only [Utf8.decode, Nat.add_zero, hB, if_pos h]
 rw [runeI, hd, runeOf, if_neg (by dsimp only; omega)]; rfl
set_option maxRecDepth 100000 in
theorem rune_0 (s : ByteArray) (i B : Nat) (hB : (s.get! i).toNat = B) (h : 128 ≤ B) (h' : B < 192 ∨ 248 ≤ B) (hb : B < 256) : runeI s i = (0, 0) := by
 have e1 : (B / 32 == 6) = false := by simp; omega
 have e2 : (B / 16 == 14) = false := by simp; omega
 have e3 : (B / 8 == 30) = false := by simp; omega
 have e4 : ¬ B < 128 := by omega
 have hd : Utf8.decode s i = (65533, 1) := by simp [Utf8.decode, Nat.add_zero, hB, e4, e1, e2, e3, Utf8.runeError]
 rw [runeI, hd, runeOf_bad]
def contI (s : ByteArray) (i : Nat) : Prop := i < s.size ∧ (s.get! i).toNat / 64 = 2
instance (s : ByteArray) (i : Nat) : Decidable (contI s i) := by unfold contI; infer_instance
theorem cont_b (s : ByteArray) (i : Nat) : (decide (i < s.size) && (s.get! i).toNat / 64 == 2) = decide (contI s i) := by
 rw [Bool.eq_iff_iff, Bool.and_eq_true, decide_eq_true_eq, decide_eq_true_eq, beq_iff_eq]; rfl
set_option maxRecDepth 100000 in
theorem rune_2 (s : ByteArray) (i B : Nat) (hB : (s.get! i).toNat = B) (h : 192 ≤ B) (h' : B < 224) : runeI s i = if contI s (i + 1) then endI (64 * (B - 192) + (s.get! (i + 1)).toNat % 64) 2 128 else (0, 0) := by
 have e1 : (B / 32 == 6) = true := by simp; omega
 have e2 : (B / 16 == 14) = false := by simp; omega
 have e3 : (B / 8 == 30) = false := by simp; omega
 have e4 : ¬ B < 128 := by omega
 have e5 : B % 32 = B - 192 := by omega
 have h1 : (s.get! (i + 1)).toNat % 64 < 64 := Nat.mod_lt _ (by decide)
 have hd : Utf8.decode s i = if contI s (i + 1) then (if (B - 192) * 64 + (s.get! (i + 1)).toNat % 64 ≥ 128 then ((B - 192) * 64 + (s.get! (i + 1)).toNat % 64, 2) else (65533, 1)) else (65533, 1) := by
  simp only [Utf8.decode, Nat.add_zero, hB, if_neg e4, e1, e2, e3, e5, cont_b, Bool.true_and, Bool.false_and, Bool.false_eq_true, if_false, decide_eq_true_eq, Utf8.runeError]
 generalize (s.get! (i + 1)).toNat % 64 = x at hd h1 ⊢
 rw [runeI, hd]
 clear hd
 by_cases q : contI s (i + 1)
 ·
  rw [if_pos q, if_pos q]
  by_cases q2 : (B - 192) * 64 + x ≥ 128
  ·
   rw [if_pos q2, runeOf_ok _ _ (by decide), endI, if_neg (by omega)]; congr 1; omega
  ·
   rw [if_neg q2, runeOf_bad, endI, if_pos (by omega)]
 ·
  rw [if_neg q, if_neg q, runeOf_bad]
theorem valid_nat (c : Nat) : (Utf8.valid (c : Int) = true) ↔ c < 55296 ∨ (57344 ≤ c ∧ c ≤ 1114111) := by
 unfold Utf8.valid; simp; omega
theorem rune_3 (s : ByteArray) (i B : Nat) (hB : (s.get! i).toNat = B) (h : 224 ≤ B) (h' : B < 240) : runeI s i = if contI s (i + 1) then (if contI s (i + 2) then endI (64 * (64 * (B - 224) + (s.get! (i + 1)).toNat % 64) + (s.get! (i + 2)).toNat % 64) 3 2048 else (0, 0)) else (0, 0) := by
 have e1 : (B / 32 == 6) = false := by simp; omega
 have e2 : (B / 16 == 14) = true := by simp; omega
 have e3 : (B / 8 == 30) = false := by simp; omega
 have e4 : ¬ B < 128 := by omega
 have e5 : B % 16 = B - 224 := by omega
 have h1 : (s.get! (i + 1)).toNat % 64 < 64 := Nat.mod_lt _ (by decide)
 have h2 : (s.get! (i + 2)).toNat % 64 < 64 := Nat.mod_lt _ (by decide)
 have hd : Utf8.decode s i = if contI s (i + 1) ∧ contI s (i + 2) then (if (B - 224) * 4096 + (s.get! (i + 1)).toNat % 64 * 64 + (s.get! (i + 2)).toNat % 64 ≥ 2048 ∧ Utf8.valid (((B - 224) * 4096 + (s.get! (i + 1)).toNat % 64 * 64 + (s.get! (i + 2)).toNat % 64 : Nat) : Int) = true then ((B - 224) * 4096 + (s.get! (i + 1)).toNat % 64 * 64 + (s.get! (i + 2)).toNat % 64, 3) else (65533, 1)) else (65533, 1) := by
  simp only [Utf8.decode, Nat.add_zero, hB, if_neg e4, e1, e2, e3, e5, cont_b, Bool.true_and, Bool.false_and, Bool.false_eq_true, if_false, Bool.and_eq_true, decide_eq_true_eq, Utf8.runeError]
 generalize (s.get! (i + 1)).toNat % 64 = x at hd h1 ⊢
 generalize (s.get! (i + 2)).toNat % 64 = y at hd h2 ⊢
 simp only [valid_nat] at hd
 rw [runeI, hd]
 clear hd
 by_cases q : contI s (i + 1)
 ·
  by_cases q1 : contI s (i + 2)
  ·
   rw [if_pos ⟨q, q1⟩, if_pos q, if_pos q1]
   split
   ·
    rw [runeOf_ok _ _ (by decide), endI, if_neg (by omega)]; congr 1; omega
   ·
    rw [runeOf_bad, endI, if_pos (by omega)]
  ·
   rw [if_neg (fun hh => q1 hh.2), if_pos q, if_neg q1, runeOf_bad]
 ·
  rw [if_neg (fun hh => q hh.1), if_neg q, runeOf_bad]
theorem rune_4 (s : ByteArray) (i B : Nat) (hB : (s.get! i).toNat = B) (h : 240 ≤ B) (h' : B < 248) : runeI s i = if contI s (i + 1) then (if contI s (i + 2) then (if contI s (i + 3) then endI (64 * (64 * (64 * (B - 240) + (s.get! (i + 1)).toNat % 64) + (s.get! (i + 2)).toNat % 64) + (s.get! (i + 3)).toNat % 64) 4 65536 else (0, 0)) else (0, 0)) else (0, 0) := by
 have e1 : (B / 32 == 6) = false := by simp; omega
 have e2 : (B / 16 == 14) = false := by simp; omega
 have e3 : (B / 8 == 30) = true := by simp; omega
 have e4 : ¬ B < 128 := by omega
 have e5 : B % 8 = B - 240 := by omega
 have h1 : (s.get! (i + 1)).toNat % 64 < 64 := Nat.mod_lt _ (by decide)
 have h2 : (s.get! (i + 2)).toNat % 64 < 64 := Nat.mod_lt _ (by decide)
 have h3 : (s.get! (i + 3)).toNat % 64 < 64 := Nat.mod_lt _ (by decide)
 have hd : Utf8.decode s i = if (contI s (i + 1) ∧ contI s (i + 2)) ∧ contI s (i + 3) then (if (B - 240) * 262144 + (s.get! (i + 1)).toNat % 64 * 4096 + (s.get! (i + 2)).toNat % 64 * 64 + (s.get! (i + 3)).toNat % 64 ≥ 65536 ∧ Utf8.valid (((B - 240) * 262144 + (s.get! (i + 1)).toNat % 64 * 4096 + (s.get! (i + 2)).toNat % 64 * 64 + (s.get! (i + 3)).toNat % 64 : Nat) : Int) = true then ((B - 240) * 262144 + (s.get! (i + 1)).toNat % 64 * 4096 + (s.get! (i + 2)).toNat % 64 * 64 + (s.get! (i + 3)).toNat % 64, 4) else (65533, 1)) else (65533, 1) := by
  simp only [Utf8.decode, Nat.add_zero, hB, if_neg e4, e1, e2, e3, e5, cont_b, Bool.true_and, Bool.false_and, Bool.false_eq_true, if_false, Bool.and_eq_true, decide_eq_true_eq, Utf8.runeError]
 generalize (s.get! (i + 1)).toNat % 64 = x at hd h1 ⊢
 generalize (s.get! (i + 2)).toNat % 64 = y at hd h2 ⊢
 generalize (s.get! (i + 3)).toNat % 64 = z at hd h3 ⊢
 simp only [valid_nat] at hd
 rw [runeI, hd]
 clear hd
 by_cases q : contI s (i + 1)
 ·
  by_cases q1 : contI s (i + 2)
  ·
   by_cases q2 : contI s (i + 3)
   ·
    rw [if_pos ⟨⟨q, q1⟩, q2⟩, if_pos q, if_pos q1, if_pos q2]
    split
    ·
     rw [runeOf_ok _ _ (by decide), endI, if_neg (by omega)]; congr 1; omega
    ·
     rw [runeOf_bad, endI, if_pos (by omega)]
   ·
    rw [if_neg (fun hh => q2 hh.2), if_pos q, if_pos q1, if_neg q2, runeOf_bad]
  ·
   rw [if_neg (fun hh => q1 hh.1.2), if_pos q, if_neg q1, runeOf_bad]
 ·
  rw [if_neg (fun hh => q hh.1.1), if_neg q, runeOf_bad]
set_option maxRecDepth 100000 in
theorem refRune_j0 (s : ByteArray) (i B k : Nat) (hi : i < s.size) (hB : (s.get! i).toNat = B) (hb : B < 256) : paymasterref07_Rune.j0 (k + 1) s (i : Int) false = if B < 128 then some ((B : Int), 1) else paymasterref07_Rune.j1 k s (i : Int) (B : Int) (decide (192 ≤ B ∧ B < 224)) := by
 have w0 : wrap64 (B : Int) = (B : Int) := wrap64_id (by omega) (by omega)
 simp only [paymasterref07_Rune.j0]
 rw [if_neg (by decide), if_pos (by omega), if_pos (by omega), bt_nat s i hi, hB, w0]
 by_cases h1 : B < 128
 ·
  rw [if_pos (by omega), if_pos h1]
 ·
  rw [if_neg (by omega), if_neg h1]
  by_cases h2 : 192 ≤ B
  ·
   rw [if_pos (by omega)]; congr 1; exact decide_eq_decide.2 (by omega)
  ·
   rw [if_neg (by omega), decide_eq_false (by omega)]
set_option maxRecDepth 100000 in
theorem refRune_ev (s : ByteArray) (hs : s.size ≤ 1000000) (i : Nat) (hi : i < s.size) : Ev (fun k => paymasterref07_Rune.f k s (i : Int)) (runeI s i) := by
 obtain ⟨B, hB⟩ : ∃ B, (s.get! i).toNat = B := ⟨_, rfl⟩
 have hb : B < 256 := by rw [← hB]; exact (s.get! i).toNat_lt
 refine Ev.congr (f := fun k => paymasterref07_Rune.j0 k s (i : Int) false) (fun k => ?_) ?_
 ·
  unfold paymasterref07_Rune.f; rw [if_neg (by omega), decide_eq_false (by omega)]
 refine Ev.step (fun k => refRune_j0 s i B k hi hB hb) ?_
 by_cases c1 : B < 128
 ·
  simp only [if_pos c1]; rw [rune_1 s i B hB c1]; exact Ev.now _
 simp only [if_neg c1]
 by_cases c2 : 192 ≤ B ∧ B < 224
 ·
  rw [decide_eq_true c2, rune_2 s i B hB c2.1 c2.2]
  refine Ev.step (f := fun k => paymasterref07_Rune.j3 k s (i : Int) 2 ((B - 192 : Nat) : Int) 128) (fun k => ?_) ?_
  ·
   simp only [paymasterref07_Rune.j1]; rw [if_pos trivial, wrap64_id (by omega) (by omega)]; congr 1; omega
  refine Ev.step (f := fun k => paymasterref07_Rune.l0 k s (i : Int) ((2 : Nat) : Int) ((B - 192 : Nat) : Int) ((128 : Nat) : Int) ((1 : Nat) : Int)) (fun k => rfl) ?_
  exact refMid_ev hs hi (by decide) (by decide) (by omega) (by decide) (refEnd_ev hs hi (by decide) (by omega) (by decide))
 rw [decide_eq_false c2]
 have hj1 : ∀ k, paymasterref07_Rune.j1 (k + 1) s (i : Int) (B : Int) false = paymasterref07_Rune.j2 k s (i : Int) (B : Int) (decide (224 ≤ B ∧ B < 240)) := by
  intro k
  simp only [paymasterref07_Rune.j1]; rw [if_neg (by decide)]
  by_cases h2 : 224 ≤ B
  ·
   rw [if_pos (by omega)]; congr 1; exact decide_eq_decide.2 (by omega)
  ·
   rw [if_neg (by omega), decide_eq_false (by omega)]
 refine Ev.step hj1 ?_
 by_cases c3 : 224 ≤ B ∧ B < 240
 ·
  rw [decide_eq_true c3, rune_3 s i B hB c3.1 c3.2]
  refine Ev.step (f := fun k => paymasterref07_Rune.j3 k s (i : Int) 3 ((B - 224 : Nat) : Int) 2048) (fun k => ?_) ?_
  ·
   simp only [paymasterref07_Rune.j2]; rw [if_pos trivial, wrap64_id (by omega) (by omega)]; congr 1; omega
  refine Ev.step (f := fun k => paymasterref07_Rune.l0 k s (i : Int) ((3 : Nat) : Int) ((B - 224 : Nat) : Int) ((2048 : Nat) : Int) ((1 : Nat) : Int)) (fun k => rfl) ?_
  exact refMid_ev hs hi (by decide) (by decide) (by omega) (by decide) (refMid_ev hs hi (by decide) (by decide) (by omega) (by decide) (refEnd_ev hs hi (by decide) (by omega) (by decide)))
 rw [decide_eq_false c3]
 by_cases c4 : 240 ≤ B ∧ B < 248
 ·
  rw [rune_4 s i B hB c4.1 c4.2]
  refine Ev.step (f := fun k => paymasterref07_Rune.j3 k s (i : Int) 4 ((B - 240 : Nat) : Int) 65536) (fun k => ?_) ?_
  ·
   simp only [paymasterref07_Rune.j2]; rw [if_neg (by decide), if_pos (by omega), if_pos (by omega), wrap64_id (by omega) (by omega)]; congr 1; omega
  refine Ev.step (f := fun k => paymasterref07_Rune.l0 k s (i : Int) ((4 : Nat) : Int) ((B - 240 : Nat) : Int) ((65536 : Nat) : Int) ((1 : Nat) : Int)) (fun k => rfl) ?_
  exact refMid_ev hs hi (by decide) (by decide) (by omega) (by decide) (refMid_ev hs hi (by decide) (by decide) (by omega) (by decide) (refMid_ev hs hi (by decide) (by decide) (by omega) (by decide) (refEnd_ev hs hi (by decide) (by omega) (by decide))))
 ·
  rw [rune_0 s i B hB (by omega) (by omega) hb]
  refine Ev.step (f := fun k => some (0, 0)) (fun k => ?_) (Ev.now _)
  simp only [paymasterref07_Rune.j2]; rw [if_neg (by decide)]
  by_cases h2 : 240 ≤ B
  ·
   rw [if_pos (by omega), if_neg (by omega)]
  ·
   rw [if_neg (by omega)]
def withinI (c : Int) : Bool := decide (97 ≤ c ∧ c ≤ 122) || (decide (65 ≤ c ∧ c ≤ 90) || (decide (48 ≤ c ∧ c ≤ 57) || (decide (c = 46 ∨ c = 95 ∨ c = 45) || decide (161 ≤ c))))
theorem withinI_iff (c : Int) : withinI c = true ↔ (97 ≤ c ∧ c ≤ 122) ∨ (65 ≤ c ∧ c ≤ 90) ∨ (48 ≤ c ∧ c ≤ 57) ∨ (c = 46 ∨ c = 95 ∨ c = 45) ∨ 161 ≤ c := by
 simp only [withinI, Bool.or_eq_true, decide_eq_true_eq]
theorem withinI_t {c : Int} (h : (97 ≤ c ∧ c ≤ 122) ∨ (65 ≤ c ∧ c ≤ 90) ∨ (48 ≤ c ∧ c ≤ 57) ∨ (c = 46 ∨ c = 95 ∨ c = 45) ∨ 161 ≤ c) : some true = some (withinI c) := by rw [(withinI_iff c).2 h]
theorem withinI_d {c : Int} (h : ¬ ((97 ≤ c ∧ c ≤ 122) ∨ (65 ≤ c ∧ c ≤ 90) ∨ (48 ≤ c ∧ c ≤ 57) ∨ (c = 46 ∨ c = 95 ∨ c = 45))) : some (decide (c ≥ 161)) = some (withinI c) := by
 congr 1
 rw [Bool.eq_iff_iff, decide_eq_true_eq, withinI_iff]; omega
theorem refWithin_eq (c : Int) : paymasterref07_within.f c = some (withinI c) := by
 unfold paymasterref07_within.f
 repeat' split
 all_goals first | exact withinI_t (by omega) | exact withinI_d (by omega)
def idFrom (s : ByteArray) : Nat → Nat → Nat → Bool
 | 0, n, _ => decide (1 ≤ n) && decide (n ≤ 24)
 | b + 1, n, i => if i < s.size then (if (runeI s i).2 = 0 then false else if withinI (runeI s i).1 = true then idFrom s b (n + 1) (i + (Utf8.decode s i).2) else false) else decide (1 ≤ n) && decide (n ≤ 24)
def mayIdI (s : ByteArray) : Bool := idFrom s s.size 0 0
theorem runeI_2 (s : ByteArray) (i : Nat) (hi : i < s.size) : (runeI s i).2 = 0 ∨ (runeI s i).2 = ((Utf8.decode s i).2 : Int) := by
 unfold runeI runeOf; split
 ·
  exact .inl rfl
 ·
  exact .inr rfl
theorem decode_4 (s : ByteArray) (i : Nat) : (Utf8.decode s i).2 ≤ 4 := by
 simp only [Utf8.decode]
 repeat' split
 all_goals simp
theorem refMayId_loop (s : ByteArray) (hs : s.size ≤ 1000000) : ∀ b n i : Nat, s.size ≤ i + b → n ≤ i → i ≤ s.size + 4 → Ev (fun k => paymasterref07_MayId.l0 k s (n : Int) (i : Int)) (idFrom s b n i)
 | b, n, i, hb, hn, hi4 => by
  by_cases hi : i < s.size
  ·
   obtain ⟨b, rfl⟩ : ∃ c, b = c + 1 := ⟨b - 1, by omega⟩
   unfold idFrom
   rw [if_pos hi]
   have hw := Lib.decode_width_pos s i hi
   have h4 := decode_4 s i
   refine Ev.step (f := fun k => (paymasterref07_Rune.f k s (i : Int)).bind fun bt137 => (if bt137.2 = 0 then (some false) else ((paymasterref07_within.f bt137.1).bind fun t139 => (if t139 = true then (paymasterref07_MayId.l0 k s (wrap64 ((n : Int) + 1)) (wrap64 ((i : Int) + bt137.2))) else (some false))))) (fun k => ?_) ?_
   ·
    simp only [paymasterref07_MayId.l0]; rw [if_pos (by omega)]
   refine Ev.bind (refRune_ev s hs i hi) ?_
   by_cases h0 : (runeI s i).2 = 0
   ·
    simp only [if_pos h0]; exact Ev.now _
   ·
    simp only [if_neg h0, refWithin_eq, Option.bind_some]
    have e2 : (runeI s i).2 = ((Utf8.decode s i).2 : Int) := (runeI_2 s i hi).resolve_left h0
    by_cases hw1 : withinI (runeI s i).1 = true
    ·
     simp only [if_pos hw1]
     rw [e2, wrap64_id (x := (n : Int) + 1) (by omega) (by omega), wrap64_id (by omega) (by omega)]
     exact refMayId_loop s hs b (n + 1) (i + (Utf8.decode s i).2) (by omega) (by omega) (by omega)
    ·
     simp only [if_neg hw1]; exact Ev.now _
  ·
   have e : idFrom s b n i = (decide (1 ≤ n) && decide (n ≤ 24)) := by
    cases b with
    | zero => rfl
    | succ b => unfold idFrom; rw [if_neg hi]
   rw [e]
   refine Ev.step (f := fun _ => some _) (fun k => ?_) (Ev.now _)
   simp only [paymasterref07_MayId.l0]; rw [if_neg (by omega)]
   by_cases h1 : 1 ≤ n
   ·
    rw [if_pos (by omega), decide_eq_true h1, Bool.true_and]; congr 1; exact decide_eq_decide.2 (by omega)
   ·
    rw [if_neg (by omega), decide_eq_false h1, Bool.false_and]
theorem refMayId_ev (s : ByteArray) (hs : s.size ≤ 1000000) : Ev (fun k => paymasterref07_MayId.f k s) (mayIdI s) := refMayId_loop s hs s.size 0 0 (by omega) (by omega) (by omega)
theorem decode_congr (a b : ByteArray) (i j : Nat) (hg : ∀ k, k < 4 → a.get! (i + k) = b.get! (j + k)) (hs : ∀ k, k < 4 → (i + k < a.size ↔ j + k < b.size)) : Utf8.decode a i = Utf8.decode b j := by
 simp only [Utf8.decode, hg 0 (by decide), hg 1 (by decide), hg 2 (by decide), hg 3 (by decide), decide_eq_decide.2 (hs 1 (by decide)), decide_eq_decide.2 (hs 2 (by decide)), decide_eq_decide.2 (hs 3 (by decide))]
theorem get_list (s : ByteArray) (i : Nat) : s.get! i = s.data.toList.getD i 0 := by
 by_cases h : i < s.size
 ·
  rw [get_nat s i h, List.getD_eq_getElem?_getD, List.getElem?_eq_getElem (by simpa using h)]; rfl
 ·
  rw [List.getD_eq_getElem?_getD, List.getElem?_eq_none (by simpa using h)]
  have h2 : s.data[i]? = none := Array.getElem?_eq_none (Nat.not_lt.1 h)
  simp [ByteArray.get!, getElem!_def, h2]; rfl
theorem decodeL_drop (s : ByteArray) (i : Nat) (hi : i ≤ s.size) : Lib.decodeL (s.data.toList.drop i) = Utf8.decode s i := by
 unfold Lib.decodeL
 refine decode_congr _ _ _ _ (fun k _ => ?_) (fun k _ => ?_)
 ·
  rw [get_list, get_list, List.getD_eq_getElem?_getD, List.getD_eq_getElem?_getD]
  show (s.data.toList.drop i)[0 + k]?.getD 0 = _
  rw [List.getElem?_drop, Nat.zero_add]
 ·
  have e : (⟨(s.data.toList.drop i).toArray⟩ : ByteArray).size = s.size - i := by
   show (s.data.toList.drop i).toArray.size = _
   rw [List.size_toArray, List.length_drop]; rfl
  rw [e]; omega
def validFrom (s : ByteArray) : Nat → Nat → Bool
 | 0, _ => true
 | b + 1, i => if i < s.size then (if (runeI s i).2 = 0 then false else validFrom s b (i + (Utf8.decode s i).2)) else true
theorem validFrom_eq (s : ByteArray) : ∀ b i : Nat, i ≤ s.size + 4 → Lib.validGoD b (s.data.toList.drop i) = validFrom s b i
 | 0, _, _ => rfl
 | b + 1, i, h => by
  unfold Lib.validGoD validFrom
  by_cases hi : i < s.size
  ·
   have hl : i < s.data.toList.length := by simpa using hi
   rw [if_neg (by rw [List.drop_eq_nil_iff]; omega), if_pos hi, decodeL_drop s i (by omega), List.drop_drop]
   have h4 := decode_4 s i
   by_cases hb : (Utf8.decode s i).1 = 65533 ∧ (Utf8.decode s i).2 = 1
   ·
    rw [if_pos hb, if_pos (by unfold runeI runeOf; rw [if_pos hb])]
   ·
    have hw := Lib.decode_width_pos s i hi
    rw [if_neg hb, if_neg (by unfold runeI runeOf; rw [if_neg hb]; dsimp only; omega)]
    by_cases h5 : i + (Utf8.decode s i).2 ≤ s.size + 4
    ·
     exact validFrom_eq s b _ h5
    ·
     omega
  ·
   rw [if_pos (by rw [List.drop_eq_nil_iff]; simp; exact Nat.not_lt.1 hi), if_neg hi]
def allFrom (s : ByteArray) : Nat → Nat → Bool
 | 0, _ => true
 | b + 1, i => if i < s.size then (withinI (Utf8.decode s i).1 && allFrom s b (i + (Utf8.decode s i).2)) else true
theorem allFrom_end (s : ByteArray) (b i : Nat) (h : ¬ i < s.size) : allFrom s b i = true := by
 cases b with
 | zero => rfl
 | succ b => unfold allFrom; rw [if_neg h]
theorem idFrom_eq (s : ByteArray) : ∀ b n i : Nat, s.size ≤ i + b → idFrom s b n i = ((decide (1 ≤ n + Lib.runeCountFrom s b i) && decide (n + Lib.runeCountFrom s b i ≤ 24)) && (validFrom s b i && allFrom s b i))
 | b, n, i, hb => by
  by_cases hi : i < s.size
  ·
   obtain ⟨b, rfl⟩ : ∃ c, b = c + 1 := ⟨b - 1, by omega⟩
   have hw := Lib.decode_width_pos s i hi
   unfold idFrom validFrom allFrom Lib.runeCountFrom
   rw [if_pos hi, if_pos hi, if_pos hi, if_pos hi]
   by_cases h0 : (runeI s i).2 = 0
   ·
    rw [if_pos h0, if_pos h0]; simp
   ·
    rw [if_neg h0, if_neg h0]
    have e1 : (runeI s i).1 = ((Utf8.decode s i).1 : Int) := by
     unfold runeI runeOf at h0 ⊢
     split at h0
     ·
      exact absurd rfl h0
     ·
      rename_i h; rw [if_neg h]
    rw [e1, idFrom_eq s b (n + 1) _ (by omega), show n + 1 + Lib.runeCountFrom s b (i + (Utf8.decode s i).2) = n + (1 + Lib.runeCountFrom s b (i + (Utf8.decode s i).2)) by omega]
    cases withinI ((Utf8.decode s i).1 : Int) <;> simp
  ·
   have e : idFrom s b n i = (decide (1 ≤ n) && decide (n ≤ 24)) := by
    cases b with
    | zero => rfl
    | succ b => unfold idFrom; rw [if_neg hi]
   have e2 : validFrom s b i = true := by
    cases b with
    | zero => rfl
    | succ b => unfold validFrom; rw [if_neg hi]
   rw [e, e2, allFrom_end s b i hi, Lib.runeCountFrom_end s b i hi]; simp
theorem mayIdI_eq (s : ByteArray) : mayIdI s = ((decide (1 ≤ Lib.runeCount s) && decide (Lib.runeCount s ≤ 24)) && (Lib.validD s.data.toList && allFrom s s.size 0)) := by
 unfold mayIdI Lib.runeCount Lib.validD
 rw [idFrom_eq s s.size 0 0 (by omega), Nat.zero_add]
 have := validFrom_eq s s.size 0 (by omega)
 rw [List.drop_zero] at this
 rw [show s.data.toList.length = s.size by simp, this]
end Go.Proofs.YtlmmpncdemblbaaGreatDoor.P
namespace Go.Proofs.YtlmmpncdemblbaaGreatDoor.P
open Go.RowKit Go.Proofs.YtlmmpncdemblbaaGreatDoorW.PrintWords Go.Proofs.YtlmmpncdemblbaaGreatDoorW.PrintLast Go.Proofs.YtlmmpncdemblbaaGreatDoorW.PrintMore
set_option linter.unusedVariables false
set_option linter.unusedSimpArgs false
set_option linter.unnecessarySimpa false
theorem tagWithin_eq (c : Int) (hv : Utf8.valid c = true) : tag_within.f c = some (withinI c) := by
 have e : strings_ContainsRune.f (⟨#[46, 95, 45]⟩ : ByteArray) c = some (dotI c) := by unfold strings_ContainsRune.f; rw [if_pos ⟨rfl, hv⟩]
 have hd : dotI c = true ↔ (c = 46 ∨ c = 95 ∨ c = 45) := by simp only [dotI, decide_eq_true_eq]
 unfold tag_within.f
 simp only [e, Option.bind_some]
 repeat' split
 all_goals first | exact withinI_t (by omega) | (rename_i h; rw [hd] at h; first | exact withinI_t (by omega) | exact withinI_d (by omega))
theorem decode_valid (s : ByteArray) (i : Nat) (hi : i < s.size) : Utf8.valid ((Utf8.decode s i).1 : Int) = true := by
 obtain ⟨B, hB⟩ : ∃ B, (s.get! i).toNat = B := ⟨_, rfl⟩
 have hb : B < 256 := by rw [← hB]; exact (s.get! i).toNat_lt
 have h1 := (s.get! (i + 1)).toNat_lt
 have h2 := (s.get! (i + 2)).toNat_lt
 rw [valid_nat]
 simp only [Utf8.decode, Nat.add_zero, hB, valid_nat, Utf8.runeError, Bool.and_eq_true, decide_eq_true_eq, beq_iff_eq]
 repeat' split
 all_goals (try dsimp only)
 all_goals omega
theorem iterPos_at {w : World} {k : Nat} {s : ByteArray} {p : Nat} (h : w.heap[k]? = some (.stringIter s p)) : w.iterPos k = p := by unfold World.iterPos; rw [h]
set_option maxRecDepth 100000 in
set_option maxHeartbeats 1000000 in
theorem mayId.calls (s : ByteArray) (hs : s.size ≤ 1000000) (w : World) (hK : LaidT w) : Calls Tryz.prog 47 #[.string s] w fun e w' => e = .returned (.bool (mayIdI s)) ∧ Below w.heap.size w w' := by
 have HK := aM' hK
 have HS := aM' hs
 have HE := aM' (mayIdI_eq s)
 clear hK hs
 have hrc : (Lib.runeCount s : Int) ≤ 1000000 := by have := Lib.runeCount_le s; have := HS.out; omega
 have hr0 : (0 : Int) ≤ (Lib.runeCount s : Int) := by omega
 obtain ⟨n, hn⟩ : ∃ n, Lib.runeCount s = n := ⟨_, rfl⟩
 rw [hn] at hrc hr0
 go_enter Tryz.func47, Tryz.ntmps47
 go_wp2_with fail
 refine (Tryz.utf8_RuneCountInString s _ (by have := HS.out; omega)).mono ?_
 rw [hn]
 have HN := aM' hn
 clear hn
 rintro e w1 ⟨rfl, pos, hw1⟩
 have HB := aM' (show Below w.heap.size w w1 by rw [hw1]; exact below_iter w _ _)
 clear hw1
 by_cases h1 : 1 ≤ n
 ·
  by_cases h2 : n ≤ 24
  ·
   have b1 : decide ((n : Int) < 1) = false := decide_eq_false (by omega)
   have b2 : decide ((24 : Int) < (n : Int)) = false := decide_eq_false (by omega)
   go_wp2_with fail
   refine (Tryz.utf8_ValidString s _ (by have := HS.out; omega) (HK.out.below HB.out).2).mono ?_
   rintro e w2 ⟨rfl, hb⟩
   have HB2 := aM' (HB.out.trans (hb.mono HB.out.size))
   clear hb
   cases hv : Lib.validD s.data.toList with
   | false =>
    have HV := aM' hv
    clear hv
    go_wp2
    go_ret
    exact ⟨by rw [HE.out, HV.out]; simp, HB2.out⟩
   | true =>
    have HV := aM' hv
    clear hv
    go_wp2
    clear hrc hr0 b1 b2
    go_loopw [] (fun wr => ∃ pos fuel : Nat, Aside0 (wr.heap[w2.heap.size]? = some (.stringIter s pos)) ∧ Aside0 (Below w2.heap.size w2 wr) ∧ Aside0 (allFrom s fuel pos = allFrom s s.size 0) ∧ s.size ≤ pos + fuel) (fun wr => s.size - wr.iterPos w2.heap.size)
    case atStart => exact ⟨0, s.size, ⟨World.iter_heap w2 s 0⟩, ⟨below_iter w2 s 0⟩, ⟨rfl⟩, by omega⟩
    case round =>
     obtain ⟨pos, fuel, HIT, HBW, HA, hf⟩ := hrel
     by_cases hp : pos < s.size
     ·
      have hnx : ∀ ty, (Instr.next (.pointer (some ⟨w2.heap.size, 0, none⟩)) true ty).run Tryz.prog wr = _ := fun ty => Lib.run_next_any_at wr w2.heap.size s pos ty HIT.out hp
      have hwd := Lib.decode_width_pos s pos hp
      obtain ⟨fuel, rfl⟩ : ∃ f', fuel = f' + 1 := ⟨fuel - 1, by omega⟩
      have HP0 := aM' (iterPos_at HIT.out)
      have HIT2 := aM' (Lib.iterAt_heap wr w2.heap.size s pos (pos + (Utf8.decode s pos).2) HIT.out)
      have HBW2 := aM' (Lib.below_iterAt HBW.out (k := w2.heap.size) (Nat.le_refl _) s (pos + (Utf8.decode s pos).2))
      obtain ⟨W1, hW1⟩ : ∃ W1, W1 = wr.iterAt w2.heap.size s (pos + (Utf8.decode s pos).2) := ⟨_, rfl⟩
      rw [← hW1] at hnx HIT2 HBW2
      have HWI := aM' (tagWithin_eq ((Utf8.decode s pos).1 : Int) (decode_valid s pos hp))
      have HA2 := aM' (show (withinI ((Utf8.decode s pos).1 : Int) && allFrom s fuel (pos + (Utf8.decode s pos).2)) = allFrom s s.size 0 by rw [← HA.out]; conv => rhs; unfold allFrom; rw [if_pos hp])
      clear hW1 HIT HBW HA
      go_wp2_with fail
      refine (tag_within.calls _ (withinI ((Utf8.decode s pos).1 : Int)) _ HWI.out).mono ?_
      rintro e w3 ⟨rfl, hb⟩
      have HIT3 := aM' (blk_below HIT2.out hb)
      have HBW3 := aM' (HBW2.out.trans (hb.mono HBW2.out.size))
      have HP3 := aM' (iterPos_at HIT3.out)
      clear hb
      cases hw : withinI ((Utf8.decode s pos).1 : Int) with
      | true =>
       have HWT := aM' hw
       clear hw
       go_wp2
       go_roundw
       case rel => exact ⟨_, fuel, HIT3, HBW3, ⟨by rw [← HA2.out, HWT.out, Bool.true_and]⟩, by omega⟩
       case measure => rw [HP3.out, HP0.out]; omega
      | false =>
       have HWT := aM' hw
       clear hw
       go_wp2
       go_ret
       exact ⟨by rw [HE.out, ← HA2.out, HWT.out]; simp, HB2.out.trans (HBW3.out.mono HB2.out.size)⟩
     ·
      have hnx : ∀ ty, (Instr.next (.pointer (some ⟨w2.heap.size, 0, none⟩)) true ty).run Tryz.prog wr = _ := fun ty => Lib.run_next_end_at wr w2.heap.size s pos ty HIT.out hp
      have HE2 := aM' (show allFrom s s.size 0 = true by rw [← HA.out]; exact allFrom_end s fuel pos hp)
      go_wp2
      go_ret
      exact ⟨by rw [HE.out, HN.out, HV.out, HE2.out, decide_eq_true h1, decide_eq_true h2]; rfl, HB2.out.trans (HBW.out.mono HB2.out.size)⟩
  ·
   have b1 : decide ((n : Int) < 1) = false := decide_eq_false (by omega)
   have b2 : decide ((24 : Int) < (n : Int)) = true := decide_eq_true (by omega)
   go_wp2
   go_ret
   exact ⟨by rw [HE.out, HN.out, decide_eq_false h2]; simp, HB.out⟩
 ·
  have b1 : decide ((n : Int) < 1) = true := decide_eq_true (by omega)
  go_wp2
  go_ret
  exact ⟨by rw [HE.out, HN.out, decide_eq_false h1]; simp, HB.out⟩
def tag_MayId.f (s : ByteArray) : Option Bool := if s.size ≤ 1000000 then some (mayIdI s) else none
theorem tag_MayId.calls (s : ByteArray) (b : Bool) (w : World) (hK : LaidT w) (h : tag_MayId.f s = some b) :
  Calls Tryz.prog 47 #[.string s] w fun e w' => e = .returned (.bool b) ∧ Below w.heap.size w w' := by
 unfold tag_MayId.f at h
 split at h
 ·
  rename_i hh
  obtain rfl := Option.some.inj h
  exact mayId.calls s hh w hK
 ·
  cases h
end Go.Proofs.YtlmmpncdemblbaaGreatDoor.P
namespace Go.Proofs.YtlmmpncdemblbaaGreatDoor.P
open Go.RowKit Go.Proofs.YtlmmpncdemblbaaGreatDoorW.PrintWords Go.Proofs.YtlmmpncdemblbaaGreatDoorW.PrintLast Go.Proofs.YtlmmpncdemblbaaGreatDoorW.PrintMore
attribute [local go_sem] max2_int min2_int max_two min_two max_three min_three max_four min_four-- for this text's walks alone
set_option linter.unusedVariables false
set_option linter.unusedSimpArgs false
attribute [local go_sem high] eqAU128
def tag_MayLeaf.f (a0_0 : Bool) (a0_1 : ByteArray) (a0_2 : ByteArray) (a0_3 : Int) (a0_4 : Int) : Option (Bool) := if (a0_2.size : Int) > 32 then (some false) else (if a0_0 = true then (if a0_1.toList = ([] : List UInt8) then (some (a0_3 == 0 && (a0_4 == 0))) else (some false)) else ((tag_MayId.f a0_1).bind fun t118 => (some t118)))
set_option maxHeartbeats 8000000 in
set_option maxRecDepth 100000 in
theorem tag_MayLeaf.calls (a0_0 : Bool) (a0_1 : ByteArray) (a0_2 : ByteArray) (a0_3 : Int) (a0_4 : Int) (r : Bool) (w : World) (hK : LaidT w) (h : tag_MayLeaf.f a0_0 a0_1 a0_2 a0_3 a0_4 = some r) :
  Calls Tryz.prog 33 #[.agg #[.bool a0_0, .string a0_1, .string a0_2, .int .u64 a0_3, .int .u64 a0_4]] w fun e w' => e = .returned (.bool r) ∧ Below w.heap.size w w' := by
 have hu34 := Tryz.underlying34
 have hu24 := Tryz.underlying24
 have HB := aM' (Below.refl w.heap.size w)
 have HLD := aM' hK
 clear hK
 have H : (if (a0_2.size : Int) > 32 then (some false) else (if a0_0 = true then (if a0_1.toList = ([] : List UInt8) then (some (a0_3 == 0 && (a0_4 == 0))) else (some false)) else ((tag_MayId.f a0_1).bind fun t118 => (some t118)))) = some r := h
 clear h
 by_cases c2 : (a0_2.size : Int) > 32
 ·
  rw [if_pos c2] at H
  have c2b0 : decide (32 < (a0_2.size : Int)) = true := decide_eq_true c2
  have c2b1 : decide (32 < a0_2.size) = true := decide_eq_true (by omega)
  clear c2
  obtain rfl := Option.some.inj H
  go_enter Tryz.func33, Tryz.ntmps33
  go_wp2_with (first | ((with_reducible refine gate_dst (N := 1) rfl ?_); refine box_event ?hg (N := 1) ?hd (cs := #[.bool a0_0, .string a0_1, .string a0_2, .int .u64 a0_3, .int .u64 a0_4]) (t := 34) ?hr ?_; (case hd => rfl); (case hg => rfl); (case hr => first | (go_simp; done) | (go_simp; rfl)); intro gb117 hg w3 hbox hb; have n0_ := aM' (below_step (by repeat (first | (with_reducible first | exact HB.out | apply below_alloc | apply pw_below_drewN | apply below_drew1) | exact HB.out)) hb); have n1_ := aM' (hbox); have n2_ := aM' ((by rw [hg]; exact (below_size (by repeat (first | (with_reducible first | exact HB.out | apply below_alloc | apply pw_below_drewN | apply below_drew1) | exact HB.out))) : w.heap.size ≤ gb117)); have n3_ := aM' ((by rw [hg]; exact (below_size (by repeat (first | (with_reducible first | exact HB.out | apply below_alloc | apply pw_below_drewN | apply below_drew1) | exact HB.out))) : w.heap.size ≤ gb117)); clear HB; have HB := n0_; have BK117 := n1_; have GW117 := n2_; have GE117 := n3_; clear n0_ n1_ n2_ n3_; clear hb hbox hg; have hcz4_0 : w3.cell? ⟨gb117, 0, none⟩ = some (.bool a0_0) := (blk_cell BK117.out 0).trans rfl; have hcz4_1 : w3.cell? ⟨gb117, 1, none⟩ = some (.string a0_1) := (blk_cell BK117.out 1).trans rfl; have hcz4_2 : w3.cell? ⟨gb117, 2, none⟩ = some (.string a0_2) := (blk_cell BK117.out 2).trans rfl; have hcz4_3 : w3.cell? ⟨gb117, 3, none⟩ = some (.int .u64 a0_3) := (blk_cell BK117.out 3).trans rfl; have hcz4_4 : w3.cell? ⟨gb117, 4, none⟩ = some (.int .u64 a0_4) := (blk_cell BK117.out 4).trans rfl; have hfz4_0 := blk_frozen BK117.out 0; have hfz4_1 := blk_frozen BK117.out 1; have hfz4_2 := blk_frozen BK117.out 2; have hfz4_3 := blk_frozen BK117.out 3; have hfz4_4 := blk_frozen BK117.out 4))
  go_ret
  exact ⟨by first | rfl | (simp [errW_none, errW_some] <;> rfl) | (simp [*, errW_none, errW_some] <;> rfl), by repeat (first | (with_reducible first | exact HB.out | apply below_alloc | apply pw_below_drewN | apply below_drew1 | refine below_set ?_ GE117.out) | exact HB.out)⟩
 ·
  rw [if_neg c2] at H
  have c2b0 : decide (32 < (a0_2.size : Int)) = false := decide_eq_false c2
  have c2b1 : decide (32 < a0_2.size) = false := decide_eq_false (by omega)
  clear c2
  by_cases c5 : a0_0 = true
  ·
   subst c5
   have H1 : (if a0_1.toList = ([] : List UInt8) then (some (a0_3 == 0 && (a0_4 == 0))) else (some false)) = some r := by rw [if_pos rfl] at H; exact H
   clear H
   have H := H1
   clear H1
   by_cases c6 : a0_1.toList = ([] : List UInt8)
   ·
    rw [if_pos c6] at H
    have c6b0 : (a0_1.toList == ([] : List UInt8)) = true := beq_iff_eq.mpr c6
    have c6b1 : (a0_1.toList != ([] : List UInt8)) = false := bne_eq_false_iff_eq.mpr c6
    clear c6
    obtain rfl := Option.some.inj H
    go_enter Tryz.func33, Tryz.ntmps33
    go_wp2_with (first | ((with_reducible refine gate_dst (N := 1) rfl ?_); refine box_event ?hg (N := 1) ?hd (cs := #[.bool true, .string a0_1, .string a0_2, .int .u64 a0_3, .int .u64 a0_4]) (t := 34) ?hr ?_; (case hd => rfl); (case hg => rfl); (case hr => first | (go_simp; done) | (go_simp; rfl)); intro gb117 hg w7 hbox hb; have n0_ := aM' (below_step (by repeat (first | (with_reducible first | exact HB.out | apply below_alloc | apply pw_below_drewN | apply below_drew1) | exact HB.out)) hb); have n1_ := aM' (hbox); have n2_ := aM' ((by rw [hg]; exact (below_size (by repeat (first | (with_reducible first | exact HB.out | apply below_alloc | apply pw_below_drewN | apply below_drew1) | exact HB.out))) : w.heap.size ≤ gb117)); have n3_ := aM' ((by rw [hg]; exact (below_size (by repeat (first | (with_reducible first | exact HB.out | apply below_alloc | apply pw_below_drewN | apply below_drew1) | exact HB.out))) : w.heap.size ≤ gb117)); clear HB; have HB := n0_; have BK117 := n1_; have GW117 := n2_; have GE117 := n3_; clear n0_ n1_ n2_ n3_; clear hb hbox hg; have hcz8_0 : w7.cell? ⟨gb117, 0, none⟩ = some (.bool true) := (blk_cell BK117.out 0).trans rfl; have hcz8_1 : w7.cell? ⟨gb117, 1, none⟩ = some (.string a0_1) := (blk_cell BK117.out 1).trans rfl; have hcz8_2 : w7.cell? ⟨gb117, 2, none⟩ = some (.string a0_2) := (blk_cell BK117.out 2).trans rfl; have hcz8_3 : w7.cell? ⟨gb117, 3, none⟩ = some (.int .u64 a0_3) := (blk_cell BK117.out 3).trans rfl; have hcz8_4 : w7.cell? ⟨gb117, 4, none⟩ = some (.int .u64 a0_4) := (blk_cell BK117.out 4).trans rfl; have hfz8_0 := blk_frozen BK117.out 0; have hfz8_1 := blk_frozen BK117.out 1; have hfz8_2 := blk_frozen BK117.out 2; have hfz8_3 := blk_frozen BK117.out 3; have hfz8_4 := blk_frozen BK117.out 4))
    go_ret
    exact ⟨by first | rfl | (simp [errW_none, errW_some] <;> rfl) | (simp [*, errW_none, errW_some] <;> rfl), by repeat (first | (with_reducible first | exact HB.out | apply below_alloc | apply pw_below_drewN | apply below_drew1 | refine below_set ?_ GE117.out) | exact HB.out)⟩
   ·
    rw [if_neg c6] at H
    have c6b0 : (a0_1.toList == ([] : List UInt8)) = false := beq_eq_false_iff_ne.mpr c6
    have c6b1 : (a0_1.toList != ([] : List UInt8)) = true := bne_iff_ne.mpr c6
    obtain rfl := Option.some.inj H
    go_enter Tryz.func33, Tryz.ntmps33
    go_wp2_with (first | ((with_reducible refine gate_dst (N := 1) rfl ?_); refine box_event ?hg (N := 1) ?hd (cs := #[.bool true, .string a0_1, .string a0_2, .int .u64 a0_3, .int .u64 a0_4]) (t := 34) ?hr ?_; (case hd => rfl); (case hg => rfl); (case hr => first | (go_simp; done) | (go_simp; rfl)); intro gb117 hg w9 hbox hb; have n0_ := aM' (below_step (by repeat (first | (with_reducible first | exact HB.out | apply below_alloc | apply pw_below_drewN | apply below_drew1) | exact HB.out)) hb); have n1_ := aM' (hbox); have n2_ := aM' ((by rw [hg]; exact (below_size (by repeat (first | (with_reducible first | exact HB.out | apply below_alloc | apply pw_below_drewN | apply below_drew1) | exact HB.out))) : w.heap.size ≤ gb117)); have n3_ := aM' ((by rw [hg]; exact (below_size (by repeat (first | (with_reducible first | exact HB.out | apply below_alloc | apply pw_below_drewN | apply below_drew1) | exact HB.out))) : w.heap.size ≤ gb117)); clear HB; have HB := n0_; have BK117 := n1_; have GW117 := n2_; have GE117 := n3_; clear n0_ n1_ n2_ n3_; clear hb hbox hg; have hcz10_0 : w9.cell? ⟨gb117, 0, none⟩ = some (.bool true) := (blk_cell BK117.out 0).trans rfl; have hcz10_1 : w9.cell? ⟨gb117, 1, none⟩ = some (.string a0_1) := (blk_cell BK117.out 1).trans rfl; have hcz10_2 : w9.cell? ⟨gb117, 2, none⟩ = some (.string a0_2) := (blk_cell BK117.out 2).trans rfl; have hcz10_3 : w9.cell? ⟨gb117, 3, none⟩ = some (.int .u64 a0_3) := (blk_cell BK117.out 3).trans rfl; have hcz10_4 : w9.cell? ⟨gb117, 4, none⟩ = some (.int .u64 a0_4) := (blk_cell BK117.out 4).trans rfl; have hfz10_0 := blk_frozen BK117.out 0; have hfz10_1 := blk_frozen BK117.out 1; have hfz10_2 := blk_frozen BK117.out 2; have hfz10_3 := blk_frozen BK117.out 3; have hfz10_4 := blk_frozen BK117.out 4))
    go_ret
    exact ⟨by first | rfl | (simp [errW_none, errW_some] <;> rfl) | (simp [*, errW_none, errW_some] <;> rfl), by repeat (first | (with_reducible first | exact HB.out | apply below_alloc | apply pw_below_drewN | apply below_drew1 | refine below_set ?_ GE117.out) | exact HB.out)⟩
  ·
   replace c5 := Bool.eq_false_iff.mpr c5
   subst c5
   have H1 : ((tag_MayId.f a0_1).bind fun t118 => (some t118)) = some r := by rw [if_neg (show ¬ (false = true) by decide)] at H; exact H
   clear H
   have H := H1
   clear H1
   replace H := Option.bind_eq_some_iff.mp H
   obtain ⟨t118, A110, H⟩ := H
   replace H : (some t118) = some r := H
   have A11 := aM' A110
   clear A110
   obtain rfl := Option.some.inj H
   go_enter Tryz.func33, Tryz.ntmps33
   go_wp2_with (first | ((with_reducible refine gate_dst (N := 1) rfl ?_); refine box_event ?hg (N := 1) ?hd (cs := #[.bool false, .string a0_1, .string a0_2, .int .u64 a0_3, .int .u64 a0_4]) (t := 34) ?hr ?_; (case hd => rfl); (case hg => rfl); (case hr => first | (go_simp; done) | (go_simp; rfl)); intro gb117 hg w12 hbox hb; have n0_ := aM' (below_step (by repeat (first | (with_reducible first | exact HB.out | apply below_alloc | apply pw_below_drewN | apply below_drew1) | exact HB.out)) hb); have n1_ := aM' (hbox); have n2_ := aM' ((by rw [hg]; exact (below_size (by repeat (first | (with_reducible first | exact HB.out | apply below_alloc | apply pw_below_drewN | apply below_drew1) | exact HB.out))) : w.heap.size ≤ gb117)); have n3_ := aM' ((by rw [hg]; exact (below_size (by repeat (first | (with_reducible first | exact HB.out | apply below_alloc | apply pw_below_drewN | apply below_drew1) | exact HB.out))) : w.heap.size ≤ gb117)); clear HB; have HB := n0_; have BK117 := n1_; have GW117 := n2_; have GE117 := n3_; clear n0_ n1_ n2_ n3_; clear hb hbox hg; have hcz13_0 : w12.cell? ⟨gb117, 0, none⟩ = some (.bool false) := (blk_cell BK117.out 0).trans rfl; have hcz13_1 : w12.cell? ⟨gb117, 1, none⟩ = some (.string a0_1) := (blk_cell BK117.out 1).trans rfl; have hcz13_2 : w12.cell? ⟨gb117, 2, none⟩ = some (.string a0_2) := (blk_cell BK117.out 2).trans rfl; have hcz13_3 : w12.cell? ⟨gb117, 3, none⟩ = some (.int .u64 a0_3) := (blk_cell BK117.out 3).trans rfl; have hcz13_4 : w12.cell? ⟨gb117, 4, none⟩ = some (.int .u64 a0_4) := (blk_cell BK117.out 4).trans rfl; have hfz13_0 := blk_frozen BK117.out 0; have hfz13_1 := blk_frozen BK117.out 1; have hfz13_2 := blk_frozen BK117.out 2; have hfz13_3 := blk_frozen BK117.out 3; have hfz13_4 := blk_frozen BK117.out 4) | ((with_reducible refine gate_callee (f := 47) rfl ?_); refine goesL_ (some 20) rfl rfl Tryz.func47 (by kernel_rfl) rfl #[.string a0_1] rfl (by (try simp only [List.map_toArray, List.map_cons, List.map_nil]); first | done | rfl | (simp only [List.length_drop, List.length_take]; rfl)) ?_; (with_reducible refine (tag_MayId.calls a0_1 t118 _ ?side1 A11.out).mono ?_); (case side1 => exact LaidT.below HLD.out (by repeat (first | (with_reducible first | exact HB.out | apply below_alloc | apply pw_below_drewN | apply below_drew1 | refine below_set ?_ GE117.out) | exact HB.out))); rintro e w14 ⟨rfl, hb⟩; refine ⟨_, rfl, ?_⟩; have n0_ := aM' (blk_below (g := gb117) (o := .cells #[.bool false, .string a0_1, .string a0_2, .int .u64 a0_3, .int .u64 a0_4] 34 (0, 0)) (by (with_reducible repeat (first | refine blk_drewN ?_ _ | refine blk_drew ?_ | refine blk_alloc ?_ _)); exact BK117.out) hb); have n1_ := aM' (below_step (by repeat (first | (with_reducible first | exact HB.out | apply below_alloc | apply pw_below_drewN | apply below_drew1 | refine below_set ?_ GE117.out) | exact HB.out)) hb); clear BK117; clear HB; have BK117 := n0_; have HB := n1_; clear n0_ n1_; (try clear hb); (try clear hb2); (try clear hk); (try clear hi)))
   go_ret
   exact ⟨by first | rfl | (simp [errW_none, errW_some] <;> rfl) | (simp [*, errW_none, errW_some] <;> rfl), by repeat (first | (with_reducible first | exact HB.out | apply below_alloc | apply pw_below_drewN | apply below_drew1 | refine below_set ?_ GE117.out) | exact HB.out)⟩
def verify_asked_leaf.f (a0_0 : ByteArray) (a0_1 : Int) (a0_2 : Int) (a0_3 : Int) (a0_4 : Bool) (a0_5 : ByteArray) (a0_6 : ByteArray) (a0_7 : Int) (a0_8 : Int) (a0_9 : Int) (l0_10 : List (SNode)) : Option (Int) := (tag_MayLeaf.f a0_4 a0_5 a0_6 a0_7 a0_8).bind fun t120 => (if t120 = true then (some 0) else (some 130))
set_option maxHeartbeats 8000000 in
set_option maxRecDepth 100000 in
theorem verify_asked_leaf.calls (a0_0 : ByteArray) (a0_1 : Int) (a0_2 : Int) (a0_3 : Int) (a0_4 : Bool) (a0_5 : ByteArray) (a0_6 : ByteArray) (a0_7 : Int) (a0_8 : Int) (a0_9 : Int) (A0_10 : Option Addr) (c0_10 : Nat) (l0_10 : List (SNode)) (r : Int) (w : World) (hK : LaidT w) (hr0_10 : Kd.C kNode w A0_10 l0_10.length l0_10) (hc0_10 : l0_10.length ≤ c0_10) (h : verify_asked_leaf.f a0_0 a0_1 a0_2 a0_3 a0_4 a0_5 a0_6 a0_7 a0_8 a0_9 l0_10 = some r) :
  Calls Tryz.prog 20 #[.agg #[.string a0_0, .int .u64 a0_1, .int .u64 a0_2, .int .i64 a0_3, .bool a0_4, .string a0_5, .string a0_6, .int .u64 a0_7, .int .u64 a0_8, .int .u64 a0_9, .slice A0_10 l0_10.length c0_10]] w fun e w' => e = .returned (.int .i64 r) ∧ Below w.heap.size w w' := by
 have hu54 := Tryz.underlying54
 have hu34 := Tryz.underlying34
 have HR0_10 := aM' hr0_10
 have HC0_10 := aM' hc0_10
 clear hr0_10 hc0_10
 have HB := aM' (Below.refl w.heap.size w)
 have HLD := aM' hK
 clear hK
 have H : ((tag_MayLeaf.f a0_4 a0_5 a0_6 a0_7 a0_8).bind fun t120 => (if t120 = true then (some 0) else (some 130))) = some r := h
 clear h
 replace H := Option.bind_eq_some_iff.mp H
 obtain ⟨t120, A20, H⟩ := H
 replace H : (if t120 = true then (some 0) else (some 130)) = some r := H
 have A2 := aM' A20
 clear A20
 by_cases c3 : t120 = true
 ·
  subst c3
  have H1 : (some 0) = some r := by rw [if_pos rfl] at H; exact H
  clear H
  have H := H1
  clear H1
  obtain rfl := Option.some.inj H
  go_enter Tryz.func20, Tryz.ntmps20
  go_wp2_with (first | ((with_reducible refine gate_dst (N := 1) rfl ?_); refine box_event ?hg (N := 1) ?hd (cs := #[.string a0_0, .int .u64 a0_1, .int .u64 a0_2, .int .i64 a0_3, .bool a0_4, .string a0_5, .string a0_6, .int .u64 a0_7, .int .u64 a0_8, .int .u64 a0_9, .slice A0_10 l0_10.length c0_10]) (t := 54) ?hr ?_; (case hd => rfl); (case hg => rfl); (case hr => first | (go_simp; done) | (go_simp; rfl)); intro gb119 hg w4 hbox hb; have n0_ := aM' (below_step (by repeat (first | (with_reducible first | exact HB.out | apply below_alloc | apply pw_below_drewN | apply below_drew1) | exact HB.out)) hb); have n1_ := aM' (hbox); have n2_ := aM' ((by rw [hg]; exact (below_size (by repeat (first | (with_reducible first | exact HB.out | apply below_alloc | apply pw_below_drewN | apply below_drew1) | exact HB.out))) : w.heap.size ≤ gb119)); have n3_ := aM' ((by rw [hg]; exact (below_size (by repeat (first | (with_reducible first | exact HB.out | apply below_alloc | apply pw_below_drewN | apply below_drew1) | exact HB.out))) : w.heap.size ≤ gb119)); clear HB; have HB := n0_; have BK119 := n1_; have GW119 := n2_; have GE119 := n3_; clear n0_ n1_ n2_ n3_; clear hb hbox hg; have hcz5_0 : w4.cell? ⟨gb119, 0, none⟩ = some (.string a0_0) := (blk_cell BK119.out 0).trans rfl; have hcz5_1 : w4.cell? ⟨gb119, 1, none⟩ = some (.int .u64 a0_1) := (blk_cell BK119.out 1).trans rfl; have hcz5_2 : w4.cell? ⟨gb119, 2, none⟩ = some (.int .u64 a0_2) := (blk_cell BK119.out 2).trans rfl; have hcz5_3 : w4.cell? ⟨gb119, 3, none⟩ = some (.int .i64 a0_3) := (blk_cell BK119.out 3).trans rfl; have hcz5_4 : w4.cell? ⟨gb119, 4, none⟩ = some (.bool a0_4) := (blk_cell BK119.out 4).trans rfl; have hcz5_5 : w4.cell? ⟨gb119, 5, none⟩ = some (.string a0_5) := (blk_cell BK119.out 5).trans rfl; have hcz5_6 : w4.cell? ⟨gb119, 6, none⟩ = some (.string a0_6) := (blk_cell BK119.out 6).trans rfl; have hcz5_7 : w4.cell? ⟨gb119, 7, none⟩ = some (.int .u64 a0_7) := (blk_cell BK119.out 7).trans rfl; have hcz5_8 : w4.cell? ⟨gb119, 8, none⟩ = some (.int .u64 a0_8) := (blk_cell BK119.out 8).trans rfl; have hcz5_9 : w4.cell? ⟨gb119, 9, none⟩ = some (.int .u64 a0_9) := (blk_cell BK119.out 9).trans rfl; have hcz5_10 : w4.cell? ⟨gb119, 10, none⟩ = some (.slice A0_10 l0_10.length c0_10) := (blk_cell BK119.out 10).trans rfl; have hfz5_0 := blk_frozen BK119.out 0; have hfz5_1 := blk_frozen BK119.out 1; have hfz5_2 := blk_frozen BK119.out 2; have hfz5_3 := blk_frozen BK119.out 3; have hfz5_4 := blk_frozen BK119.out 4; have hfz5_5 := blk_frozen BK119.out 5; have hfz5_6 := blk_frozen BK119.out 6; have hfz5_7 := blk_frozen BK119.out 7; have hfz5_8 := blk_frozen BK119.out 8; have hfz5_9 := blk_frozen BK119.out 9; have hfz5_10 := blk_frozen BK119.out 10) | ((with_reducible refine gate_callee (f := 33) rfl ?_); refine goesL_ (some 6) rfl rfl Tryz.func33 (by kernel_rfl) rfl #[.agg #[.bool a0_4, .string a0_5, .string a0_6, .int .u64 a0_7, .int .u64 a0_8]] rfl (by (try simp only [List.map_toArray, List.map_cons, List.map_nil]); first | done | rfl | (simp only [List.length_drop, List.length_take]; rfl)) ?_; (with_reducible refine (tag_MayLeaf.calls a0_4 a0_5 a0_6 a0_7 a0_8 true _ ?side1 A2.out).mono ?_); (case side1 => exact LaidT.below HLD.out (by repeat (first | (with_reducible first | exact HB.out | apply below_alloc | apply pw_below_drewN | apply below_drew1 | refine below_set ?_ GE119.out) | exact HB.out))); rintro e w6 ⟨rfl, hb⟩; refine ⟨_, rfl, ?_⟩; have n0_ := aM' (blk_below (g := gb119) (o := .cells #[.string a0_0, .int .u64 a0_1, .int .u64 a0_2, .int .i64 a0_3, .bool a0_4, .string a0_5, .string a0_6, .int .u64 a0_7, .int .u64 a0_8, .int .u64 a0_9, .slice A0_10 l0_10.length c0_10] 54 (0, 0)) (by (with_reducible repeat (first | refine blk_drewN ?_ _ | refine blk_drew ?_ | refine blk_alloc ?_ _)); exact BK119.out) hb); have n1_ := aM' (below_step (by repeat (first | (with_reducible first | exact HB.out | apply below_alloc | apply pw_below_drewN | apply below_drew1 | refine below_set ?_ GE119.out) | exact HB.out)) hb); clear BK119; clear HB; have BK119 := n0_; have HB := n1_; clear n0_ n1_; (try clear hb); (try clear hb2); (try clear hk); (try clear hi)))
  go_ret
  exact ⟨by first | rfl | (simp [errW_none, errW_some] <;> rfl) | (simp [*, errW_none, errW_some] <;> rfl), by repeat (first | (with_reducible first | exact HB.out | apply below_alloc | apply pw_below_drewN | apply below_drew1 | refine below_set ?_ GE119.out) | exact HB.out)⟩
 ·
  replace c3 := Bool.eq_false_iff.mpr c3
  subst c3
  have H1 : (some 130) = some r := by rw [if_neg (show ¬ (false = true) by decide)] at H; exact H
  clear H
  have H := H1
  clear H1
  obtain rfl := Option.some.inj H
  go_enter Tryz.func20, Tryz.ntmps20
  go_wp2_with (first | ((with_reducible refine gate_dst (N := 1) rfl ?_); refine box_event ?hg (N := 1) ?hd (cs := #[.string a0_0, .int .u64 a0_1, .int .u64 a0_2, .int .i64 a0_3, .bool a0_4, .string a0_5, .string a0_6, .int .u64 a0_7, .int .u64 a0_8, .int .u64 a0_9, .slice A0_10 l0_10.length c0_10]) (t := 54) ?hr ?_; (case hd => rfl); (case hg => rfl); (case hr => first | (go_simp; done) | (go_simp; rfl)); intro gb119 hg w7 hbox hb; have n0_ := aM' (below_step (by repeat (first | (with_reducible first | exact HB.out | apply below_alloc | apply pw_below_drewN | apply below_drew1) | exact HB.out)) hb); have n1_ := aM' (hbox); have n2_ := aM' ((by rw [hg]; exact (below_size (by repeat (first | (with_reducible first | exact HB.out | apply below_alloc | apply pw_below_drewN | apply below_drew1) | exact HB.out))) : w.heap.size ≤ gb119)); have n3_ := aM' ((by rw [hg]; exact (below_size (by repeat (first | (with_reducible first | exact HB.out | apply below_alloc | apply pw_below_drewN | apply below_drew1) | exact HB.out))) : w.heap.size ≤ gb119)); clear HB; have HB := n0_; have BK119 := n1_; have GW119 := n2_; have GE119 := n3_; clear n0_ n1_ n2_ n3_; clear hb hbox hg; have hcz8_0 : w7.cell? ⟨gb119, 0, none⟩ = some (.string a0_0) := (blk_cell BK119.out 0).trans rfl; have hcz8_1 : w7.cell? ⟨gb119, 1, none⟩ = some (.int .u64 a0_1) := (blk_cell BK119.out 1).trans rfl; have hcz8_2 : w7.cell? ⟨gb119, 2, none⟩ = some (.int .u64 a0_2) := (blk_cell BK119.out 2).trans rfl; have hcz8_3 : w7.cell? ⟨gb119, 3, none⟩ = some (.int .i64 a0_3) := (blk_cell BK119.out 3).trans rfl; have hcz8_4 : w7.cell? ⟨gb119, 4, none⟩ = some (.bool a0_4) := (blk_cell BK119.out 4).trans rfl; have hcz8_5 : w7.cell? ⟨gb119, 5, none⟩ = some (.string a0_5) := (blk_cell BK119.out 5).trans rfl; have hcz8_6 : w7.cell? ⟨gb119, 6, none⟩ = some (.string a0_6) := (blk_cell BK119.out 6).trans rfl; have hcz8_7 : w7.cell? ⟨gb119, 7, none⟩ = some (.int .u64 a0_7) := (blk_cell BK119.out 7).trans rfl; have hcz8_8 : w7.cell? ⟨gb119, 8, none⟩ = some (.int .u64 a0_8) := (blk_cell BK119.out 8).trans rfl; have hcz8_9 : w7.cell? ⟨gb119, 9, none⟩ = some (.int .u64 a0_9) := (blk_cell BK119.out 9).trans rfl; have hcz8_10 : w7.cell? ⟨gb119, 10, none⟩ = some (.slice A0_10 l0_10.length c0_10) := (blk_cell BK119.out 10).trans rfl; have hfz8_0 := blk_frozen BK119.out 0; have hfz8_1 := blk_frozen BK119.out 1; have hfz8_2 := blk_frozen BK119.out 2; have hfz8_3 := blk_frozen BK119.out 3; have hfz8_4 := blk_frozen BK119.out 4; have hfz8_5 := blk_frozen BK119.out 5; have hfz8_6 := blk_frozen BK119.out 6; have hfz8_7 := blk_frozen BK119.out 7; have hfz8_8 := blk_frozen BK119.out 8; have hfz8_9 := blk_frozen BK119.out 9; have hfz8_10 := blk_frozen BK119.out 10) | ((with_reducible refine gate_callee (f := 33) rfl ?_); refine goesL_ (some 6) rfl rfl Tryz.func33 (by kernel_rfl) rfl #[.agg #[.bool a0_4, .string a0_5, .string a0_6, .int .u64 a0_7, .int .u64 a0_8]] rfl (by (try simp only [List.map_toArray, List.map_cons, List.map_nil]); first | done | rfl | (simp only [List.length_drop, List.length_take]; rfl)) ?_; (with_reducible refine (tag_MayLeaf.calls a0_4 a0_5 a0_6 a0_7 a0_8 false _ ?side1 A2.out).mono ?_); (case side1 => exact LaidT.below HLD.out (by repeat (first | (with_reducible first | exact HB.out | apply below_alloc | apply pw_below_drewN | apply below_drew1 | refine below_set ?_ GE119.out) | exact HB.out))); rintro e w9 ⟨rfl, hb⟩; refine ⟨_, rfl, ?_⟩; have n0_ := aM' (blk_below (g := gb119) (o := .cells #[.string a0_0, .int .u64 a0_1, .int .u64 a0_2, .int .i64 a0_3, .bool a0_4, .string a0_5, .string a0_6, .int .u64 a0_7, .int .u64 a0_8, .int .u64 a0_9, .slice A0_10 l0_10.length c0_10] 54 (0, 0)) (by (with_reducible repeat (first | refine blk_drewN ?_ _ | refine blk_drew ?_ | refine blk_alloc ?_ _)); exact BK119.out) hb); have n1_ := aM' (below_step (by repeat (first | (with_reducible first | exact HB.out | apply below_alloc | apply pw_below_drewN | apply below_drew1 | refine below_set ?_ GE119.out) | exact HB.out)) hb); clear BK119; clear HB; have BK119 := n0_; have HB := n1_; clear n0_ n1_; (try clear hb); (try clear hb2); (try clear hk); (try clear hi)))
  go_ret
  exact ⟨by first | rfl | (simp [errW_none, errW_some] <;> rfl) | (simp [*, errW_none, errW_some] <;> rfl), by repeat (first | (with_reducible first | exact HB.out | apply below_alloc | apply pw_below_drewN | apply below_drew1 | refine below_set ?_ GE119.out) | exact HB.out)⟩
end Go.Proofs.YtlmmpncdemblbaaGreatDoor.P
namespace Go.Proofs.YtlmmpncdemblbaaGreatDoor.P
open Go.RowKit Go.Proofs.YtlmmpncdemblbaaGreatDoorW.PrintWords Go.Proofs.YtlmmpncdemblbaaGreatDoorW.PrintLast Go.Proofs.YtlmmpncdemblbaaGreatDoorW.PrintMore
set_option linter.unusedVariables false
set_option linter.unusedSimpArgs false
set_option linter.unnecessarySimpa false
theorem bldSize : (Tryz.prog.info? 155).map (·.size) = some 2 := by kernel_rfl
theorem bldLies : liesAt Tryz.prog Tryz.prog.depth 155 (2 / Tryz.prog.cellsOf 155) 0 155 1 = true := by kernel_rfl
theorem byteInfo : (Tryz.prog.info? 5).map (fun i => (i.zero, i.size, i.bytes)) = some (some (.int .u8 0), 1, 1) := by kernel_rfl
theorem noEscapeExt (w : World) (x : Value) : (callFunc 118 #[x]).run Tryz.prog w = .ok (.value x) w := by
 rw [run_callFunc_extern Tryz.func118 (by kernel_rfl) (by kernel_rfl) (by kernel_rfl) (e := Extern.AbiNoEscape.same) (by kernel_rfl)]
 rw [Lib.run_noEscape]
 rfl
set_option maxHeartbeats 1000000 in
set_option maxRecDepth 100000 in
theorem copyCheck_used (b : Nat) (w : World) (h0 : w.cell? ⟨b, 0, none⟩ = some (.pointer (some ⟨b, 0, none⟩))) :
  Calls Tryz.prog 115 #[.pointer (some ⟨b, 0, none⟩)] w fun e w' => e = .returned (.tuple #[]) ∧ w' = w := by
 obtain ⟨j, hj, _⟩ := Option.map_eq_some_iff.1 bldSize
 go_enter Tryz.func115, Tryz.ntmps115
 go_wp2
 rw [Lib.run_neq_ptr_same w _ Tryz.underlying153 hj]
 go_wp2
 go_end0
 exact ⟨rfl, rfl⟩
set_option maxHeartbeats 1000000 in
set_option maxRecDepth 100000 in
theorem copyCheck_fresh (b : Nat) (w : World) (h0 : w.cell? ⟨b, 0, none⟩ = some (.pointer none)) (hsh : w.shape? b = some (155, 2)) (hfz : w.frozen? ⟨b, 0, none⟩ = false) :
  Calls Tryz.prog 115 #[.pointer (some ⟨b, 0, none⟩)] w fun e w' => e = .returned (.tuple #[]) ∧ w' = w.setCell ⟨b, 0, none⟩ (.pointer (some ⟨b, 0, none⟩)) := by
 obtain ⟨j, hj, hjs⟩ := Option.map_eq_some_iff.1 bldSize
 go_enter Tryz.func115, Tryz.ntmps115
 go_wp2
 rw [Lib.run_to_unsafe w ⟨b, 0, none⟩ Tryz.underlying153 Tryz.underlying166 hj (by rw [hjs]; decide) hsh (Nat.zero_lt_succ 1)]
 simp only [Result.andThen]
 rw [Oper.upon_value]
 go_wp2
 rw [noEscapeExt]
 rw [Oper.upon_value]
 go_wp2
 rw [Lib.run_from_unsafe w ⟨b, 0, none⟩ Tryz.underlying166 Tryz.underlying153 hj hsh bldLies]
 simp only [Result.andThen]
 rw [Oper.upon_value]
 go_wp2
 go_end0
 exact ⟨rfl, rfl⟩
theorem copyCheck.calls (B b : Nat) (bs : List Value) (w : World) (h : Lib.IsBuilder 155 5 B b bs w) :
  Calls Tryz.prog 115 #[.pointer (some ⟨b, 0, none⟩)] w fun e w' => e = .returned (.tuple #[]) ∧ (Lib.BuilderAt 155 5 B b (.pointer (some ⟨b, 0, none⟩)) bs w' ∧ Below B w w') := by
 rcases h with h | h
 ·
  refine (copyCheck_fresh b w h.cell0 h.shape h.frozen0).mono ?_
  rintro e w' ⟨rfl, rfl⟩
  exact ⟨rfl, h.used _, (Below.refl B w).setCell (p := ⟨b, 0, none⟩) h.1 _⟩
 ·
  refine (copyCheck_used b w h.cell0).mono ?_
  rintro e w' ⟨rfl, rfl⟩
  exact ⟨rfl, h, Below.refl B _⟩
set_option maxHeartbeats 2000000 in
set_option maxRecDepth 100000 in
theorem writeByte.calls (B b : Nat) (bs : List Value) (c : Int) (w : World) (h : Lib.IsBuilder 155 5 B b bs w) (hlen : bs.length + 1 ≤ 140737488355328) (hBw : B ≤ w.heap.size) :
  Calls Tryz.prog 108 #[.pointer (some ⟨b, 0, none⟩), .int .u8 c] w fun e w' => e = .returned .nilIface ∧ (Lib.IsBuilder 155 5 B b (bs ++ [.int .u8 c]) w' ∧ Below B w w') := by
 obtain ⟨i0, hi, hz0, hz1, hz2⟩ := info_parts byteInfo
 go_enter Tryz.func108, Tryz.ntmps108
 go_wp2_with fail
 refine (copyCheck.calls B b bs _ h).mono ?_
 rintro e w1 ⟨rfl, h1, hb1⟩
 obtain ⟨hB, v, hbk, hown, hne⟩ := h1
 have c0 : w1.cell? ⟨b, 0, none⟩ = some (.pointer (some ⟨b, 0, none⟩)) := by rw [Lib.cell_of_heap hbk]; rfl
 have c1 : w1.cell? ⟨b, 1, none⟩ = some v := by rw [Lib.cell_of_heap hbk]; rfl
 go_wp2_with (at_builtin; refine wpList_append_own _ rfl _ _ 96 rfl B 5 i0 (.int .u8 0) 1 1 Tryz.underlying96 hi hz0 hz1 hz2 rfl (by decide) _ _ _ rfl (hown.alloc _) ⟨w1.heap.size, 0, none⟩ 1 1 [.int .u8 c] rfl rfl ?c1 ?c2 ?c3 ?c4 ?c5 ?_)
 case c1 =>
  intro j u hj
  match j, hj with
  | 0, hj => simp at hj; subst hj; simp [Addr.add]
 case c2 => intro u hu; simp at hu; subst hu; rfl
 case c3 => unfold maxLen; omega
 case c4 => omega
 case c5 => have := hb1.size; simp; omega
 intro v' w2 hown' hgrow _
 have hlt : b < w1.heap.size := by
  rcases Nat.lt_or_ge b w1.heap.size with h' | h'
  ·
   exact h'
  ·
   simp [Array.getElem?_eq_none h'] at hbk
 have hb2 : w2.heap[b]? = some (.cells #[.pointer (some ⟨b, 0, none⟩), v] 155 (0, 0)) := by
  rw [hgrow.block b (by simp; omega) (fun e => hne e.symm), Lib.alloc_old w1 _ b hlt]
  exact hbk
 have d0 : w2.cell? ⟨b, 0, none⟩ = some (.pointer (some ⟨b, 0, none⟩)) := by rw [Lib.cell_of_heap hb2]; rfl
 have d1 : w2.cell? ⟨b, 1, none⟩ = some v := by rw [Lib.cell_of_heap hb2]; rfl
 have f1 : w2.frozen? ⟨b, 1, none⟩ = false := Lib.frozen_of_heap hb2 1
 obtain ⟨g, cap, rfl⟩ : ∃ g cap, v' = .slice (some ⟨g, 0, none⟩) (bs.length + 1) cap := by
  rcases hown'.2 with ⟨_, h0⟩ | ⟨g, cap, cur, hv, _⟩
  ·
   omega
  ·
   exact ⟨g, cap, hv⟩
 go_wp2
 go_ret
 refine ⟨rfl, ?_, ?_⟩
 ·
  exact .inr (Lib.BuilderAt.put (T := 155) (e := 5) hB hb2 (bs' := bs ++ [.int .u8 c]) (by simpa using hown') (by decide))
 ·
  exact ((hb1.alloc (by have := hb1.size; omega) _).grown hgrow (by have := hb1.size; simp; omega) (fun k hk => (hown.lt k hk).1)).setCell (p := ⟨b, 1, none⟩) hB _
def BAt (R b : Nat) (p : Value) (bs : List Value) (w : World) : Prop :=
 ∃ v, w.heap[b]? = some (.cells #[p, v] 155 (0, 0)) ∧ w.ownsRow R 5 1 v bs.length bs ∧ v.ownBlock ≠ some b
def IsBAt (R b : Nat) (bs : List Value) (w : World) : Prop := BAt R b (.pointer none) bs w ∨ BAt R b (.pointer (some ⟨b, 0, none⟩)) bs w
structure KeepsBut (R b : Nat) (w w' : World) : Prop where
 os : w'.os = w.os
 tape : w'.tape = w.tape
 output : w'.output = w.output
 size : w.heap.size ≤ w'.heap.size
 block : ∀ k, k < R → k ≠ b → w'.heap[k]? = w.heap[k]?
theorem KeepsBut.refl (R b : Nat) (w : World) : KeepsBut R b w w := ⟨rfl, rfl, rfl, Nat.le_refl _, fun _ _ _ => rfl⟩
theorem KeepsBut.trans {R b : Nat} {w w1 w2 : World} (h : KeepsBut R b w w1) (k : KeepsBut R b w1 w2) : KeepsBut R b w w2 :=
 ⟨k.os.trans h.os, k.tape.trans h.tape, k.output.trans h.output, Nat.le_trans h.size k.size, fun i hi hn => (k.block i hi hn).trans (h.block i hi hn)⟩
theorem KeepsBut.below {R b : Nat} {w w1 : World} (h : KeepsBut R b w w1) (hb : b ≤ R) : Below b w w1 := ⟨h.os, h.tape, h.output, h.size, fun i hi => h.block i (by omega) (by omega)⟩
theorem IsBAt.builder {R b : Nat} {bs : List Value} {w : World} (h : IsBAt R b bs w) (hb : b ≤ R) : Lib.IsBuilder 155 5 b b bs w := by
 have key : ∀ p, BAt R b p bs w → Lib.BuilderAt 155 5 b b p bs w := by
  rintro p ⟨v, h1, ⟨hl, h2⟩, h3⟩
  refine ⟨Nat.le_refl _, v, h1, ⟨hl, ?_⟩, h3⟩
  rcases h2 with h2 | ⟨g, cap, cur, e1, e2, e3⟩
  ·
   exact .inl h2
  ·
   exact .inr ⟨g, cap, cur, e1, by omega, e3⟩
 rcases h with h | h
 ·
  exact .inl (key _ h)
 ·
  exact .inr (key _ h)
theorem BAt.fresh (R b : Nat) (w : World) (h : w.heap[b]? = some (.cells #[.pointer none, .slice none 0 0] 155 (0, 0))) : IsBAt R b [] w :=
 .inl ⟨_, h, ⟨rfl, .inl ⟨rfl, rfl⟩⟩, by simp [Value.ownBlock]⟩
theorem BAt.used {R b : Nat} {p : Value} {bs : List Value} {w : World} (h : BAt R b p bs w) (q : Value) : BAt R b q bs (w.setCell ⟨b, 0, none⟩ q) := by
 obtain ⟨v, hb, hown, hne⟩ := h
 refine ⟨v, ?_, ?_, hne⟩
 ·
  have := blk_set hb 0 q
  simpa using this
 ·
  obtain ⟨hl, h2⟩ := hown
  refine ⟨hl, ?_⟩
  rcases h2 with h2 | ⟨g, cap, cur, e1, e2, e3, e4⟩
  ·
   exact .inl h2
  ·
   refine .inr ⟨g, cap, cur, e1, e2, ?_, e4⟩
   have hgb : g ≠ b := by intro e; rw [e1, e] at hne; exact hne rfl
   exact (Below.heap_setCell w _ q g hgb).trans e3
end Go.Proofs.YtlmmpncdemblbaaGreatDoor.P
namespace Go.Proofs.YtlmmpncdemblbaaGreatDoor.P
open Go.RowKit Go.Proofs.YtlmmpncdemblbaaGreatDoorW.PrintWords Go.Proofs.YtlmmpncdemblbaaGreatDoorW.PrintLast Go.Proofs.YtlmmpncdemblbaaGreatDoorW.PrintMore
set_option linter.unusedVariables false
set_option linter.unusedSimpArgs false
set_option linter.unnecessarySimpa false
def padZ (n : Int) : Nat := ((119 - n) % 64).toNat
def padB (n : Int) (i : Nat) : Int := IntKind.u64.wrap (n * 8) / 2 ^ (56 - 8 * i) % 256
def padL (n : Int) (k : Nat) : List UInt8 := 128 :: (List.replicate (padZ n) 0 ++ (List.range k).map fun i => (padB n i).toNat.toUInt8)
theorem padL_step (n : Int) (k : Nat) : Lib.byteCells (padL n (k + 1)) = Lib.byteCells (padL n k) ++ [.int .u8 (padB n k)] := by
 have h0 : 0 ≤ padB n k := Int.emod_nonneg _ (by decide)
 have h1 : padB n k < 256 := Int.emod_lt_of_pos _ (by decide)
 simp only [padL, Lib.byteCells, List.range_succ, List.map_append, List.map_cons, List.map_nil, List.cons_append, List.append_assoc]
 congr 4
 have : ((padB n k).toNat.toUInt8.toNat : Int) = padB n k := by
  rw [Nat.toUInt8, UInt8.toNat_ofNat']
  omega
 rw [this]
def padI (n : Int) : ByteArray := ⟨(padL n 8).toArray⟩
set_option maxRecDepth 100000 in
set_option maxHeartbeats 4000000 in
theorem padding.calls (n : Int) (h0 : 0 ≤ n) (h1 : n < 18446744073709551616) (w : World) :
  Calls Tryz.prog 98 #[.int .u64 n] w fun e w' => e = .returned (.string (padI n)) ∧ Below w.heap.size w w' := by
 go_enter Tryz.func98, Tryz.ntmps98
 go_wp2_with fail
 refine (writeByte.calls w.heap.size w.heap.size [] 128 _ (Lib.fresh_isBuilder _ _ w) (by decide) (by simp)).mono ?_
 rintro e w1 ⟨rfl, hb1, hB1⟩
 have hBB : Below w.heap.size w w1 := Below.trans (below_alloc (Below.refl _ _) _) hB1
 have HB1 := aM' hb1
 have HBB := aM' hBB
 clear hb1 hB1 hBB
 go_wp2_with fail
 go_loopw [6] (fun v wr => ∃ k : Nat, (intOf v).toNat = k ∧ k ≤ padZ n ∧ Aside0 (Lib.IsBuilder 155 5 w.heap.size w.heap.size (Lib.byteCells (128 :: List.replicate k 0)) wr) ∧ Aside0 (Below w.heap.size w wr)) (fun v _ => padZ n + 1 - (intOf v).toNat)
 case atStart => exact ⟨0, rfl, by omega, HB1, HBB⟩
 case round =>
  obtain ⟨k, hv, hk, HB, HW⟩ := hrel
  have hzz : ((padZ n : Nat) : Int) = (119 - n) % 64 := by simp only [padZ]; omega
  have HV := aM' hv
  clear hv
  by_cases hlt : k < padZ n
  ·
   have b1 : decide ((k : Int) + 1 < 1 + (119 - n) % 64) = true := decide_eq_true (by omega)
   have HZ := aM' hzz
   clear hzz
   go_wp2_with fail
   refine (Tryz.Builder_Len w.heap.size w.heap.size _ _ HB.out).mono ?_
   rintro e w2 ⟨rfl, rfl⟩
   have hl : (((Lib.byteCells (128 :: List.replicate k 0)).length : Nat) : Int) = (k : Int) + 1 := by simp [Lib.byteCells]
   rw [hl]
   clear hl
   go_wp2_with fail
   refine (writeByte.calls w.heap.size w.heap.size _ 0 _ HB.out (by simp [Lib.byteCells]; have := HZ.out; omega) HW.out.size).mono ?_
   rintro e w1 ⟨rfl, hb1, hB1⟩
   have HB2 := aM' hb1
   have HW2 := aM' (HW.out.trans hB1)
   clear hb1 hB1 b1
   go_wp2_with fail
   go_roundw
   case rel =>
    refine ⟨k + 1, by simp [intOf], hlt, ⟨?_⟩, HW2⟩
    have e2 : Lib.byteCells (128 :: List.replicate (k + 1) 0) = Lib.byteCells (128 :: List.replicate k 0) ++ [.int .u8 0] := by
     simp [Lib.byteCells, List.replicate_succ']
    rw [e2]
    exact HB2.out
   case measure => rw [HV.out]; simp [intOf]; omega
  ·
   have b1 : decide ((k : Int) + 1 < 1 + (119 - n) % 64) = false := decide_eq_false (by omega)
   have HZ := aM' hzz
   clear hzz
   go_wp2_with fail
   refine (Tryz.Builder_Len w.heap.size w.heap.size _ _ HB.out).mono ?_
   rintro e w2 ⟨rfl, rfl⟩
   have hl : (((Lib.byteCells (128 :: List.replicate k 0)).length : Nat) : Int) = (k : Int) + 1 := by simp [Lib.byteCells]
   rw [hl]
   clear hl
   go_wp2_with fail
   obtain rfl : k = padZ n := by omega
   have e119 : (119 - n % 64) % 64 = (119 - n) % 64 := by omega
   rw [e119]
   clear e119
   go_loopw [4] (fun v wr => ∃ i : Nat, v = .int .i64 (56 - 8 * (i : Int)) ∧ i ≤ 8 ∧ Aside0 (Lib.IsBuilder 155 5 w.heap.size w.heap.size (Lib.byteCells (padL n i)) wr) ∧ Aside0 (Below w.heap.size w wr)) (fun v _ => (8 + intOf v).toNat)
   case atStart => exact ⟨0, rfl, by omega, ⟨by simpa [padL] using HB.out⟩, HW⟩
   case round =>
    obtain ⟨i, rfl, hi, HB3, HW3⟩ := hrel
    by_cases hlt2 : i < 8
    ·
     have b2 : decide (0 ≤ 56 - 8 * (i : Int)) = true := decide_eq_true (by omega)
     have b3 : 0 ≤ 56 - 8 * (i : Int) := by omega
     clear b1
     go_wp2_with fail
     refine (writeByte.calls w.heap.size w.heap.size _ (padB n i) _ HB3.out (by simp [Lib.byteCells, padL]; have := HZ.out; omega) HW3.out.size).mono ?_
     rintro e w1 ⟨rfl, hb1, hB1⟩
     rw [← padL_step] at hb1
     have HB4 := aM' hb1
     have HW4 := aM' (HW3.out.trans hB1)
     have e8 : IntKind.i64.wrap (56 - 8 * (i : Int) - 8) = 56 - 8 * ((i + 1 : Nat) : Int) := by
      rw [IntWalk.i64_in _ (by omega)]; omega
     clear hb1 hB1 b2 b3
     go_wp2_with fail
     go_roundw
     case rel =>
      exact ⟨i + 1, by go_num, by omega, HB4, HW4⟩
     case measure => simp [intOf]; omega
    ·
     have b2 : decide (0 ≤ 56 - 8 * (i : Int)) = false := decide_eq_false (by omega)
     clear b1
     go_wp2_with fail
     obtain rfl : i = 8 := by omega
     refine (Tryz.Builder_String_any w.heap.size w.heap.size _ _ HB3.out HW3.out.size).mono ?_
     rintro e w2 ⟨rfl, hB2⟩
     go_wp2
     go_ret
     exact ⟨rfl, HW3.out.trans hB2⟩
def wordL (x : Int) : List Int := [x / 16777216 % 256, x / 65536 % 256, x / 256 % 256, x % 256]
def digL (s : S8) (k : Nat) : List Int := (List.range k).flatMap fun i => wordL (s.get i)
def digestI (s : S8) : ByteArray := strOfNums (digL s 8)
theorem digL_succ (s : S8) (k : Nat) : digL s (k + 1) = digL s k ++ wordL (s.get k) := by simp [digL, List.range_succ]
theorem digL_length (s : S8) (k : Nat) : (digL s k).length = 4 * k := by
 induction k with
 | zero => rfl
 | succ k ih => rw [digL_succ, List.length_append, ih]; simp [wordL]; omega
theorem nums_append (k : IntKind) (a b : List Int) : nums k (a ++ b) = nums k a ++ nums k b := by simp [nums]
set_option maxRecDepth 1000000 in
theorem state_index (s : S8) (k : Nat) (h : k < 8) (w : World) : (Instr.index 135 (.agg #[.int .u32 s.x0, .int .u32 s.x1, .int .u32 s.x2, .int .u32 s.x3, .int .u32 s.x4, .int .u32 s.x5, .int .u32 s.x6, .int .u32 s.x7]) (.int .i64 (k : Int))).run Tryz.prog w = .ok (.int .u32 (s.get k)) w := by
 have : k = 0 ∨ k = 1 ∨ k = 2 ∨ k = 3 ∨ k = 4 ∨ k = 5 ∨ k = 6 ∨ k = 7 := by omega
 rcases this with h | h | h | h | h | h | h | h <;> subst h <;> rfl
set_option maxRecDepth 100000 in
set_option maxHeartbeats 4000000 in
theorem digest.calls (s : S8) (w : World) :
  Calls Tryz.prog 99 #[stV s] w fun e w' => e = .returned (.string (digestI s)) ∧ Below w.heap.size w w' := by
 have hu := Tryz.underlying135
 obtain ⟨i0, hi, hz0, hz1, hz2⟩ := info_parts byteInfo
 go_enter Tryz.func99, Tryz.ntmps99
 go_wp2_with fail
 go_loopw [7, 3] (fun v u wr => ∃ k : Nat, v = .int .i64 k ∧ k ≤ 8 ∧ Aside0 (wr.ownsRow w.heap.size 5 1 u (4 * k) (nums .u8 (digL s k))) ∧ Aside0 (Below w.heap.size w wr)) (fun v _ _ => 8 - (intOf v).toNat)
 case atStart => exact ⟨0, rfl, by omega, ⟨⟨rfl, .inl ⟨rfl, rfl⟩⟩⟩, ⟨below_alloc (Below.refl _ _) _⟩⟩
 case round =>
  obtain ⟨k, rfl, hk, HO, HB⟩ := hrel
  by_cases hlt : k < 8
  ·
   have b1 : decide ((k : Int) < 8) = true := decide_eq_true (by omega)
   have g1 : (k : Int) < 8 := by omega
   have hix := state_index s k hlt
   obtain ⟨x, hx⟩ : ∃ x, x = s.get k := ⟨_, rfl⟩
   rw [← hx] at hix
   have HX := aM' hx
   clear hx
   have hl0 := HO.out.1
   go_wp2_with (at_builtin; refine wpList_append_own _ rfl _ _ 96 rfl w.heap.size 5 i0 (.int .u8 0) 1 1 Tryz.underlying96 hi hz0 hz1 hz2 rfl (by decide) _ _ _ rfl (HO.out.alloc _) ⟨wr.heap.size, 0, none⟩ 4 4 (nums .u8 (wordL x)) rfl rfl ?c1 ?c2 ?c3 ?c4 ?c5 ?_)
   case c1 =>
    intro j u hj
    match j, hj with
    | 0, hj => simp [nums, wordL] at hj; subst hj; simp [Addr.add]
    | 1, hj => simp [nums, wordL] at hj; subst hj; simp [Addr.add]
    | 2, hj => simp [nums, wordL] at hj; subst hj; simp [Addr.add]
    | 3, hj => simp [nums, wordL] at hj; subst hj; simp [Addr.add]
   case c2 => intro u hu; simp [nums, wordL] at hu; rcases hu with hu | hu | hu | hu <;> subst hu <;> rfl
   case c3 => unfold maxLen; omega
   case c4 => omega
   case c5 => have := HB.out.size; simp; omega
   intro v' w2 hown' hgrow _
   have HO2 := aM' hown'
   have HB2 := aM' (((HB.out.alloc HB.out.size _)).grown hgrow (by have := HB.out.size; simp; omega) (fun k hk => (HO.out.lt k hk).1))
   clear hown' hgrow hix
   go_wp2_with fail
   go_roundw
   case rel =>
    refine ⟨k + 1, by go_num, by omega, ⟨?_⟩, HB2⟩
    rw [digL_succ, ← HX.out, nums_append]
    exact HO2.out
   case measure => simp [intOf]; omega
  ·
   have b1 : decide ((k : Int) < 8) = false := decide_eq_false (by omega)
   obtain rfl : k = 8 := by omega
   have hown := HO.out
   obtain ⟨hl, h2⟩ := hown
   rcases h2 with ⟨_, h0⟩ | ⟨g, cap, cur, rfl, e2, e3, e4, e5, e6, e7⟩
   ·
    omega
   have hcv := run_convert_bytes_arg wr 96 5 Tryz.underlying96 Tryz.underlying5 g 0 32 cap (digL s 8) (digL_length s 8) (fun i hi => by
    have h1 : (cur.toList.take (4 * 8 * 1))[i]? = some (.int .u8 ((digL s 8).getD i 0)) := by
     rw [e7]; simp [nums, digL_length, hi]
    rw [List.getElem?_take_of_lt (by omega)] at h1
    rw [Nat.zero_add, blk_cell e3 i]
    simpa using h1) 9 Tryz.underlying9
   have HB2 := HB
   clear HO e3 e7 HB
   go_wp2_with fail
   go_ret
   exact ⟨rfl, HB2.out⟩
end Go.Proofs.YtlmmpncdemblbaaGreatDoor.P
namespace Go.Proofs.YtlmmpncdemblbaaGreatDoor.P
open Go.RowKit Go.Proofs.YtlmmpncdemblbaaGreatDoorW.PrintWords Go.Proofs.YtlmmpncdemblbaaGreatDoorW.PrintLast Go.Proofs.YtlmmpncdemblbaaGreatDoorW.PrintMore
set_option linter.unusedVariables false
set_option linter.unusedSimpArgs false
set_option linter.unnecessarySimpa false
def firstI : S8 := ⟨1779033703, 3144134277, 1013904242, 2773480762, 1359893119, 2600822924, 528734635, 1541459225⟩
theorem first.calls (w : World) : Calls Tryz.prog 92 #[] w fun e w' => e = .returned (stV firstI) ∧ Below w.heap.size w w' := by
 have hu := Tryz.underlying135
 go_enter Tryz.func92, Tryz.ntmps92
 go_wp2_with fail
 refine bodyPost_ret (v := stV firstI) ?_ rfl ⟨rfl, ?_⟩
 ·
  simp [results, Tryz.results92, go_sem, firstI]
 ·
  repeat (with_reducible first | exact Below.refl _ _ | apply below_alloc | refine below_set ?_ (Nat.le_refl _))
def newRun : Run := ⟨firstI, ByteArray.empty, 0⟩
theorem new.calls (w : World) : Calls Tryz.prog 87 #[] w fun e w' => ∃ g, e = .returned (.pointer (some ⟨g, 0, none⟩)) ∧ w.heap.size ≤ g ∧ IsRun w' g newRun ∧ Below w.heap.size w w' := by
 have hu := Tryz.underlying135
 go_enter Tryz.func87, Tryz.ntmps87
 go_wp2_with fail
 refine (first.calls _).mono ?_
 rintro e w1 ⟨rfl, hB⟩
 go_wp2
 go_ret
 exact ⟨w1.heap.size, rfl, hB.size, blk_new w1 _, hB.alloc hB.size _⟩
theorem none.calls (g : Nat) (r : Run) (w : World) (hg : IsRun w g r) : Calls Tryz.prog 96 #[.pointer (some ⟨g, 0, none⟩)] w fun e w' => e = .returned (.bool false) ∧ w' = w := by
 have h0 : w.cell? ⟨g, 0, none⟩ = some (.bool true) := blk_cell hg 0
 go_enter Tryz.func96, Tryz.ntmps96
 go_wp2_with fail
 go_ret
 exact ⟨rfl, rfl⟩
theorem copy.calls (g : Nat) (r : Run) (w : World) (hg : IsRun w g r) : Calls Tryz.prog 97 #[.pointer (some ⟨g, 0, none⟩)] w fun e w' => ∃ g', e = .returned (.pointer (some ⟨g', 0, none⟩)) ∧ w.heap.size ≤ g' ∧ IsRun w' g' r ∧ Below w.heap.size w w' := by
 obtain ⟨e1, e2, e3, e4, e5, e6, e7, e8⟩ := run_cells hg
 have e0 : w.cell? ⟨g, 0, none⟩ = some (.bool true) := blk_cell hg 0
 have e9 : w.cell? ⟨g, 9, none⟩ = some (.string r.rest) := blk_cell hg 9
 have e10 : w.cell? ⟨g, 10, none⟩ = some (.int .u64 r.n) := blk_cell hg 10
 have hlt : g < w.heap.size := blk_lt hg
 have hne : g ≠ w.heap.size := Nat.ne_of_lt hlt
 have hu := Tryz.underlying135
 clear hg
 go_enter Tryz.func97, Tryz.ntmps97
 go_wp2_with fail
 go_ret
 exact ⟨w.heap.size, rfl, Nat.le_refl _, blk_new w _, below_alloc (Below.refl _ _) _⟩
def Run.sum (r : Run) : ByteArray := digestI (takeI r (padI r.n)).s
theorem padI_size (n : Int) : (padI n).size = 9 + padZ n := by simp [padI, padL, ByteArray.size]; omega
set_option maxRecDepth 100000 in
set_option maxHeartbeats 1000000 in
theorem sum_run.calls (g : Nat) (r : Run) (w : World) (hK : Laid w) (hg : IsRun w g r) (h0 : 0 ≤ r.n) (h1 : r.n < 18446744073709551616) (hr : r.rest.size < 64) :
  Calls Tryz.prog 89 #[.pointer (some ⟨g, 0, none⟩)] w fun e w' => e = .returned (.tuple #[.string r.sum, .int .i64 0]) ∧ Below w.heap.size w w' := by
 have HK := aM' hK
 have HG := aM' hg
 have hu := Tryz.underlying135
 clear hK hg
 go_enter Tryz.func89, Tryz.ntmps89
 go_wp2_with fail
 refine (none.calls g r _ HG.out).mono ?_
 rintro e w1 ⟨rfl, rfl⟩
 go_wp2_with fail
 refine (copy.calls g r _ HG.out).mono ?_
 rintro e w1 ⟨g2, rfl, hg2, hr2, hB1⟩
 have h10 : w1.cell? ⟨g, 10, none⟩ = some (.int .u64 r.n) := blk_cell (blk_below HG.out hB1) 10
 have HB1 := aM' hB1
 have HR2 := aM' hr2
 have HG2 := aM' hg2
 clear hB1 hr2 hg2
 go_wp2_with fail
 refine (padding.calls r.n h0 h1 _).mono ?_
 rintro e w2 ⟨rfl, hB2⟩
 have HB2 := aM' (HB1.out.trans (hB2.mono HB1.out.size))
 have HR3 : IsRun w2 g2 r := blk_below HR2.out hB2
 clear hB2 h10
 go_wp2_with fail
 refine (takes.calls g2 r (padI r.n) _ (HK.out.below HB2.out) HR3 (by rw [padI_size]; unfold padZ; omega)).mono ?_
 rintro e w3 ⟨rfl, hr3, hb3⟩
 have HB3 := aM' (HB2.out.grown hb3 HB2.out.size (fun k e => by cases e; exact HG2.out))
 obtain ⟨c1, c2, c3, c4, c5, c6, c7, c8⟩ := run_cells hr3
 clear hr3 hb3
 have HS := aM' (show (takeI r (padI r.n)).s = (takeI r (padI r.n)).s from rfl)
 have hs : r.sum = digestI (takeI r (padI r.n)).s := rfl
 generalize (takeI r (padI r.n)).s = y at c1 c2 c3 c4 c5 c6 c7 c8 hs
 have HY := aM' hs
 clear hs HR3 HS
 go_wp2_with fail
 refine (digest.calls y _).mono ?_
 rintro e w4 ⟨rfl, hB4⟩
 go_wp2_with fail
 go_ret2
 rw [HY.out]
 exact ⟨rfl, HB3.out.trans (hB4.mono HB3.out.size)⟩
def sumI (t : ByteArray) : ByteArray := (takeI newRun t).sum
theorem u64_wrap_range (x : Int) : 0 ≤ IntKind.u64.wrap x ∧ IntKind.u64.wrap x < 18446744073709551616 := by rw [IntKind.wrap_u64]; omega
theorem eat_rest (l : List (ByteArray × Bool)) : ∀ (r : Run), (∀ x ∈ l, x.2 = false → x.1.size < 64) → r.rest.size < 64 → (l.foldl eat r).rest.size < 64 ∧ (l.foldl eat r).n = r.n := by
 induction l with
 | nil => intro r _ h; exact ⟨h, rfl⟩
 | cons x l ih =>
  intro r hx hr
  rw [List.foldl_cons]
  have h1 : (eat r x).rest.size < 64 ∧ (eat r x).n = r.n := by
   unfold eat
   split
   ·
    exact ⟨by show ByteArray.empty.size < 64; decide, rfl⟩
   ·
    exact ⟨hx x (by simp) (by simp_all), rfl⟩
  obtain ⟨h2, h3⟩ := ih (eat r x) (fun y hy => hx y (by simp [hy])) h1.1
  exact ⟨h2, h3.trans h1.2⟩
theorem blksN_small : ∀ (n : Nat) (t : ByteArray), t.size / 64 = n → ∀ x ∈ blksN n t, x.2 = false → x.1.size < 64
 | 0, t, h, x, hx, _ => by simp [blksN] at hx; subst hx; show t.size < 64; omega
 | n + 1, t, h, x, hx, hf => by
  rw [blksN, List.mem_cons] at hx
  rcases hx with hx | hx
  ·
   subst hx; cases hf
  ·
   exact blksN_small n _ (by rw [ByteArray.size_extract]; omega) x hx hf
theorem takeI_small (r : Run) (t : ByteArray) (h : r.rest.size < 64) : (takeI r t).rest.size < 64 ∧ (takeI r t).n = IntKind.u64.wrap (r.n + (t.size : Int)) :=
 eat_rest _ _ (blksN_small _ _ rfl) h
set_option maxRecDepth 100000 in
set_option maxHeartbeats 1000000 in
theorem sum.calls (t : ByteArray) (w : World) (hK : Laid w) (ht : t.size ≤ 4611686018427387904) :
  Calls Tryz.prog 72 #[.string t] w fun e w' => e = .returned (.string (sumI t)) ∧ Below w.heap.size w w' := by
 have HK := aM' hK
 clear hK
 go_enter Tryz.func72, Tryz.ntmps72
 go_wp2_with fail
 refine (new.calls _).mono ?_
 rintro e w1 ⟨g, rfl, hg, hr, hB⟩
 have HB := aM' hB
 have HR := aM' hr
 have HG := aM' hg
 clear hB hr hg
 go_wp2_with fail
 refine (takes.calls g newRun t _ (HK.out.below HB.out) HR.out (by show 0 + t.size ≤ _; omega)).mono ?_
 rintro e w2 ⟨rfl, hr2, hb2⟩
 have HB2 := aM' (HB.out.grown hb2 HB.out.size (fun k e => by cases e; exact HG.out))
 have HR2 := aM' hr2
 clear hr2 hb2
 obtain ⟨s1, s2⟩ := takeI_small newRun t (by decide)
 have r1 : 0 ≤ (takeI newRun t).n := by rw [s2]; exact (u64_wrap_range _).1
 have r2 : (takeI newRun t).n < 18446744073709551616 := by rw [s2]; exact (u64_wrap_range _).2
 go_wp2_with fail
 refine (sum_run.calls g (takeI newRun t) _ (HK.out.below HB2.out) HR2.out r1 r2 s1).mono ?_
 rintro e w3 ⟨rfl, hB3⟩
 go_wp2
 go_ret
 exact ⟨rfl, HB2.out.trans (hB3.mono HB2.out.size)⟩
end Go.Proofs.YtlmmpncdemblbaaGreatDoor.P
namespace Go.Proofs.YtlmmpncdemblbaaGreatDoor.P
open Go.RowKit Go.Proofs.YtlmmpncdemblbaaGreatDoorW.PrintWords Go.Proofs.YtlmmpncdemblbaaGreatDoorW.PrintLast Go.Proofs.YtlmmpncdemblbaaGreatDoorW.PrintMore
set_option linter.unusedVariables false
set_option linter.unusedSimpArgs false
set_option linter.unnecessarySimpa false
theorem u64_range (x : Int) : 0 ≤ IntKind.u64.wrap x ∧ IntKind.u64.wrap x < 18446744073709551616 := by rw [IntKind.wrap_u64]; omega
theorem padI_nums (n : Int) : padI n = strOfNums (128 :: (List.replicate (padZ n) 0 ++ (List.range 8).map (padB n))) := by
 simp only [padI, padL, strOfNums, List.map_cons, List.map_append, List.map_replicate, List.map_map]
 rfl
theorem refPad_l1_step {x3 x5 : List Int} {x4 : Int} {i : Int} {r : ByteArray} (h0 : 0 ≤ x4) (h1 : x4 < 18446744073709551616) (hi : 0 ≤ i ∧ i < 8) (hl : x5.length < 1000)
  (h : Ev (fun k => paymasterref05_Padding.l1 k x3 (x4 / 256) (x4 % 256 :: x5) (i + 1)) r) : Ev (fun k => paymasterref05_Padding.l1 k x3 x4 x5 i) r := by
 refine Ev.step (f := fun k => paymasterref05_Padding.l1 k x3 (x4 / 256) (x4 % 256 :: x5) (i + 1)) (fun k => ?_) h
 have e1 : Int.tmod x4 256 = x4 % 256 := Int.tmod_eq_emod_of_nonneg h0
 have e2 : Int.tdiv x4 256 = x4 / 256 := Int.tdiv_eq_ediv_of_nonneg h0
 rw [paymasterref05_Padding.l1, if_pos hi.2]
 simp only [Option.bind_some, e1, e2]
 rw [if_pos (by simp; omega), wrap64_id (by omega) (by omega), wrapu64_id (by omega) (by omega)]
 congr 1
 simp
theorem refPad_l1_done {x3 x5 : List Int} {x4 : Int} (hl : x3.length + x5.length < 140737488355328) : Ev (fun k => paymasterref05_Padding.l1 k x3 x4 x5 8) (strOfNums (x3 ++ x5)) := by
 refine Ev.step (f := fun _ => some (strOfNums (x3 ++ x5))) (fun k => ?_) (Ev.now _)
 rw [paymasterref05_Padding.l1, if_neg (by decide), if_pos hl]
theorem refPad_l1 {x3 : List Int} {m : Int} (h0 : 0 ≤ m) (h1 : m < 18446744073709551616) (hl : x3.length < 1000) :
  Ev (fun k => paymasterref05_Padding.l1 k x3 m [] 0) (strOfNums (x3 ++ (List.range 8).map fun i => m / 2 ^ (56 - 8 * i) % 256)) := by
 have hd : ∀ x : Int, 0 ≤ x → 0 ≤ x / 256 ∧ x / 256 ≤ x := fun x h => by omega
 obtain ⟨a1, b1⟩ := hd m h0
 obtain ⟨a2, b2⟩ := hd _ a1
 obtain ⟨a3, b3⟩ := hd _ a2
 obtain ⟨a4, b4⟩ := hd _ a3
 obtain ⟨a5, b5⟩ := hd _ a4
 obtain ⟨a6, b6⟩ := hd _ a5
 obtain ⟨a7, b7⟩ := hd _ a6
 refine refPad_l1_step h0 h1 (by omega) (by simp) ?_
 refine refPad_l1_step a1 (by omega) (by omega) (by simp) ?_
 refine refPad_l1_step a2 (by omega) (by omega) (by simp) ?_
 refine refPad_l1_step a3 (by omega) (by omega) (by simp) ?_
 refine refPad_l1_step a4 (by omega) (by omega) (by simp) ?_
 refine refPad_l1_step a5 (by omega) (by omega) (by simp) ?_
 refine refPad_l1_step a6 (by omega) (by omega) (by simp) ?_
 refine refPad_l1_step a7 (by omega) (by omega) (by simp) ?_
 refine ev_eq (refPad_l1_done (by simp; omega)) ?_
 congr 1
 simp only [List.range, List.range.loop, List.map_cons, List.map_nil]
 congr 1
 simp only [List.cons.injEq, and_true]
 refine ⟨?_, ?_, ?_, ?_, ?_, ?_, ?_, ?_⟩ <;> (simp only [Nat.reduceMul, Nat.reduceSub]; omega)
theorem refPad_l0 (n : Int) (h0 : 0 ≤ n) (h1 : n < 18446744073709551616) : ∀ (d j : Nat), d + j = padZ n →
  Ev (fun k => paymasterref05_Padding.l0 k n (128 :: List.replicate j 0)) (padI n)
 | 0, j, h => by
  have hz : ((padZ n : Nat) : Int) = (119 - n) % 64 := by simp only [padZ]; omega
  refine Ev.step (f := fun k => paymasterref05_Padding.l1 k (128 :: List.replicate j 0) (IntKind.u64.wrap (n * 8)) [] 0) (fun k => ?_) ?_
  ·
   rw [paymasterref05_Padding.l0, if_pos]
   simp only [List.length_cons, List.length_replicate]
   rw [IntKind.wrap_u64, IntKind.wrap_u64, Int.tmod_eq_emod_of_nonneg (by omega)]
   omega
  ·
   have hm := u64_range (n * 8)
   refine ev_eq (refPad_l1 hm.1 hm.2 (by simp; omega)) ?_
   rw [padI_nums]
   obtain rfl : j = padZ n := by omega
   rfl
 | d + 1, j, h => by
  have hz : ((padZ n : Nat) : Int) = (119 - n) % 64 := by simp only [padZ]; omega
  refine Ev.step (f := fun k => paymasterref05_Padding.l0 k n (128 :: List.replicate (j + 1) 0)) (fun k => ?_) (refPad_l0 n h0 h1 d (j + 1) (by omega))
  rw [paymasterref05_Padding.l0, if_neg, if_pos]
  ·
   congr 1
   simp [List.replicate_succ']
  ·
   simp; omega
  ·
   simp only [List.length_cons, List.length_replicate]
   rw [IntKind.wrap_u64, IntKind.wrap_u64, Int.tmod_eq_emod_of_nonneg (by omega)]
   omega
theorem refPad (n : Int) (h0 : 0 ≤ n) (h1 : n < 18446744073709551616) : Ev (fun k => paymasterref05_Padding.f k n) (padI n) := refPad_l0 n h0 h1 (padZ n) 0 rfl
end Go.Proofs.YtlmmpncdemblbaaGreatDoor.P
namespace Go.Proofs.YtlmmpncdemblbaaGreatDoor.P
open Go.RowKit Go.Proofs.YtlmmpncdemblbaaGreatDoorW.PrintWords Go.Proofs.YtlmmpncdemblbaaGreatDoorW.PrintLast Go.Proofs.YtlmmpncdemblbaaGreatDoorW.PrintMore
set_option linter.unusedVariables false
set_option linter.unusedSimpArgs false
set_option linter.unnecessarySimpa false
theorem table.calls (w : World) : Calls Tryz.prog 81 #[] w fun e w' => e = .returned (.slice (some ⟨w.heap.size, 0, none⟩) 64 64) ∧ (∀ i, i < 64 → w'.cell? ⟨w.heap.size, i, none⟩ = some (.int .u32 (kConst.getD i 0))) ∧ Below w.heap.size w w' := by
 go_enter Tryz.func81, Tryz.ntmps81
 go_wp2_with fail
 go_ret
 refine ⟨rfl, fun i hi => ?_, below_alloc (Below.refl _ _) _⟩
 rw [blk_cell (blk_new w _) i]
 show ((nums .u32 kConst).toArray)[i]? = _
 have hl : kConst.length = 64 := rfl
 simp [nums, hl, hi]
theorem start.calls (w : World) : Calls Tryz.prog 82 #[] w fun e w' => e = .returned (stV firstI) ∧ Below w.heap.size w w' := by
 have hu := Tryz.underlying114
 go_enter Tryz.func82, Tryz.ntmps82
 go_wp2_with fail
 refine bodyPost_ret (v := stV firstI) ?_ rfl ⟨rfl, ?_⟩
 ·
  simp [results, Tryz.results82, go_sem, firstI]
 ·
  repeat (with_reducible first | exact Below.refl _ _ | apply below_alloc | refine below_set ?_ (Nat.le_refl _))
def chainI (s : S8) (t : ByteArray) : Nat → S8
 | 0 => s
 | n + 1 => nextI (chainI s t n) (t.extract (64 * n) (64 * n + 64))
def refSumI (t : ByteArray) : ByteArray := digestI (chainI firstI (t ++ padI t.size) ((t ++ padI t.size).size / 64))
theorem nextI_ok (s : S8) (b : ByteArray) : (nextI s b).Ok := S8.Ok.add _ _
theorem firstI_ok : firstI.Ok := by constructor <;> decide
theorem chainI_ok (t : ByteArray) : ∀ n, (chainI firstI t n).Ok
 | 0 => firstI_ok
 | _ + 1 => nextI_ok _ _
theorem S8.Ok.get {s : S8} (h : s.Ok) (i : Nat) : 0 ≤ s.get i ∧ s.get i < 4294967296 := by
 match i with
 | 0 => exact h.h0
 | 1 => exact h.h1
 | 2 => exact h.h2
 | 3 => exact h.h3
 | 4 => exact h.h4
 | 5 => exact h.h5
 | 6 => exact h.h6
 | n + 7 => exact h.h7
set_option maxRecDepth 100000 in
set_option maxHeartbeats 8000000 in
theorem refsum.calls (t : ByteArray) (w : World) (ht : t.size ≤ 1000000000) :
  Calls Tryz.prog 62 #[.string t] w fun e w' => e = .returned (.string (refSumI t)) ∧ Below w.heap.size w w' := by
 have hu := Tryz.underlying114
 obtain ⟨i0, hi, hz0, hz1, hz2⟩ := info_parts byteInfo
 obtain ⟨kp, hkp⟩ := (refPad (t.size : Int) (by omega) (by omega)).rounds
 have e1 : IntKind.u64.wrap (t.size : Int) = (t.size : Int) := by rw [IntKind.wrap_u64]; omega
 have HKP := aM' hkp
 have hps : (padI (t.size : Int)).size ≤ 72 := by rw [padI_size]; unfold padZ; omega
 have hcat : t.size + (padI (t.size : Int)).size ≤ 9223372036854775807 := by omega
 clear hkp
 go_enter Tryz.func62, Tryz.ntmps62
 go_wp2_with fail
 refine (paymasterref05_Padding.calls kp _ _ _ HKP.out).mono ?_
 rintro e w1 ⟨rfl, hB1⟩
 have HB1 := aM' hB1
 clear hB1 e1
 go_wp2_with fail
 refine (table.calls _).mono ?_
 rintro e w2 ⟨rfl, htb, hB2⟩
 have HT := aM' htb
 have HB2 := aM' (HB1.out.trans (hB2.mono HB1.out.size))
 have HTL := aM' (show w1.heap.size < w2.heap.size from cellAt_lt (htb 0 (by omega)))
 clear htb hB2
 go_wp2_with fail
 refine (start.calls _).mono ?_
 rintro e w3 ⟨rfl, hB3⟩
 have HB3 := aM' (HB2.out.trans (hB3.mono HB2.out.size))
 have HB23 := aM' hB3
 clear hB3
 have hf1 : firstI = ⟨firstI.x0, firstI.x1, firstI.x2, firstI.x3, firstI.x4, firstI.x5, firstI.x6, firstI.x7⟩ := rfl
 go_wp2_with fail
 clear hf1
 obtain ⟨al, hal⟩ : ∃ al, al = t ++ padI (t.size : Int) := ⟨_, rfl⟩
 have has : al.size = t.size + (padI (t.size : Int)).size := by rw [hal]; exact ByteArray.size_append
 have has2 : al.size ≤ 1000000072 := by omega
 rw [← hal]
 have HAL := aM' hal
 have HTab := aM' (show ∀ W, Below w3.heap.size w3 W → ∀ i, i < 64 → W.cell? ⟨w1.heap.size, i, none⟩ = some (.int .u32 (kConst.getD i 0)) from fun W hW i hi =>
  pw_cell_below hW (pw_cell_below HB23.out (HT.out i hi)))
 have HN3 := aM' (show w.heap.size ≤ w3.heap.size from HB3.out.size)
 clear hal has hcat hps
 go_loopw [6] (fun v wr => ∃ k : Nat, v = .int .i64 (64 * (k : Int)) ∧ k ≤ al.size / 64 ∧ Aside0 (wr.heap[w3.heap.size]? = some (.cells (stA (chainI firstI al k)) 114 (0, 0))) ∧ Aside0 (Below w3.heap.size w3 wr)) (fun v _ => al.size - (intOf v).toNat)
 case atStart => exact ⟨0, rfl, by omega, ⟨blk_new w3 _⟩, ⟨below_alloc (Below.refl _ _) _⟩⟩
 case round =>
  obtain ⟨k, rfl, hk, HC, HB⟩ := hrel
  by_cases hlt : k < al.size / 64
  ·
   have b1 : decide (64 * (k : Int) + 64 ≤ (al.size : Int)) = true := decide_eq_true (by omega)
   have g1 : 64 * (k : Int) + 64 ≤ (al.size : Int) := by omega
   obtain ⟨c0, c1, c2, c3, c4, c5, c6, c7⟩ := st_cells HC.out
   have hok := chainI_ok al k
   have hbs : (al.extract (64 * k) (64 * k + 64)).size = 64 := by rw [ByteArray.size_extract]; omega
   have hsl : ∀ wx, (Instr.slice 9 (.string al) (some (.int .i64 (64 * (k : Int)))) (some (.int .i64 (64 * (k : Int) + 64))) none).run Tryz.prog wx = .ok (.string (al.extract (64 * k) (64 * k + 64))) wx := fun wx => by
    rw [run_slice_string wx 9 al .i64 .i64 (64 * (k : Int)) (64 * (k : Int) + 64) Tryz.underlying9 (by omega) (by omega) g1]
    congr 3
   have hk1 : chainI firstI al (k + 1) = nextI (chainI firstI al k) (al.extract (64 * k) (64 * k + 64)) := rfl
   have HK1 := aM' hk1
   have HOK := aM' hok
   have HBS := aM' hbs
   generalize al.extract (64 * k) (64 * k + 64) = bb at hsl HK1 HBS
   have e1 : IntKind.i64.wrap (64 * (k : Int) + 64) = 64 * (k : Int) + 64 := IntWalk.i64_in _ (by omega)
   have hd : ∀ a, ({ wr with drawn := wr.drawn + 1 } : World).cell? a = wr.cell? a := fun _ => rfl
   clear hk1 hok hbs
   go_wp2_with fail
   go_still_tail 7, (by kernel_rfl)
   change wpList _ _ _ _ _ wr.drew
   clear hsl e1 hd c0 c1 c2 c3 c4 c5 c6 c7
   go_wp2_with fail
   refine (quick.calls (chainI firstI al k) bb HOK.out HBS.out w1.heap.size wr.drew (HTab.out _ (below_drew HB.out))).mono ?_
   rintro e w4 ⟨rfl, hB4⟩
   have hC4 := blk_below (blk_drew HC.out) hB4
   obtain ⟨c0, c1, c2, c3, c4, c5, c6, c7⟩ := st_cells hC4
   have hf : ∀ i, w4.frozen? ⟨w3.heap.size, i, none⟩ = false := fun i => blk_frozen hC4 i
   have HC4 := aM' hC4
   have HB4 := aM' (HB.out.trans ((Below.drew (Below.refl _ _)).trans (hB4.mono HB.out.size)))
   rw [← HK1.out]
   obtain ⟨y, hy⟩ : ∃ y, y = chainI firstI al (k + 1) := ⟨_, rfl⟩
   rw [← hy]
   have HY := aM' hy
   clear hy
   clear hC4 hB4
   go_wp2_with fail
   go_roundw
   case rel =>
    refine ⟨k + 1, by go_num, by omega, ⟨?_⟩, ⟨?_⟩⟩
    ·
     rw [← HY.out]
     exact st_put8 HC4.out y
    ·
     repeat (with_reducible first | exact HB4.out | refine below_set ?_ (Nat.le_refl _))
   case measure => simp [intOf]; omega
  ·
   have b1 : decide (64 * (k : Int) + 64 ≤ (al.size : Int)) = false := decide_eq_false (by omega)
   have ek : k = al.size / 64 := by omega
   obtain ⟨y, hy⟩ : ∃ y, y = chainI firstI al (al.size / 64) := ⟨_, rfl⟩
   have hyk : y.Ok := by rw [hy]; exact chainI_ok _ _
   have HC2 := HC
   rw [ek, ← hy] at HC2
   have HRS := aM' (show refSumI t = digestI y by rw [refSumI, ← HAL.out, ← hy])
   have HYK := aM' hyk
   have e1 : IntKind.i64.wrap (64 * (k : Int) + 64) = 64 * (k : Int) + 64 := IntWalk.i64_in _ (by omega)
   clear ek hy hyk HC
   go_wp2_with fail
   clear b1 e1
   go_loopw [8, 7] (fun v u wr2 => ∃ j : Nat, v = .int .i64 j ∧ j ≤ 8 ∧ Aside0 (wr2.ownsRow (w3.heap.size + 1) 5 1 u (4 * j) (nums .u8 (digL y j))) ∧ Aside0 (wr2.heap[w3.heap.size]? = some (.cells (stA y) 114 (0, 0))) ∧ Aside0 (Below w3.heap.size w3 wr2)) (fun v _ _ => 8 - (intOf v).toNat)
   case atStart => exact ⟨0, rfl, by omega, ⟨⟨rfl, .inl ⟨rfl, rfl⟩⟩⟩, HC2, HB⟩
   case round =>
    clear HC2 HB
    obtain ⟨j, rfl, hj, HO, HC, HB⟩ := hrel
    by_cases hlt2 : j < 8
    ·
     have b1 : decide ((j : Int) < 8) = true := decide_eq_true (by omega)
     have g1 : (j : Int) < 8 := by omega
     obtain ⟨x, hx⟩ : ∃ x, x = y.get j := ⟨_, rfl⟩
     have hxr : 0 ≤ x ∧ x < 4294967296 := by rw [hx]; exact HYK.out.get j
     have hcx : wr.cell? ⟨w3.heap.size, j, none⟩ = some (.int .u32 x) := by
      rw [blk_cell HC.out, stA_get _ _ hlt2, hx]
     have HX := aM' hx
     obtain ⟨x0, x1⟩ := hxr
     have t1 : Int.tdiv x 16777216 = x / 16777216 := Int.tdiv_eq_ediv_of_nonneg x0
     clear hx
     have hl0 := HO.out.1
     have hlt3 : w3.heap.size < wr.heap.size := blk_lt HC.out
     have hwl : wordL x = [x / 16777216, x / 65536 % 256, x / 256 % 256, x % 256] := by simp only [wordL]; congr 1; omega
     go_wp2_with (at_builtin; refine wpList_append_own _ rfl _ _ 96 rfl (w3.heap.size + 1) 5 i0 (.int .u8 0) 1 1 Tryz.underlying96 hi hz0 hz1 hz2 rfl (by decide) _ _ _ rfl (HO.out.alloc _) ⟨wr.heap.size, 0, none⟩ 4 4 (nums .u8 [x / 16777216, x / 65536 % 256, x / 256 % 256, x % 256]) rfl rfl ?c1 ?c2 ?c3 ?c4 ?c5 ?_)
     case c1 =>
      intro j u hj
      match j, hj with
      | 0, hj => simp [nums] at hj; subst hj; simp [Addr.add]
      | 1, hj => simp [nums] at hj; subst hj; simp [Addr.add]
      | 2, hj => simp [nums] at hj; subst hj; simp [Addr.add]
      | 3, hj => simp [nums] at hj; subst hj; simp [Addr.add]
     case c2 => intro u hu; simp [nums] at hu; rcases hu with hu | hu | hu | hu <;> subst hu <;> rfl
     case c3 => unfold maxLen; omega
     case c4 => omega
     case c5 => simp; omega
     intro v' w4 hown' hgrow _
     rw [← hwl] at hown'
     have HO2 := aM' hown'
     have hC4 : w4.heap[w3.heap.size]? = some (.cells (stA y) 114 (0, 0)) := (hgrow.block _ (by simp; omega) (fun e => by have := (HO.out.lt _ e.symm).1; omega)).trans (blk_alloc HC.out _)
     have HC4 := aM' hC4
     have HB4 := aM' ((HB.out.alloc HB.out.size _).grown hgrow (by have := HB.out.size; simp; omega) (fun k hk => by have := (HO.out.lt k hk).1; omega))
     clear hown' hgrow hwl hC4 t1 hcx
     go_wp2_with fail
     go_roundw
     case rel =>
      refine ⟨j + 1, by go_num, by omega, ⟨?_⟩, HC4, HB4⟩
      rw [digL_succ, ← HX.out, nums_append]
      exact HO2.out
     case measure => simp [intOf]; omega
    ·
     have b1 : decide ((j : Int) < 8) = false := decide_eq_false (by omega)
     obtain rfl : j = 8 := by omega
     have hown := HO.out
     obtain ⟨hl, h2⟩ := hown
     rcases h2 with ⟨_, h0⟩ | ⟨g, cap, cur, rfl, e2, e3, e4, e5, e6, e7⟩
     ·
      omega
     have hcv := run_convert_bytes_arg wr 96 5 Tryz.underlying96 Tryz.underlying5 g 0 32 cap (digL y 8) (digL_length y 8) (fun i hi => by
      have h1 : (cur.toList.take (4 * 8 * 1))[i]? = some (.int .u8 ((digL y 8).getD i 0)) := by
       rw [e7]; simp [nums, digL_length, hi]
      rw [List.getElem?_take_of_lt (by omega)] at h1
      rw [Nat.zero_add, blk_cell e3 i]
      simpa using h1) 9 Tryz.underlying9
     have HB2 := HB
     clear HO e3 e7 HB
     go_wp2_with fail
     go_ret
     rw [HRS.out]
     exact ⟨rfl, HB3.out.trans (HB2.out.mono HN3.out)⟩
end Go.Proofs.YtlmmpncdemblbaaGreatDoor.P
namespace Go.Proofs.YtlmmpncdemblbaaGreatDoor.P
open Go.RowKit Go.Proofs.YtlmmpncdemblbaaGreatDoorW.PrintWords Go.Proofs.YtlmmpncdemblbaaGreatDoorW.PrintLast Go.Proofs.YtlmmpncdemblbaaGreatDoorW.PrintMore
set_option linter.unusedVariables false
set_option linter.unusedSimpArgs false
set_option linter.unnecessarySimpa false
def sha_Sum.f (a0 : ByteArray) : Option ByteArray := if a0.size ≤ 4611686018427387904 then some (sumI a0) else none
theorem sha_Sum.calls (a0 : ByteArray) (r : ByteArray) (w : World) (hK : Laid w) (h : sha_Sum.f a0 = some r) :
  Calls Tryz.prog 72 #[.string a0] w fun e w' => e = .returned (.string r) ∧ Below w.heap.size w w' := by
 unfold sha_Sum.f at h
 split at h
 ·
  cases h; exact sum.calls a0 w hK (by assumption)
 ·
  cases h
def ref05_Sum.f (a0 : ByteArray) : Option ByteArray := if a0.size ≤ 1000000000 then some (refSumI a0) else none
theorem ref05_Sum.calls (a0 : ByteArray) (r : ByteArray) (w : World) (h : ref05_Sum.f a0 = some r) :
  Calls Tryz.prog 62 #[.string a0] w fun e w' => e = .returned (.string r) ∧ Below w.heap.size w w' := by
 unfold ref05_Sum.f at h
 split at h
 ·
  cases h; exact refsum.calls a0 w (by assumption)
 ·
  cases h
end Go.Proofs.YtlmmpncdemblbaaGreatDoor.P
