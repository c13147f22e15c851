-- Several texts of this workplace as one.
import Derived.Test.YtlmmpncdemblbaaDoorZVerifyUps1
import Derived.Test.YtlmmpncdemblbaaDoorProg
import Derived.Deep.OwnRows
import Derived.Laws.Rows
import Derived.Test.YtlmmpncdemblbaaDoorRows
import Derived.Test.YtlmmpncdemblbaaDoorCards
import Derived.Test.YtlmmpncdemblbaaDoorTie
namespace Go.Proofs.YtlmmpncdemblbaaDoor.P
open Go.RowKit Go.Proofs.YtlmmpncdemblbaaDoorW.PrintWords Go.Proofs.YtlmmpncdemblbaaDoorW.PrintLast Go.Proofs.YtlmmpncdemblbaaDoorW.PrintMore
attribute [local go_sem] max2_int min2_int max_two min_two max_three min_three max_four min_four-- for this text's walks alone
set_option linter.unusedVariables false
set_option linter.unusedSimpArgs false
/-! ### paymasterref07_Rune: function 103 -/
mutual
def paymasterref07_Rune.j0 : Nat → ByteArray → Int → Bool → Option (Int × Int)
 | 0, _, _, _ => none
 | k + 1, x0, x1, x18 => if x18 = true then (some (0, 0)) else (if 0 ≤ x1 then (if x1 < (x0.size : Int) then (if (wrap64 (bt x0 x1)) < 128 then (some (wrap64 (bt x0 x1), 1)) else (if (wrap64 (bt x0 x1)) ≥ 192 then (paymasterref07_Rune.j1 k x0 x1 (wrap64 (bt x0 x1)) (decide ((wrap64 (bt x0 x1)) < 224))) else (paymasterref07_Rune.j1 k x0 x1 (wrap64 (bt x0 x1)) false))) else (none)) else (none))
def paymasterref07_Rune.j3 : Nat → ByteArray → Int → Int → Int → Int → Option (Int × Int)
 | 0, _, _, _, _, _ => none
 | k + 1, x0, x1, x7, x8, x9 => paymasterref07_Rune.l0 k x0 x1 x7 x8 x9 1
def paymasterref07_Rune.l0 : Nat → ByteArray → Int → Int → Int → Int → Int → Option (Int × Int)
 | 0, _, _, _, _, _, _ => none
 | k + 1, x0, x1, x7, x8, x9, x10 => if x10 < x7 then (if (wrap64 (x1 + x10)) ≥ (x0.size : Int) then (some (0, 0)) else (if 0 ≤ (wrap64 (x1 + x10)) then (if (wrap64 (x1 + x10)) < (x0.size : Int) then (if (bt x0 (wrap64 (x1 + x10))) < 128 then (some (0, 0)) else (if (bt x0 (wrap64 (x1 + x10))) ≥ 192 then (some (0, 0)) else (paymasterref07_Rune.l0 k x0 x1 x7 (wrap64 ((wrap64 ((wrap64 (64 * x8)) + (wrap64 (bt x0 (wrap64 (x1 + x10)))))) - 128)) x9 (wrap64 (x10 + 1))))) else (none)) else (none))) else (if x8 < x9 then (some (0, 0)) else (if x8 > 1114111 then (some (0, 0)) else (if x8 ≥ 55296 then (if x8 < 57344 then (some (0, 0)) else (some (x8, x7))) else (some (x8, x7)))))
def paymasterref07_Rune.j1 : Nat → ByteArray → Int → Int → Bool → Option (Int × Int)
 | 0, _, _, _, _ => none
 | k + 1, x0, x1, x6, x27 => if x27 = true then (paymasterref07_Rune.j3 k x0 x1 2 (wrap64 (x6 - 192)) 128) else (if x6 ≥ 224 then (paymasterref07_Rune.j2 k x0 x1 x6 (decide (x6 < 240))) else (paymasterref07_Rune.j2 k x0 x1 x6 false))
def paymasterref07_Rune.j2 : Nat → ByteArray → Int → Int → Bool → Option (Int × Int)
 | 0, _, _, _, _ => none
 | k + 1, x0, x1, x6, x36 => if x36 = true then (paymasterref07_Rune.j3 k x0 x1 3 (wrap64 (x6 - 224)) 2048) else (if x6 ≥ 240 then (if x6 < 248 then (paymasterref07_Rune.j3 k x0 x1 4 (wrap64 (x6 - 240)) 65536) else (some (0, 0))) else (some (0, 0)))
end
def paymasterref07_Rune.f (k : Nat) (a0 : ByteArray) (a1 : Int) : Option (Int × Int) := if a1 < 0 then (paymasterref07_Rune.j0 k a0 a1 true) else (paymasterref07_Rune.j0 k a0 a1 (decide (a1 ≥ (a0.size : Int))))
set_option maxHeartbeats 8000000 in
set_option maxRecDepth 100000 in
theorem paymasterref07_Rune.calls (k : Nat) (a0 : ByteArray) (a1 : Int) (r1 : Int) (r2 : Int) (w : World) (h : paymasterref07_Rune.f k a0 a1 = some (r1, r2)) :
  Calls Tryd.prog 103 #[.string a0, .int .i64 a1] w fun e w' => e = .returned (.tuple #[.int .i64 r1, .int .i64 r2]) ∧ Drawn0 w w' := by
 have H : (if a1 < 0 then (paymasterref07_Rune.j0 k a0 a1 true) else (paymasterref07_Rune.j0 k a0 a1 (decide (a1 ≥ (a0.size : Int))))) = some (r1, r2) := h
 clear h
 have HC3 := Aside0.mk H
 clear H
 go_enter Tryd.func103, Tryd.ntmps103
 go_upto_region 1 with (fail)
 go_cut [18] (fun v18 wc => ∃ (kq : Nat) (x18_2 : Bool), v18 = .bool x18_2 ∧ Aside0 (paymasterref07_Rune.j0 kq a0 a1 x18_2 = some (r1, r2)) ∧ Aside0 (kq ≤ k) ∧ Drawn0 w wc)
 case first =>
  have H := HC3.out
  clear HC3
  by_cases c4 : a1 < 0
  ·
   rw [if_pos c4] at H
   have c4b0 : decide (a1 < 0) = true := decide_eq_true c4
   clear c4
   (first | rw [c4b0] | (simp only [i64_w, i32_w]; rw [c4b0]) | skip)
   have H' := Aside0.mk H
   clear H
   go_wp2
   go_meet
   case rel => exact ⟨_, (true), (by first | rfl | (simp; done) | (simp [*]; done)), H', ⟨by first | omega | exact Nat.le_refl _⟩, by repeat (first | exact Drawn0.refl _ | apply Drawn0.step)⟩
  ·
   rw [if_neg c4] at H
   have c4b0 : decide (a1 < 0) = false := decide_eq_false c4
   clear c4
   (first | rw [c4b0] | (simp only [i64_w, i32_w]; rw [c4b0]) | skip)
   have H' := Aside0.mk H
   clear H
   go_wp2
   go_meet
   case rel => exact ⟨_, (decide (a1 ≥ (a0.size : Int))), (by first | rfl | (simp; done) | (simp [*]; done)), H', ⟨by first | omega | exact Nat.le_refl _⟩, by repeat (first | exact Drawn0.refl _ | apply Drawn0.step)⟩
 case rest =>
  clear HC3
  try clear c1
  try clear p2
  try clear c4
  try clear c4b0
  obtain ⟨kq, x18_2, rfl, HA, HJ2, ⟨mc2, rfl⟩⟩ := hcut
  cases kq with
  | zero => exact absurd HA.out (by simp [paymasterref07_Rune.j0])
  | succ kj2 =>
   have H := HA.out
   clear HA
   simp only [paymasterref07_Rune.j0] at H
   by_cases c5 : x18_2 = true
   ·
    subst c5
    have H1 : (some (0, 0)) = some (r1, r2) := by rw [if_pos rfl] at H; exact H
    clear H
    have H := H1
    clear H1
    simp only [Option.some.injEq, Prod.mk.injEq] at H
    obtain ⟨rfl, rfl⟩ := H
    go_wp2
    go_ret2
    exact ⟨by first | rfl | (simp; done) | (simp [*]; done), by repeat (first | exact Drawn0.refl _ | apply Drawn0.step)⟩
   ·
    replace c5 := Bool.eq_false_iff.mpr c5
    subst c5
    have H1 : (if 0 ≤ a1 then (if a1 < (a0.size : Int) then (if (wrap64 (bt a0 a1)) < 128 then (some (wrap64 (bt a0 a1), 1)) else (if (wrap64 (bt a0 a1)) ≥ 192 then (paymasterref07_Rune.j1 kj2 a0 a1 (wrap64 (bt a0 a1)) (decide ((wrap64 (bt a0 a1)) < 224))) else (paymasterref07_Rune.j1 kj2 a0 a1 (wrap64 (bt a0 a1)) false))) else (none)) else (none)) = some (r1, r2) := by rw [if_neg (show ¬ (false = true) by decide)] at H; exact H
    clear H
    have H := H1
    clear H1
    by_cases c6 : 0 ≤ a1
    ·
     rw [if_pos c6] at H
     have c6b0 : decide (0 ≤ a1) = true := decide_eq_true c6
     clear c6
     by_cases c7 : a1 < (a0.size : Int)
     ·
      rw [if_pos c7] at H
      have c7b0 : decide (a1 < (a0.size : Int)) = true := decide_eq_true c7
      clear c7
      have HC9 := Aside0.mk H
      clear H
      have p8 : 0 ≤ (a1 : Int) := of_decide_eq_true (by first | (with_reducible assumption) | assumption)
      have q8 : a1 < (a0.size : Int) := of_decide_eq_true (by first | (with_reducible assumption) | assumption)
      have hx8 := bt_at a0 a1
      replace p8 := eq_true p8
      replace q8 := eq_true q8
      go_upto_block 0 with (fail)
      go_cut [7, 8, 9] (fun v7 v8 v9 wc => ∃ (kq : Nat) (x7_8 : Int) (x8_8 : Int) (x9_8 : Int), v7 = .int .i64 x7_8 ∧ v8 = .int .i64 x8_8 ∧ v9 = .int .i64 x9_8 ∧ Aside0 (paymasterref07_Rune.j3 kq a0 a1 x7_8 x8_8 x9_8 = some (r1, r2)) ∧ Aside0 (kq ≤ kj2) ∧ Drawn0 w wc)
      case first =>
       have H := HC9.out
       clear HC9
       by_cases c10 : (wrap64 (bt a0 a1)) < 128
       ·
        rw [if_pos c10] at H
        have c10b0 : decide ((wrap64 (bt a0 a1)) < 128) = true := decide_eq_true c10
        clear c10
        (first | rw [c10b0] | (simp only [i64_w, i32_w]; rw [c10b0]) | skip)
        simp only [Option.some.injEq, Prod.mk.injEq] at H
        obtain ⟨rfl, rfl⟩ := H
        go_wp2
        go_ret2
        exact ⟨by first | rfl | (simp; done) | (simp [*]; done), by repeat (first | exact Drawn0.refl _ | apply Drawn0.step)⟩
       ·
        rw [if_neg c10] at H
        have c10b0 : decide ((wrap64 (bt a0 a1)) < 128) = false := decide_eq_false c10
        clear c10
        (first | rw [c10b0] | (simp only [i64_w, i32_w]; rw [c10b0]) | skip)
        have HC11 := Aside0.mk H
        clear H
        go_upto_region 8 with (fail)
        go_cut [27] (fun v27 wc => ∃ (kq : Nat) (x27_10 : Bool), v27 = .bool x27_10 ∧ Aside0 (paymasterref07_Rune.j1 kq a0 a1 (wrap64 (bt a0 a1)) x27_10 = some (r1, r2)) ∧ Aside0 (kq ≤ kj2) ∧ Drawn0 w wc)
        case first =>
         have H := HC11.out
         clear HC11
         by_cases c12 : (wrap64 (bt a0 a1)) ≥ 192
         ·
          rw [if_pos c12] at H
          have c12b0 : decide (192 ≤ (wrap64 (bt a0 a1))) = true := decide_eq_true c12
          clear c12
          (first | rw [c12b0] | (simp only [i64_w, i32_w]; rw [c12b0]) | skip)
          have H' := Aside0.mk H
          clear H
          go_wp2
          go_meet
          case rel => exact ⟨_, (decide ((wrap64 (bt a0 a1)) < 224)), (by first | rfl | (simp; done) | (simp [*]; done)), H', ⟨by have := HJ2.out; first | omega | exact Nat.le_refl _⟩, by repeat (first | exact Drawn0.refl _ | apply Drawn0.step)⟩
         ·
          rw [if_neg c12] at H
          have c12b0 : decide (192 ≤ (wrap64 (bt a0 a1))) = false := decide_eq_false c12
          clear c12
          (first | rw [c12b0] | (simp only [i64_w, i32_w]; rw [c12b0]) | skip)
          have H' := Aside0.mk H
          clear H
          go_wp2
          go_meet
          case rel => exact ⟨_, (false), (by first | rfl | (simp; done) | (simp [*]; done)), H', ⟨by have := HJ2.out; first | omega | exact Nat.le_refl _⟩, by repeat (first | exact Drawn0.refl _ | apply Drawn0.step)⟩
        case rest =>
         clear HC11
         try clear c1
         try clear c2
         try clear p2
         try clear c4
         try clear c4b0
         try clear c5
         try clear c6
         try clear c6b0
         try clear p6
         try clear c7
         try clear c7b0
         try clear p8
         try clear q8
         try clear hx8
         try clear c10
         try clear c10b0
         try clear c12
         try clear c12b0
         try clear p2
         try clear p8
         try clear q8
         obtain ⟨kq, x27_10, rfl, HA, HJ10, ⟨mc10, rfl⟩⟩ := hcut
         cases kq with
         | zero => exact absurd HA.out (by simp [paymasterref07_Rune.j1])
         | succ kj10 =>
          have H := HA.out
          clear HA
          simp only [paymasterref07_Rune.j1] at H
          by_cases c13 : x27_10 = true
          ·
           subst c13
           have H1 : (paymasterref07_Rune.j3 kj10 a0 a1 2 (wrap64 ((wrap64 (bt a0 a1)) - 192)) 128) = some (r1, r2) := by rw [if_pos rfl] at H; exact H
           clear H
           have H := H1
           clear H1
           have H' := Aside0.mk H
           clear H
           go_wp2
           go_meet
           case rel => exact ⟨_, (2), (wrap64 ((wrap64 (bt a0 a1)) - 192)), (128), (by first | rfl | (simp; done) | (simp [*]; done)), (by first | rfl | (simp; done) | (simp [*]; done)), (by first | rfl | (simp; done) | (simp [*]; done)), H', ⟨by have := HJ2.out; have := HJ10.out; first | omega | exact Nat.le_refl _⟩, by repeat (first | exact Drawn0.refl _ | apply Drawn0.step)⟩
          ·
           replace c13 := Bool.eq_false_iff.mpr c13
           subst c13
           have H1 : (if (wrap64 (bt a0 a1)) ≥ 224 then (paymasterref07_Rune.j2 kj10 a0 a1 (wrap64 (bt a0 a1)) (decide ((wrap64 (bt a0 a1)) < 240))) else (paymasterref07_Rune.j2 kj10 a0 a1 (wrap64 (bt a0 a1)) false)) = some (r1, r2) := by rw [if_neg (show ¬ (false = true) by decide)] at H; exact H
           clear H
           have H := H1
           clear H1
           have HC14 := Aside0.mk H
           clear H
           go_upto_region 10 with (fail)
           go_cut [36] (fun v36 wc => ∃ (kq : Nat) (x36_13 : Bool), v36 = .bool x36_13 ∧ Aside0 (paymasterref07_Rune.j2 kq a0 a1 (wrap64 (bt a0 a1)) x36_13 = some (r1, r2)) ∧ Aside0 (kq ≤ kj10) ∧ Drawn0 w wc)
           case first =>
            have H := HC14.out
            clear HC14
            by_cases c15 : (wrap64 (bt a0 a1)) ≥ 224
            ·
             rw [if_pos c15] at H
             have c15b0 : decide (224 ≤ (wrap64 (bt a0 a1))) = true := decide_eq_true c15
             clear c15
             (first | rw [c15b0] | (simp only [i64_w, i32_w]; rw [c15b0]) | skip)
             have H' := Aside0.mk H
             clear H
             go_wp2
             go_meet
             case rel => exact ⟨_, (decide ((wrap64 (bt a0 a1)) < 240)), (by first | rfl | (simp; done) | (simp [*]; done)), H', ⟨by have := HJ2.out; have := HJ10.out; first | omega | exact Nat.le_refl _⟩, by repeat (first | exact Drawn0.refl _ | apply Drawn0.step)⟩
            ·
             rw [if_neg c15] at H
             have c15b0 : decide (224 ≤ (wrap64 (bt a0 a1))) = false := decide_eq_false c15
             clear c15
             (first | rw [c15b0] | (simp only [i64_w, i32_w]; rw [c15b0]) | skip)
             have H' := Aside0.mk H
             clear H
             go_wp2
             go_meet
             case rel => exact ⟨_, (false), (by first | rfl | (simp; done) | (simp [*]; done)), H', ⟨by have := HJ2.out; have := HJ10.out; first | omega | exact Nat.le_refl _⟩, by repeat (first | exact Drawn0.refl _ | apply Drawn0.step)⟩
           case rest =>
            clear HC14
            try clear c1
            try clear c2
            try clear p2
            try clear c4
            try clear c4b0
            try clear c5
            try clear c6
            try clear c6b0
            try clear p6
            try clear c7
            try clear c7b0
            try clear p8
            try clear q8
            try clear hx8
            try clear c10
            try clear c10b0
            try clear c12
            try clear c12b0
            try clear c13
            try clear c15
            try clear c15b0
            try clear p2
            try clear p6
            try clear p8
            try clear q8
            obtain ⟨kq, x36_13, rfl, HA, HJ13, ⟨mc13, rfl⟩⟩ := hcut
            cases kq with
            | zero => exact absurd HA.out (by simp [paymasterref07_Rune.j2])
            | succ kj13 =>
             have H := HA.out
             clear HA
             simp only [paymasterref07_Rune.j2] at H
             by_cases c16 : x36_13 = true
             ·
              subst c16
              have H1 : (paymasterref07_Rune.j3 kj13 a0 a1 3 (wrap64 ((wrap64 (bt a0 a1)) - 224)) 2048) = some (r1, r2) := by rw [if_pos rfl] at H; exact H
              clear H
              have H := H1
              clear H1
              have H' := Aside0.mk H
              clear H
              go_wp2
              go_meet
              case rel => exact ⟨_, (3), (wrap64 ((wrap64 (bt a0 a1)) - 224)), (2048), (by first | rfl | (simp; done) | (simp [*]; done)), (by first | rfl | (simp; done) | (simp [*]; done)), (by first | rfl | (simp; done) | (simp [*]; done)), H', ⟨by have := HJ2.out; have := HJ10.out; have := HJ13.out; first | omega | exact Nat.le_refl _⟩, by repeat (first | exact Drawn0.refl _ | apply Drawn0.step)⟩
             ·
              replace c16 := Bool.eq_false_iff.mpr c16
              subst c16
              have H1 : (if (wrap64 (bt a0 a1)) ≥ 240 then (if (wrap64 (bt a0 a1)) < 248 then (paymasterref07_Rune.j3 kj13 a0 a1 4 (wrap64 ((wrap64 (bt a0 a1)) - 240)) 65536) else (some (0, 0))) else (some (0, 0))) = some (r1, r2) := by rw [if_neg (show ¬ (false = true) by decide)] at H; exact H
              clear H
              have H := H1
              clear H1
              by_cases c17 : (wrap64 (bt a0 a1)) ≥ 240
              ·
               rw [if_pos c17] at H
               have c17b0 : decide (240 ≤ (wrap64 (bt a0 a1))) = true := decide_eq_true c17
               clear c17
               by_cases c18 : (wrap64 (bt a0 a1)) < 248
               ·
                rw [if_pos c18] at H
                have c18b0 : decide ((wrap64 (bt a0 a1)) < 248) = true := decide_eq_true c18
                clear c18
                have H' := Aside0.mk H
                clear H
                go_wp2
                go_meet
                case rel => exact ⟨_, (4), (wrap64 ((wrap64 (bt a0 a1)) - 240)), (65536), (by first | rfl | (simp; done) | (simp [*]; done)), (by first | rfl | (simp; done) | (simp [*]; done)), (by first | rfl | (simp; done) | (simp [*]; done)), H', ⟨by have := HJ2.out; have := HJ10.out; have := HJ13.out; first | omega | exact Nat.le_refl _⟩, by repeat (first | exact Drawn0.refl _ | apply Drawn0.step)⟩
               ·
                rw [if_neg c18] at H
                have c18b0 : decide ((wrap64 (bt a0 a1)) < 248) = false := decide_eq_false c18
                clear c18
                simp only [Option.some.injEq, Prod.mk.injEq] at H
                obtain ⟨rfl, rfl⟩ := H
                go_wp2
                go_ret2
                exact ⟨by first | rfl | (simp; done) | (simp [*]; done), by repeat (first | exact Drawn0.refl _ | apply Drawn0.step)⟩
              ·
               rw [if_neg c17] at H
               have c17b0 : decide (240 ≤ (wrap64 (bt a0 a1))) = false := decide_eq_false c17
               clear c17
               simp only [Option.some.injEq, Prod.mk.injEq] at H
               obtain ⟨rfl, rfl⟩ := H
               go_wp2
               go_ret2
               exact ⟨by first | rfl | (simp; done) | (simp [*]; done), by repeat (first | exact Drawn0.refl _ | apply Drawn0.step)⟩
      case rest =>
       clear HC9
       try clear c1
       try clear c2
       try clear p2
       try clear c4
       try clear c4b0
       try clear c5
       try clear c6
       try clear c6b0
       try clear p6
       try clear c7
       try clear c7b0
       try clear p8
       try clear q8
       try clear hx8
       try clear c10
       try clear c10b0
       try clear c12
       try clear c12b0
       try clear c13
       try clear c15
       try clear c15b0
       try clear c16
       try clear c17
       try clear c17b0
       try clear c18
       try clear c18b0
       try clear p2
       try clear p6
       try clear p8
       try clear q8
       obtain ⟨kq, x7_8, x8_8, x9_8, rfl, rfl, rfl, HA, HJ8, ⟨mc8, rfl⟩⟩ := hcut
       cases kq with
       | zero => exact absurd HA.out (by simp [paymasterref07_Rune.j3])
       | succ kj8 =>
        have H := HA.out
        clear HA
        simp only [paymasterref07_Rune.j3] at H
        have H' := Aside0.mk H
        clear H
        go_wp2
        go_loopg [8, 10] kj8 (fun kq v8 v10 w' => ∃ (x8_3 : Int) (x10_3 : Int), v8 = .int .i64 x8_3 ∧ v10 = .int .i64 x10_3 ∧ Aside0 (paymasterref07_Rune.l0 kq a0 a1 x7_8 x8_3 x9_8 x10_3 = some (r1, r2)) ∧ Aside0 (kq ≤ kj8) ∧ Drawn0 w w')
        case atStart => exact ⟨(x8_8), (1), (by first | rfl | (simp; done) | (simp [*]; done)), (by first | rfl | (simp; done) | (simp [*]; done)), H', ⟨Nat.le_refl _⟩, by repeat (first | exact Drawn0.refl _ | apply Drawn0.step)⟩
        case round =>
         clear H'
         try clear c1
         try clear c2
         try clear p2
         try clear c4
         try clear c4b0
         try clear c5
         try clear c6
         try clear c6b0
         try clear p6
         try clear c7
         try clear c7b0
         try clear c8
         try clear p8
         try clear q8
         try clear hx8
         try clear c10
         try clear c10b0
         try clear c12
         try clear c12b0
         try clear c13
         try clear c15
         try clear c15b0
         try clear c16
         try clear c17
         try clear c17b0
         try clear c18
         try clear c18b0
         try clear p2
         try clear p6
         try clear p8
         try clear q8
         obtain ⟨x8_3, x10_3, rfl, rfl, HA, HK3, ⟨m3, rfl⟩⟩ := hrel
         cases gk with
         | zero => exact absurd HA.out (by simp [paymasterref07_Rune.l0])
         | succ k3 =>
          have H := HA.out
          clear HA
          simp only [paymasterref07_Rune.l0] at H
          by_cases c19 : x10_3 < x7_8
          ·
           rw [if_pos c19] at H
           have c19b0 : decide (x10_3 < x7_8) = true := decide_eq_true c19
           clear c19
           by_cases c20 : (wrap64 (a1 + x10_3)) ≥ (a0.size : Int)
           ·
            rw [if_pos c20] at H
            have c20b0 : decide ((a0.size : Int) ≤ (wrap64 (a1 + x10_3))) = true := decide_eq_true c20
            clear c20
            simp only [Option.some.injEq, Prod.mk.injEq] at H
            obtain ⟨rfl, rfl⟩ := H
            go_wp2
            go_ret2
            exact ⟨by first | rfl | (simp; done) | (simp [*]; done), by repeat (first | exact Drawn0.refl _ | apply Drawn0.step)⟩
           ·
            rw [if_neg c20] at H
            have c20b0 : decide ((a0.size : Int) ≤ (wrap64 (a1 + x10_3))) = false := decide_eq_false c20
            clear c20
            obtain ⟨ji21, hji21⟩ : ∃ j_ : Int, (wrap64 (a1 + x10_3)) = j_ := ⟨_, rfl⟩
            replace H : (if 0 ≤ (ji21) then (if (ji21) < (a0.size : Int) then (if (bt a0 (ji21)) < 128 then (some (0, 0)) else (if (bt a0 (ji21)) ≥ 192 then (some (0, 0)) else (paymasterref07_Rune.l0 k3 a0 a1 x7_8 (wrap64 ((wrap64 ((wrap64 (64 * x8_3)) + (wrap64 (bt a0 (ji21))))) - 128)) x9_8 (wrap64 (x10_3 + 1))))) else (none)) else (none)) = some (r1, r2) := by first | (rw [hji21] at H; exact H) | (simp only [hji21] at H ⊢; exact H)
            (try rw [hji21] at c20b0)
            have hji21w : (IntKind.i64.wrap (a1 + x10_3)) = ji21 := (i64_w _).trans hji21
            by_cases c22 : 0 ≤ (ji21)
            ·
             rw [if_pos c22] at H
             have c22b0 : decide (0 ≤ (ji21)) = true := decide_eq_true c22
             clear c22
             by_cases c23 : (ji21) < (a0.size : Int)
             ·
              rw [if_pos c23] at H
              have c23b0 : decide ((ji21) < (a0.size : Int)) = true := decide_eq_true c23
              clear c23
              by_cases c25 : (bt a0 (ji21)) < 128
              ·
               rw [if_pos c25] at H
               have c25b0 : decide ((bt a0 (ji21)) < 128) = true := decide_eq_true c25
               clear c25
               simp only [Option.some.injEq, Prod.mk.injEq] at H
               obtain ⟨rfl, rfl⟩ := H
               have p24 : 0 ≤ ((ji21) : Int) := of_decide_eq_true (by first | (with_reducible assumption) | assumption)
               have q24 : (ji21) < (a0.size : Int) := of_decide_eq_true (by first | (with_reducible assumption) | assumption)
               have hx24 := bt_at a0 (ji21)
               replace p24 := eq_true p24
               replace q24 := eq_true q24
               go_wp2
               go_ret2
               exact ⟨by first | rfl | (simp; done) | (simp only [← hji21] <;> (first | rfl | simp)) | (simp [*]; done), by repeat (first | exact Drawn0.refl _ | apply Drawn0.step)⟩
              ·
               rw [if_neg c25] at H
               have c25b0 : decide ((bt a0 (ji21)) < 128) = false := decide_eq_false c25
               clear c25
               by_cases c27 : (bt a0 (ji21)) ≥ 192
               ·
                rw [if_pos c27] at H
                have c27b0 : decide (192 ≤ (bt a0 (ji21))) = true := decide_eq_true c27
                clear c27
                simp only [Option.some.injEq, Prod.mk.injEq] at H
                obtain ⟨rfl, rfl⟩ := H
                have p24 : 0 ≤ ((ji21) : Int) := of_decide_eq_true (by first | (with_reducible assumption) | assumption)
                have q24 : (ji21) < (a0.size : Int) := of_decide_eq_true (by first | (with_reducible assumption) | assumption)
                have hx24 := bt_at a0 (ji21)
                replace p24 := eq_true p24
                replace q24 := eq_true q24
                have p26 : 0 ≤ ((ji21) : Int) := of_decide_eq_true (by first | (with_reducible assumption) | assumption)
                have q26 : (ji21) < (a0.size : Int) := of_decide_eq_true (by first | (with_reducible assumption) | assumption)
                have hx26 := bt_at a0 (ji21)
                replace p26 := eq_true p26
                replace q26 := eq_true q26
                go_wp2
                go_ret2
                exact ⟨by first | rfl | (simp; done) | (simp only [← hji21] <;> (first | rfl | simp)) | (simp [*]; done), by repeat (first | exact Drawn0.refl _ | apply Drawn0.step)⟩
               ·
                rw [if_neg c27] at H
                have c27b0 : decide (192 ≤ (bt a0 (ji21))) = false := decide_eq_false c27
                clear c27
                have H' := Aside0.mk H
                clear H
                have p24 : 0 ≤ ((ji21) : Int) := of_decide_eq_true (by first | (with_reducible assumption) | assumption)
                have q24 : (ji21) < (a0.size : Int) := of_decide_eq_true (by first | (with_reducible assumption) | assumption)
                have hx24 := bt_at a0 (ji21)
                replace p24 := eq_true p24
                replace q24 := eq_true q24
                have p26 : 0 ≤ ((ji21) : Int) := of_decide_eq_true (by first | (with_reducible assumption) | assumption)
                have q26 : (ji21) < (a0.size : Int) := of_decide_eq_true (by first | (with_reducible assumption) | assumption)
                have hx26 := bt_at a0 (ji21)
                replace p26 := eq_true p26
                replace q26 := eq_true q26
                have p28 : 0 ≤ ((ji21) : Int) := of_decide_eq_true (by first | (with_reducible assumption) | assumption)
                have q28 : (ji21) < (a0.size : Int) := of_decide_eq_true (by first | (with_reducible assumption) | assumption)
                have hx28 := bt_at a0 (ji21)
                replace p28 := eq_true p28
                replace q28 := eq_true q28
                go_wp2
                go_roundg k3
                case measure => have := HJ2.out; have := HJ8.out; have := HK3.out; omega
                case rel => exact ⟨(wrap64 ((wrap64 ((wrap64 (64 * x8_3)) + (wrap64 (bt a0 (ji21))))) - 128)), (wrap64 (x10_3 + 1)), (by first | rfl | (simp; done) | (simp only [← hji21] <;> (first | rfl | simp)) | (simp [*]; done)), (by first | rfl | (simp; done) | (simp [*]; done)), H', ⟨by have := HJ2.out; have := HJ8.out; have := HK3.out; omega⟩, by repeat (first | exact Drawn0.refl _ | apply Drawn0.step)⟩
             ·
              rw [if_neg c23] at H
              exact absurd H (by simp)
            ·
             rw [if_neg c22] at H
             exact absurd H (by simp)
          ·
           rw [if_neg c19] at H
           have c19b0 : decide (x10_3 < x7_8) = false := decide_eq_false c19
           clear c19
           by_cases c29 : x8_3 < x9_8
           ·
            rw [if_pos c29] at H
            have c29b0 : decide (x8_3 < x9_8) = true := decide_eq_true c29
            clear c29
            simp only [Option.some.injEq, Prod.mk.injEq] at H
            obtain ⟨rfl, rfl⟩ := H
            go_wp2
            go_ret2
            exact ⟨by first | rfl | (simp; done) | (simp [*]; done), by repeat (first | exact Drawn0.refl _ | apply Drawn0.step)⟩
           ·
            rw [if_neg c29] at H
            have c29b0 : decide (x8_3 < x9_8) = false := decide_eq_false c29
            clear c29
            by_cases c30 : x8_3 > 1114111
            ·
             rw [if_pos c30] at H
             have c30b0 : decide (1114111 < x8_3) = true := decide_eq_true c30
             clear c30
             simp only [Option.some.injEq, Prod.mk.injEq] at H
             obtain ⟨rfl, rfl⟩ := H
             go_wp2
             go_ret2
             exact ⟨by first | rfl | (simp; done) | (simp [*]; done), by repeat (first | exact Drawn0.refl _ | apply Drawn0.step)⟩
            ·
             rw [if_neg c30] at H
             have c30b0 : decide (1114111 < x8_3) = false := decide_eq_false c30
             clear c30
             by_cases c31 : x8_3 ≥ 55296
             ·
              rw [if_pos c31] at H
              have c31b0 : decide (55296 ≤ x8_3) = true := decide_eq_true c31
              clear c31
              by_cases c32 : x8_3 < 57344
              ·
               rw [if_pos c32] at H
               have c32b0 : decide (x8_3 < 57344) = true := decide_eq_true c32
               clear c32
               simp only [Option.some.injEq, Prod.mk.injEq] at H
               obtain ⟨rfl, rfl⟩ := H
               go_wp2
               go_ret2
               exact ⟨by first | rfl | (simp; done) | (simp [*]; done), by repeat (first | exact Drawn0.refl _ | apply Drawn0.step)⟩
              ·
               rw [if_neg c32] at H
               have c32b0 : decide (x8_3 < 57344) = false := decide_eq_false c32
               clear c32
               simp only [Option.some.injEq, Prod.mk.injEq] at H
               obtain ⟨rfl, rfl⟩ := H
               go_wp2
               go_ret2
               exact ⟨by first | rfl | (simp; done) | (simp [*]; done), by repeat (first | exact Drawn0.refl _ | apply Drawn0.step)⟩
             ·
              rw [if_neg c31] at H
              have c31b0 : decide (55296 ≤ x8_3) = false := decide_eq_false c31
              clear c31
              simp only [Option.some.injEq, Prod.mk.injEq] at H
              obtain ⟨rfl, rfl⟩ := H
              go_wp2
              go_ret2
              exact ⟨by first | rfl | (simp; done) | (simp [*]; done), by repeat (first | exact Drawn0.refl _ | apply Drawn0.step)⟩
     ·
      rw [if_neg c7] at H
      exact absurd H (by simp)
    ·
     rw [if_neg c6] at H
     exact absurd H (by simp)
end Go.Proofs.YtlmmpncdemblbaaDoor.P
namespace Go.Proofs.YtlmmpncdemblbaaDoor.P
open Go.RowKit Go.Proofs.YtlmmpncdemblbaaDoorW.PrintWords Go.Proofs.YtlmmpncdemblbaaDoorW.PrintLast Go.Proofs.YtlmmpncdemblbaaDoorW.PrintMore
attribute [local go_sem] max2_int min2_int max_two min_two max_three min_three max_four min_four-- for this text's walks alone
set_option linter.unusedVariables false
set_option linter.unusedSimpArgs false
/-! ### paymasterref07_within: function 104 -/
def paymasterref07_within.f (a0 : Int) : Option (Bool) := if a0 ≥ 97 then (if a0 ≤ 122 then (some true) else (if a0 ≥ 65 then (if a0 ≤ 90 then (some true) else (if a0 ≥ 48 then (if a0 ≤ 57 then (some true) else (if a0 = 46 then (some true) else (if a0 = 95 then (some true) else (if a0 = 45 then (some true) else (some (decide (a0 ≥ 161))))))) else (if a0 = 46 then (some true) else (if a0 = 95 then (some true) else (if a0 = 45 then (some true) else (some (decide (a0 ≥ 161)))))))) else (if a0 ≥ 48 then (if a0 ≤ 57 then (some true) else (if a0 = 46 then (some true) else (if a0 = 95 then (some true) else (if a0 = 45 then (some true) else (some (decide (a0 ≥ 161))))))) else (if a0 = 46 then (some true) else (if a0 = 95 then (some true) else (if a0 = 45 then (some true) else (some (decide (a0 ≥ 161))))))))) else (if a0 ≥ 65 then (if a0 ≤ 90 then (some true) else (if a0 ≥ 48 then (if a0 ≤ 57 then (some true) else (if a0 = 46 then (some true) else (if a0 = 95 then (some true) else (if a0 = 45 then (some true) else (some (decide (a0 ≥ 161))))))) else (if a0 = 46 then (some true) else (if a0 = 95 then (some true) else (if a0 = 45 then (some true) else (some (decide (a0 ≥ 161)))))))) else (if a0 ≥ 48 then (if a0 ≤ 57 then (some true) else (if a0 = 46 then (some true) else (if a0 = 95 then (some true) else (if a0 = 45 then (some true) else (some (decide (a0 ≥ 161))))))) else (if a0 = 46 then (some true) else (if a0 = 95 then (some true) else (if a0 = 45 then (some true) else (some (decide (a0 ≥ 161))))))))
set_option maxHeartbeats 8000000 in
set_option maxRecDepth 100000 in
theorem paymasterref07_within.calls (a0 : Int) (r : Bool) (w : World) (h : paymasterref07_within.f a0 = some r) :
  Calls Tryd.prog 104 #[.int .i64 a0] w fun e w' => e = .returned (.bool r) ∧ Drawn0 w w' := by
 have H : (if a0 ≥ 97 then (if a0 ≤ 122 then (some true) else (if a0 ≥ 65 then (if a0 ≤ 90 then (some true) else (if a0 ≥ 48 then (if a0 ≤ 57 then (some true) else (if a0 = 46 then (some true) else (if a0 = 95 then (some true) else (if a0 = 45 then (some true) else (some (decide (a0 ≥ 161))))))) else (if a0 = 46 then (some true) else (if a0 = 95 then (some true) else (if a0 = 45 then (some true) else (some (decide (a0 ≥ 161)))))))) else (if a0 ≥ 48 then (if a0 ≤ 57 then (some true) else (if a0 = 46 then (some true) else (if a0 = 95 then (some true) else (if a0 = 45 then (some true) else (some (decide (a0 ≥ 161))))))) else (if a0 = 46 then (some true) else (if a0 = 95 then (some true) else (if a0 = 45 then (some true) else (some (decide (a0 ≥ 161))))))))) else (if a0 ≥ 65 then (if a0 ≤ 90 then (some true) else (if a0 ≥ 48 then (if a0 ≤ 57 then (some true) else (if a0 = 46 then (some true) else (if a0 = 95 then (some true) else (if a0 = 45 then (some true) else (some (decide (a0 ≥ 161))))))) else (if a0 = 46 then (some true) else (if a0 = 95 then (some true) else (if a0 = 45 then (some true) else (some (decide (a0 ≥ 161)))))))) else (if a0 ≥ 48 then (if a0 ≤ 57 then (some true) else (if a0 = 46 then (some true) else (if a0 = 95 then (some true) else (if a0 = 45 then (some true) else (some (decide (a0 ≥ 161))))))) else (if a0 = 46 then (some true) else (if a0 = 95 then (some true) else (if a0 = 45 then (some true) else (some (decide (a0 ≥ 161))))))))) = some r := h
 clear h
 by_cases c2 : a0 ≥ 97
 ·
  rw [if_pos c2] at H
  have c2b0 : decide (97 ≤ a0) = true := decide_eq_true c2
  clear c2
  by_cases c3 : a0 ≤ 122
  ·
   rw [if_pos c3] at H
   have c3b0 : decide (a0 ≤ 122) = true := decide_eq_true c3
   clear c3
   obtain rfl := Option.some.inj H
   go_enter Tryd.func104, Tryd.ntmps104
   go_wp2
   go_ret
   exact ⟨by first | rfl | (simp; done) | (simp [*]; done), by repeat (first | exact Drawn0.refl _ | apply Drawn0.step)⟩
  ·
   rw [if_neg c3] at H
   have c3b0 : decide (a0 ≤ 122) = false := decide_eq_false c3
   clear c3
   by_cases c4 : a0 ≥ 65
   ·
    rw [if_pos c4] at H
    have c4b0 : decide (65 ≤ a0) = true := decide_eq_true c4
    clear c4
    by_cases c5 : a0 ≤ 90
    ·
     rw [if_pos c5] at H
     have c5b0 : decide (a0 ≤ 90) = true := decide_eq_true c5
     clear c5
     obtain rfl := Option.some.inj H
     go_enter Tryd.func104, Tryd.ntmps104
     go_wp2
     go_ret
     exact ⟨by first | rfl | (simp; done) | (simp [*]; done), by repeat (first | exact Drawn0.refl _ | apply Drawn0.step)⟩
    ·
     rw [if_neg c5] at H
     have c5b0 : decide (a0 ≤ 90) = false := decide_eq_false c5
     clear c5
     by_cases c6 : a0 ≥ 48
     ·
      rw [if_pos c6] at H
      have c6b0 : decide (48 ≤ a0) = true := decide_eq_true c6
      clear c6
      by_cases c7 : a0 ≤ 57
      ·
       rw [if_pos c7] at H
       have c7b0 : decide (a0 ≤ 57) = true := decide_eq_true c7
       clear c7
       obtain rfl := Option.some.inj H
       go_enter Tryd.func104, Tryd.ntmps104
       go_wp2
       go_ret
       exact ⟨by first | rfl | (simp; done) | (simp [*]; done), by repeat (first | exact Drawn0.refl _ | apply Drawn0.step)⟩
      ·
       rw [if_neg c7] at H
       have c7b0 : decide (a0 ≤ 57) = false := decide_eq_false c7
       clear c7
       by_cases c8 : a0 = 46
       ·
        rw [if_pos c8] at H
        have c8b0 : (a0 == 46) = true := beq_iff_eq.mpr c8
        have c8b1 : (a0 != 46) = false := bne_eq_false_iff_eq.mpr c8
        clear c8
        obtain rfl := Option.some.inj H
        go_enter Tryd.func104, Tryd.ntmps104
        go_wp2
        go_ret
        exact ⟨by first | rfl | (simp; done) | (simp [*]; done), by repeat (first | exact Drawn0.refl _ | apply Drawn0.step)⟩
       ·
        rw [if_neg c8] at H
        have c8b0 : (a0 == 46) = false := beq_eq_false_iff_ne.mpr c8
        have c8b1 : (a0 != 46) = true := bne_iff_ne.mpr c8
        by_cases c9 : a0 = 95
        ·
         rw [if_pos c9] at H
         have c9b0 : (a0 == 95) = true := beq_iff_eq.mpr c9
         have c9b1 : (a0 != 95) = false := bne_eq_false_iff_eq.mpr c9
         clear c9
         obtain rfl := Option.some.inj H
         go_enter Tryd.func104, Tryd.ntmps104
         go_wp2
         go_ret
         exact ⟨by first | rfl | (simp; done) | (simp [*]; done), by repeat (first | exact Drawn0.refl _ | apply Drawn0.step)⟩
        ·
         rw [if_neg c9] at H
         have c9b0 : (a0 == 95) = false := beq_eq_false_iff_ne.mpr c9
         have c9b1 : (a0 != 95) = true := bne_iff_ne.mpr c9
         by_cases c10 : a0 = 45
         ·
          rw [if_pos c10] at H
          have c10b0 : (a0 == 45) = true := beq_iff_eq.mpr c10
          have c10b1 : (a0 != 45) = false := bne_eq_false_iff_eq.mpr c10
          clear c10
          obtain rfl := Option.some.inj H
          go_enter Tryd.func104, Tryd.ntmps104
          go_wp2
          go_ret
          exact ⟨by first | rfl | (simp; done) | (simp [*]; done), by repeat (first | exact Drawn0.refl _ | apply Drawn0.step)⟩
         ·
          rw [if_neg c10] at H
          have c10b0 : (a0 == 45) = false := beq_eq_false_iff_ne.mpr c10
          have c10b1 : (a0 != 45) = true := bne_iff_ne.mpr c10
          obtain rfl := Option.some.inj H
          go_enter Tryd.func104, Tryd.ntmps104
          go_wp2
          go_ret
          exact ⟨by first | rfl | (simp; done) | (simp [*]; done), by repeat (first | exact Drawn0.refl _ | apply Drawn0.step)⟩
     ·
      rw [if_neg c6] at H
      have c6b0 : decide (48 ≤ a0) = false := decide_eq_false c6
      clear c6
      by_cases c11 : a0 = 46
      ·
       rw [if_pos c11] at H
       have c11b0 : (a0 == 46) = true := beq_iff_eq.mpr c11
       have c11b1 : (a0 != 46) = false := bne_eq_false_iff_eq.mpr c11
       clear c11
       obtain rfl := Option.some.inj H
       go_enter Tryd.func104, Tryd.ntmps104
       go_wp2
       go_ret
       exact ⟨by first | rfl | (simp; done) | (simp [*]; done), by repeat (first | exact Drawn0.refl _ | apply Drawn0.step)⟩
      ·
       rw [if_neg c11] at H
       have c11b0 : (a0 == 46) = false := beq_eq_false_iff_ne.mpr c11
       have c11b1 : (a0 != 46) = true := bne_iff_ne.mpr c11
       by_cases c12 : a0 = 95
       ·
        rw [if_pos c12] at H
        have c12b0 : (a0 == 95) = true := beq_iff_eq.mpr c12
        have c12b1 : (a0 != 95) = false := bne_eq_false_iff_eq.mpr c12
        clear c12
        obtain rfl := Option.some.inj H
        go_enter Tryd.func104, Tryd.ntmps104
        go_wp2
        go_ret
        exact ⟨by first | rfl | (simp; done) | (simp [*]; done), by repeat (first | exact Drawn0.refl _ | apply Drawn0.step)⟩
       ·
        rw [if_neg c12] at H
        have c12b0 : (a0 == 95) = false := beq_eq_false_iff_ne.mpr c12
        have c12b1 : (a0 != 95) = true := bne_iff_ne.mpr c12
        by_cases c13 : a0 = 45
        ·
         rw [if_pos c13] at H
         have c13b0 : (a0 == 45) = true := beq_iff_eq.mpr c13
         have c13b1 : (a0 != 45) = false := bne_eq_false_iff_eq.mpr c13
         clear c13
         obtain rfl := Option.some.inj H
         go_enter Tryd.func104, Tryd.ntmps104
         go_wp2
         go_ret
         exact ⟨by first | rfl | (simp; done) | (simp [*]; done), by repeat (first | exact Drawn0.refl _ | apply Drawn0.step)⟩
        ·
         rw [if_neg c13] at H
         have c13b0 : (a0 == 45) = false := beq_eq_false_iff_ne.mpr c13
         have c13b1 : (a0 != 45) = true := bne_iff_ne.mpr c13
         obtain rfl := Option.some.inj H
         go_enter Tryd.func104, Tryd.ntmps104
         go_wp2
         go_ret
         exact ⟨by first | rfl | (simp; done) | (simp [*]; done), by repeat (first | exact Drawn0.refl _ | apply Drawn0.step)⟩
   ·
    rw [if_neg c4] at H
    have c4b0 : decide (65 ≤ a0) = false := decide_eq_false c4
    clear c4
    by_cases c14 : a0 ≥ 48
    ·
     rw [if_pos c14] at H
     have c14b0 : decide (48 ≤ a0) = true := decide_eq_true c14
     clear c14
     by_cases c15 : a0 ≤ 57
     ·
      rw [if_pos c15] at H
      have c15b0 : decide (a0 ≤ 57) = true := decide_eq_true c15
      clear c15
      obtain rfl := Option.some.inj H
      go_enter Tryd.func104, Tryd.ntmps104
      go_wp2
      go_ret
      exact ⟨by first | rfl | (simp; done) | (simp [*]; done), by repeat (first | exact Drawn0.refl _ | apply Drawn0.step)⟩
     ·
      rw [if_neg c15] at H
      have c15b0 : decide (a0 ≤ 57) = false := decide_eq_false c15
      clear c15
      by_cases c16 : a0 = 46
      ·
       rw [if_pos c16] at H
       have c16b0 : (a0 == 46) = true := beq_iff_eq.mpr c16
       have c16b1 : (a0 != 46) = false := bne_eq_false_iff_eq.mpr c16
       clear c16
       obtain rfl := Option.some.inj H
       go_enter Tryd.func104, Tryd.ntmps104
       go_wp2
       go_ret
       exact ⟨by first | rfl | (simp; done) | (simp [*]; done), by repeat (first | exact Drawn0.refl _ | apply Drawn0.step)⟩
      ·
       rw [if_neg c16] at H
       have c16b0 : (a0 == 46) = false := beq_eq_false_iff_ne.mpr c16
       have c16b1 : (a0 != 46) = true := bne_iff_ne.mpr c16
       by_cases c17 : a0 = 95
       ·
        rw [if_pos c17] at H
        have c17b0 : (a0 == 95) = true := beq_iff_eq.mpr c17
        have c17b1 : (a0 != 95) = false := bne_eq_false_iff_eq.mpr c17
        clear c17
        obtain rfl := Option.some.inj H
        go_enter Tryd.func104, Tryd.ntmps104
        go_wp2
        go_ret
        exact ⟨by first | rfl | (simp; done) | (simp [*]; done), by repeat (first | exact Drawn0.refl _ | apply Drawn0.step)⟩
       ·
        rw [if_neg c17] at H
        have c17b0 : (a0 == 95) = false := beq_eq_false_iff_ne.mpr c17
        have c17b1 : (a0 != 95) = true := bne_iff_ne.mpr c17
        by_cases c18 : a0 = 45
        ·
         rw [if_pos c18] at H
         have c18b0 : (a0 == 45) = true := beq_iff_eq.mpr c18
         have c18b1 : (a0 != 45) = false := bne_eq_false_iff_eq.mpr c18
         clear c18
         obtain rfl := Option.some.inj H
         go_enter Tryd.func104, Tryd.ntmps104
         go_wp2
         go_ret
         exact ⟨by first | rfl | (simp; done) | (simp [*]; done), by repeat (first | exact Drawn0.refl _ | apply Drawn0.step)⟩
        ·
         rw [if_neg c18] at H
         have c18b0 : (a0 == 45) = false := beq_eq_false_iff_ne.mpr c18
         have c18b1 : (a0 != 45) = true := bne_iff_ne.mpr c18
         obtain rfl := Option.some.inj H
         go_enter Tryd.func104, Tryd.ntmps104
         go_wp2
         go_ret
         exact ⟨by first | rfl | (simp; done) | (simp [*]; done), by repeat (first | exact Drawn0.refl _ | apply Drawn0.step)⟩
    ·
     rw [if_neg c14] at H
     have c14b0 : decide (48 ≤ a0) = false := decide_eq_false c14
     clear c14
     by_cases c19 : a0 = 46
     ·
      rw [if_pos c19] at H
      have c19b0 : (a0 == 46) = true := beq_iff_eq.mpr c19
      have c19b1 : (a0 != 46) = false := bne_eq_false_iff_eq.mpr c19
      clear c19
      obtain rfl := Option.some.inj H
      go_enter Tryd.func104, Tryd.ntmps104
      go_wp2
      go_ret
      exact ⟨by first | rfl | (simp; done) | (simp [*]; done), by repeat (first | exact Drawn0.refl _ | apply Drawn0.step)⟩
     ·
      rw [if_neg c19] at H
      have c19b0 : (a0 == 46) = false := beq_eq_false_iff_ne.mpr c19
      have c19b1 : (a0 != 46) = true := bne_iff_ne.mpr c19
      by_cases c20 : a0 = 95
      ·
       rw [if_pos c20] at H
       have c20b0 : (a0 == 95) = true := beq_iff_eq.mpr c20
       have c20b1 : (a0 != 95) = false := bne_eq_false_iff_eq.mpr c20
       clear c20
       obtain rfl := Option.some.inj H
       go_enter Tryd.func104, Tryd.ntmps104
       go_wp2
       go_ret
       exact ⟨by first | rfl | (simp; done) | (simp [*]; done), by repeat (first | exact Drawn0.refl _ | apply Drawn0.step)⟩
      ·
       rw [if_neg c20] at H
       have c20b0 : (a0 == 95) = false := beq_eq_false_iff_ne.mpr c20
       have c20b1 : (a0 != 95) = true := bne_iff_ne.mpr c20
       by_cases c21 : a0 = 45
       ·
        rw [if_pos c21] at H
        have c21b0 : (a0 == 45) = true := beq_iff_eq.mpr c21
        have c21b1 : (a0 != 45) = false := bne_eq_false_iff_eq.mpr c21
        clear c21
        obtain rfl := Option.some.inj H
        go_enter Tryd.func104, Tryd.ntmps104
        go_wp2
        go_ret
        exact ⟨by first | rfl | (simp; done) | (simp [*]; done), by repeat (first | exact Drawn0.refl _ | apply Drawn0.step)⟩
       ·
        rw [if_neg c21] at H
        have c21b0 : (a0 == 45) = false := beq_eq_false_iff_ne.mpr c21
        have c21b1 : (a0 != 45) = true := bne_iff_ne.mpr c21
        obtain rfl := Option.some.inj H
        go_enter Tryd.func104, Tryd.ntmps104
        go_wp2
        go_ret
        exact ⟨by first | rfl | (simp; done) | (simp [*]; done), by repeat (first | exact Drawn0.refl _ | apply Drawn0.step)⟩
 ·
  rw [if_neg c2] at H
  have c2b0 : decide (97 ≤ a0) = false := decide_eq_false c2
  clear c2
  by_cases c22 : a0 ≥ 65
  ·
   rw [if_pos c22] at H
   have c22b0 : decide (65 ≤ a0) = true := decide_eq_true c22
   clear c22
   by_cases c23 : a0 ≤ 90
   ·
    rw [if_pos c23] at H
    have c23b0 : decide (a0 ≤ 90) = true := decide_eq_true c23
    clear c23
    obtain rfl := Option.some.inj H
    go_enter Tryd.func104, Tryd.ntmps104
    go_wp2
    go_ret
    exact ⟨by first | rfl | (simp; done) | (simp [*]; done), by repeat (first | exact Drawn0.refl _ | apply Drawn0.step)⟩
   ·
    rw [if_neg c23] at H
    have c23b0 : decide (a0 ≤ 90) = false := decide_eq_false c23
    clear c23
    by_cases c24 : a0 ≥ 48
    ·
     rw [if_pos c24] at H
     have c24b0 : decide (48 ≤ a0) = true := decide_eq_true c24
     clear c24
     by_cases c25 : a0 ≤ 57
     ·
      rw [if_pos c25] at H
      have c25b0 : decide (a0 ≤ 57) = true := decide_eq_true c25
      clear c25
      obtain rfl := Option.some.inj H
      go_enter Tryd.func104, Tryd.ntmps104
      go_wp2
      go_ret
      exact ⟨by first | rfl | (simp; done) | (simp [*]; done), by repeat (first | exact Drawn0.refl _ | apply Drawn0.step)⟩
     ·
      rw [if_neg c25] at H
      have c25b0 : decide (a0 ≤ 57) = false := decide_eq_false c25
      clear c25
      by_cases c26 : a0 = 46
      ·
       rw [if_pos c26] at H
       have c26b0 : (a0 == 46) = true := beq_iff_eq.mpr c26
       have c26b1 : (a0 != 46) = false := bne_eq_false_iff_eq.mpr c26
       clear c26
       obtain rfl := Option.some.inj H
       go_enter Tryd.func104, Tryd.ntmps104
       go_wp2
       go_ret
       exact ⟨by first | rfl | (simp; done) | (simp [*]; done), by repeat (first | exact Drawn0.refl _ | apply Drawn0.step)⟩
      ·
       rw [if_neg c26] at H
       have c26b0 : (a0 == 46) = false := beq_eq_false_iff_ne.mpr c26
       have c26b1 : (a0 != 46) = true := bne_iff_ne.mpr c26
       by_cases c27 : a0 = 95
       ·
        rw [if_pos c27] at H
        have c27b0 : (a0 == 95) = true := beq_iff_eq.mpr c27
        have c27b1 : (a0 != 95) = false := bne_eq_false_iff_eq.mpr c27
        clear c27
        obtain rfl := Option.some.inj H
        go_enter Tryd.func104, Tryd.ntmps104
        go_wp2
        go_ret
        exact ⟨by first | rfl | (simp; done) | (simp [*]; done), by repeat (first | exact Drawn0.refl _ | apply Drawn0.step)⟩
       ·
        rw [if_neg c27] at H
        have c27b0 : (a0 == 95) = false := beq_eq_false_iff_ne.mpr c27
        have c27b1 : (a0 != 95) = true := bne_iff_ne.mpr c27
        by_cases c28 : a0 = 45
        ·
         rw [if_pos c28] at H
         have c28b0 : (a0 == 45) = true := beq_iff_eq.mpr c28
         have c28b1 : (a0 != 45) = false := bne_eq_false_iff_eq.mpr c28
         clear c28
         obtain rfl := Option.some.inj H
         go_enter Tryd.func104, Tryd.ntmps104
         go_wp2
         go_ret
         exact ⟨by first | rfl | (simp; done) | (simp [*]; done), by repeat (first | exact Drawn0.refl _ | apply Drawn0.step)⟩
        ·
         rw [if_neg c28] at H
         have c28b0 : (a0 == 45) = false := beq_eq_false_iff_ne.mpr c28
         have c28b1 : (a0 != 45) = true := bne_iff_ne.mpr c28
         obtain rfl := Option.some.inj H
         go_enter Tryd.func104, Tryd.ntmps104
         go_wp2
         go_ret
         exact ⟨by first | rfl | (simp; done) | (simp [*]; done), by repeat (first | exact Drawn0.refl _ | apply Drawn0.step)⟩
    ·
     rw [if_neg c24] at H
     have c24b0 : decide (48 ≤ a0) = false := decide_eq_false c24
     clear c24
     by_cases c29 : a0 = 46
     ·
      rw [if_pos c29] at H
      have c29b0 : (a0 == 46) = true := beq_iff_eq.mpr c29
      have c29b1 : (a0 != 46) = false := bne_eq_false_iff_eq.mpr c29
      clear c29
      obtain rfl := Option.some.inj H
      go_enter Tryd.func104, Tryd.ntmps104
      go_wp2
      go_ret
      exact ⟨by first | rfl | (simp; done) | (simp [*]; done), by repeat (first | exact Drawn0.refl _ | apply Drawn0.step)⟩
     ·
      rw [if_neg c29] at H
      have c29b0 : (a0 == 46) = false := beq_eq_false_iff_ne.mpr c29
      have c29b1 : (a0 != 46) = true := bne_iff_ne.mpr c29
      by_cases c30 : a0 = 95
      ·
       rw [if_pos c30] at H
       have c30b0 : (a0 == 95) = true := beq_iff_eq.mpr c30
       have c30b1 : (a0 != 95) = false := bne_eq_false_iff_eq.mpr c30
       clear c30
       obtain rfl := Option.some.inj H
       go_enter Tryd.func104, Tryd.ntmps104
       go_wp2
       go_ret
       exact ⟨by first | rfl | (simp; done) | (simp [*]; done), by repeat (first | exact Drawn0.refl _ | apply Drawn0.step)⟩
      ·
       rw [if_neg c30] at H
       have c30b0 : (a0 == 95) = false := beq_eq_false_iff_ne.mpr c30
       have c30b1 : (a0 != 95) = true := bne_iff_ne.mpr c30
       by_cases c31 : a0 = 45
       ·
        rw [if_pos c31] at H
        have c31b0 : (a0 == 45) = true := beq_iff_eq.mpr c31
        have c31b1 : (a0 != 45) = false := bne_eq_false_iff_eq.mpr c31
        clear c31
        obtain rfl := Option.some.inj H
        go_enter Tryd.func104, Tryd.ntmps104
        go_wp2
        go_ret
        exact ⟨by first | rfl | (simp; done) | (simp [*]; done), by repeat (first | exact Drawn0.refl _ | apply Drawn0.step)⟩
       ·
        rw [if_neg c31] at H
        have c31b0 : (a0 == 45) = false := beq_eq_false_iff_ne.mpr c31
        have c31b1 : (a0 != 45) = true := bne_iff_ne.mpr c31
        obtain rfl := Option.some.inj H
        go_enter Tryd.func104, Tryd.ntmps104
        go_wp2
        go_ret
        exact ⟨by first | rfl | (simp; done) | (simp [*]; done), by repeat (first | exact Drawn0.refl _ | apply Drawn0.step)⟩
  ·
   rw [if_neg c22] at H
   have c22b0 : decide (65 ≤ a0) = false := decide_eq_false c22
   clear c22
   by_cases c32 : a0 ≥ 48
   ·
    rw [if_pos c32] at H
    have c32b0 : decide (48 ≤ a0) = true := decide_eq_true c32
    clear c32
    by_cases c33 : a0 ≤ 57
    ·
     rw [if_pos c33] at H
     have c33b0 : decide (a0 ≤ 57) = true := decide_eq_true c33
     clear c33
     obtain rfl := Option.some.inj H
     go_enter Tryd.func104, Tryd.ntmps104
     go_wp2
     go_ret
     exact ⟨by first | rfl | (simp; done) | (simp [*]; done), by repeat (first | exact Drawn0.refl _ | apply Drawn0.step)⟩
    ·
     rw [if_neg c33] at H
     have c33b0 : decide (a0 ≤ 57) = false := decide_eq_false c33
     clear c33
     by_cases c34 : a0 = 46
     ·
      rw [if_pos c34] at H
      have c34b0 : (a0 == 46) = true := beq_iff_eq.mpr c34
      have c34b1 : (a0 != 46) = false := bne_eq_false_iff_eq.mpr c34
      clear c34
      obtain rfl := Option.some.inj H
      go_enter Tryd.func104, Tryd.ntmps104
      go_wp2
      go_ret
      exact ⟨by first | rfl | (simp; done) | (simp [*]; done), by repeat (first | exact Drawn0.refl _ | apply Drawn0.step)⟩
     ·
      rw [if_neg c34] at H
      have c34b0 : (a0 == 46) = false := beq_eq_false_iff_ne.mpr c34
      have c34b1 : (a0 != 46) = true := bne_iff_ne.mpr c34
      by_cases c35 : a0 = 95
      ·
       rw [if_pos c35] at H
       have c35b0 : (a0 == 95) = true := beq_iff_eq.mpr c35
       have c35b1 : (a0 != 95) = false := bne_eq_false_iff_eq.mpr c35
       clear c35
       obtain rfl := Option.some.inj H
       go_enter Tryd.func104, Tryd.ntmps104
       go_wp2
       go_ret
       exact ⟨by first | rfl | (simp; done) | (simp [*]; done), by repeat (first | exact Drawn0.refl _ | apply Drawn0.step)⟩
      ·
       rw [if_neg c35] at H
       have c35b0 : (a0 == 95) = false := beq_eq_false_iff_ne.mpr c35
       have c35b1 : (a0 != 95) = true := bne_iff_ne.mpr c35
       by_cases c36 : a0 = 45
       ·
        rw [if_pos c36] at H
        have c36b0 : (a0 == 45) = true := beq_iff_eq.mpr c36
        have c36b1 : (a0 != 45) = false := bne_eq_false_iff_eq.mpr c36
        clear c36
        obtain rfl := Option.some.inj H
        go_enter Tryd.func104, Tryd.ntmps104
        go_wp2
        go_ret
        exact ⟨by first | rfl | (simp; done) | (simp [*]; done), by repeat (first | exact Drawn0.refl _ | apply Drawn0.step)⟩
       ·
        rw [if_neg c36] at H
        have c36b0 : (a0 == 45) = false := beq_eq_false_iff_ne.mpr c36
        have c36b1 : (a0 != 45) = true := bne_iff_ne.mpr c36
        obtain rfl := Option.some.inj H
        go_enter Tryd.func104, Tryd.ntmps104
        go_wp2
        go_ret
        exact ⟨by first | rfl | (simp; done) | (simp [*]; done), by repeat (first | exact Drawn0.refl _ | apply Drawn0.step)⟩
   ·
    rw [if_neg c32] at H
    have c32b0 : decide (48 ≤ a0) = false := decide_eq_false c32
    clear c32
    by_cases c37 : a0 = 46
    ·
     rw [if_pos c37] at H
     have c37b0 : (a0 == 46) = true := beq_iff_eq.mpr c37
     have c37b1 : (a0 != 46) = false := bne_eq_false_iff_eq.mpr c37
     clear c37
     obtain rfl := Option.some.inj H
     go_enter Tryd.func104, Tryd.ntmps104
     go_wp2
     go_ret
     exact ⟨by first | rfl | (simp; done) | (simp [*]; done), by repeat (first | exact Drawn0.refl _ | apply Drawn0.step)⟩
    ·
     rw [if_neg c37] at H
     have c37b0 : (a0 == 46) = false := beq_eq_false_iff_ne.mpr c37
     have c37b1 : (a0 != 46) = true := bne_iff_ne.mpr c37
     by_cases c38 : a0 = 95
     ·
      rw [if_pos c38] at H
      have c38b0 : (a0 == 95) = true := beq_iff_eq.mpr c38
      have c38b1 : (a0 != 95) = false := bne_eq_false_iff_eq.mpr c38
      clear c38
      obtain rfl := Option.some.inj H
      go_enter Tryd.func104, Tryd.ntmps104
      go_wp2
      go_ret
      exact ⟨by first | rfl | (simp; done) | (simp [*]; done), by repeat (first | exact Drawn0.refl _ | apply Drawn0.step)⟩
     ·
      rw [if_neg c38] at H
      have c38b0 : (a0 == 95) = false := beq_eq_false_iff_ne.mpr c38
      have c38b1 : (a0 != 95) = true := bne_iff_ne.mpr c38
      by_cases c39 : a0 = 45
      ·
       rw [if_pos c39] at H
       have c39b0 : (a0 == 45) = true := beq_iff_eq.mpr c39
       have c39b1 : (a0 != 45) = false := bne_eq_false_iff_eq.mpr c39
       clear c39
       obtain rfl := Option.some.inj H
       go_enter Tryd.func104, Tryd.ntmps104
       go_wp2
       go_ret
       exact ⟨by first | rfl | (simp; done) | (simp [*]; done), by repeat (first | exact Drawn0.refl _ | apply Drawn0.step)⟩
      ·
       rw [if_neg c39] at H
       have c39b0 : (a0 == 45) = false := beq_eq_false_iff_ne.mpr c39
       have c39b1 : (a0 != 45) = true := bne_iff_ne.mpr c39
       obtain rfl := Option.some.inj H
       go_enter Tryd.func104, Tryd.ntmps104
       go_wp2
       go_ret
       exact ⟨by first | rfl | (simp; done) | (simp [*]; done), by repeat (first | exact Drawn0.refl _ | apply Drawn0.step)⟩
/-! ### paymasterref07_MayId: function 88 -/
def paymasterref07_MayId.l0 : Nat → ByteArray → Int → Int → Option (Bool)
 | 0, _, _, _ => none
 | k + 1, x0, x3, x4 => if x4 < (x0.size : Int) then ((paymasterref07_Rune.f k x0 x4).bind fun bt109 => (if bt109.2 = 0 then (some false) else ((paymasterref07_within.f bt109.1).bind fun t111 => (if t111 = true then (paymasterref07_MayId.l0 k x0 (wrap64 (x3 + 1)) (wrap64 (x4 + bt109.2))) else (some false))))) else (if x3 ≥ 1 then (some (decide (x3 ≤ 24))) else (some false))
def paymasterref07_MayId.f (k : Nat) (a0 : ByteArray) : Option (Bool) := paymasterref07_MayId.l0 k a0 0 0
set_option maxHeartbeats 8000000 in
set_option maxRecDepth 100000 in
theorem paymasterref07_MayId.calls (k : Nat) (a0 : ByteArray) (r : Bool) (w : World) (h : paymasterref07_MayId.f k a0 = some r) :
  Calls Tryd.prog 88 #[.string a0] w fun e w' => e = .returned (.bool r) ∧ Drawn0 w w' := by
 have H : (paymasterref07_MayId.l0 k a0 0 0) = some r := h
 clear h
 have H' := Aside0.mk H
 clear H
 go_enter Tryd.func88, Tryd.ntmps88
 go_wp2
 go_loopg [3, 4] k (fun kq v3 v4 w' => ∃ (x3_1 : Int) (x4_1 : Int), v3 = .int .i64 x3_1 ∧ v4 = .int .i64 x4_1 ∧ Aside0 (paymasterref07_MayId.l0 kq a0 x3_1 x4_1 = some r) ∧ Aside0 (kq ≤ k) ∧ Drawn0 w w')
 case atStart => exact ⟨(0), (0), (by first | rfl | (simp; done) | (simp [*]; done)), (by first | rfl | (simp; done) | (simp [*]; done)), H', ⟨Nat.le_refl _⟩, by repeat (first | exact Drawn0.refl _ | apply Drawn0.step)⟩
 case round =>
  clear H'
  obtain ⟨x3_1, x4_1, rfl, rfl, HA, HK1, ⟨m1, rfl⟩⟩ := hrel
  cases gk with
  | zero => exact absurd HA.out (by simp [paymasterref07_MayId.l0])
  | succ k1 =>
   have H := HA.out
   clear HA
   simp only [paymasterref07_MayId.l0] at H
   by_cases c2 : x4_1 < (a0.size : Int)
   ·
    rw [if_pos c2] at H
    have c2b0 : decide (x4_1 < (a0.size : Int)) = true := decide_eq_true c2
    clear c2
    replace H := Option.bind_eq_some_iff.mp H
    obtain ⟨⟨t109, t110⟩, A30, H⟩ := H
    replace H : (if t110 = 0 then (some false) else ((paymasterref07_within.f t109).bind fun t111 => (if t111 = true then (paymasterref07_MayId.l0 k1 a0 (wrap64 (x3_1 + 1)) (wrap64 (x4_1 + t110))) else (some false)))) = some r := H
    have A3 := Aside0.mk A30
    clear A30
    by_cases c4 : t110 = 0
    ·
     rw [if_pos c4] at H
     have c4b0 : (t110 == 0) = true := beq_iff_eq.mpr c4
     have c4b1 : (t110 != 0) = false := bne_eq_false_iff_eq.mpr c4
     clear c4
     obtain rfl := Option.some.inj H
     go_wp2_with (first | ((with_reducible refine gate_callee (f := 103) rfl ?_); refine goesL_ (some 14) rfl rfl Tryd.func103 (by kernel_rfl) rfl #[.string a0, .int .i64 x4_1] rfl (by (try simp only [List.map_toArray, List.map_cons, List.map_nil]); first | done | rfl | (simp only [List.length_drop, List.length_take]; rfl)) ?_; (with_reducible refine (paymasterref07_Rune.calls k1 a0 x4_1 t109 t110 _ A3.out).mono ?_); rintro e w' ⟨rfl, ⟨nd, rfl⟩⟩; refine ⟨_, rfl, ?_⟩))
     go_ret
     exact ⟨by first | rfl | (simp; done) | (simp [*]; done), by repeat (first | exact Drawn0.refl _ | apply Drawn0.step)⟩
    ·
     rw [if_neg c4] at H
     have c4b0 : (t110 == 0) = false := beq_eq_false_iff_ne.mpr c4
     have c4b1 : (t110 != 0) = true := bne_iff_ne.mpr c4
     replace H := Option.bind_eq_some_iff.mp H
     obtain ⟨t111, A50, H⟩ := H
     replace H : (if t111 = true then (paymasterref07_MayId.l0 k1 a0 (wrap64 (x3_1 + 1)) (wrap64 (x4_1 + t110))) else (some false)) = some r := H
     have A5 := Aside0.mk A50
     clear A50
     by_cases c6 : t111 = true
     ·
      subst c6
      have H1 : (paymasterref07_MayId.l0 k1 a0 (wrap64 (x3_1 + 1)) (wrap64 (x4_1 + t110))) = some r := by rw [if_pos rfl] at H; exact H
      clear H
      have H := H1
      clear H1
      have H' := Aside0.mk H
      clear H
      go_wp2_with (first | ((with_reducible refine gate_callee (f := 103) rfl ?_); refine goesL_ (some 14) rfl rfl Tryd.func103 (by kernel_rfl) rfl #[.string a0, .int .i64 x4_1] rfl (by (try simp only [List.map_toArray, List.map_cons, List.map_nil]); first | done | rfl | (simp only [List.length_drop, List.length_take]; rfl)) ?_; (with_reducible refine (paymasterref07_Rune.calls k1 a0 x4_1 t109 t110 _ A3.out).mono ?_); rintro e w' ⟨rfl, ⟨nd, rfl⟩⟩; refine ⟨_, rfl, ?_⟩) | (go_at_call 104; (with_reducible refine (paymasterref07_within.calls t109 true _ A5.out).mono ?_); rintro e w' ⟨rfl, ⟨nd, rfl⟩⟩))
      go_roundg k1
      case measure => have := HK1.out; omega
      case rel => exact ⟨(wrap64 (x3_1 + 1)), (wrap64 (x4_1 + t110)), (by first | rfl | (simp; done) | (simp [*]; done)), (by first | rfl | (simp; done) | (simp [*]; done)), H', ⟨by have := HK1.out; omega⟩, by repeat (first | exact Drawn0.refl _ | apply Drawn0.step)⟩
     ·
      replace c6 := Bool.eq_false_iff.mpr c6
      subst c6
      have H1 : (some false) = some r := by rw [if_neg (show ¬ (false = true) by decide)] at H; exact H
      clear H
      have H := H1
      clear H1
      obtain rfl := Option.some.inj H
      go_wp2_with (first | ((with_reducible refine gate_callee (f := 103) rfl ?_); refine goesL_ (some 14) rfl rfl Tryd.func103 (by kernel_rfl) rfl #[.string a0, .int .i64 x4_1] rfl (by (try simp only [List.map_toArray, List.map_cons, List.map_nil]); first | done | rfl | (simp only [List.length_drop, List.length_take]; rfl)) ?_; (with_reducible refine (paymasterref07_Rune.calls k1 a0 x4_1 t109 t110 _ A3.out).mono ?_); rintro e w' ⟨rfl, ⟨nd, rfl⟩⟩; refine ⟨_, rfl, ?_⟩) | (go_at_call 104; (with_reducible refine (paymasterref07_within.calls t109 false _ A5.out).mono ?_); rintro e w' ⟨rfl, ⟨nd, rfl⟩⟩))
      go_ret
      exact ⟨by first | rfl | (simp; done) | (simp [*]; done), by repeat (first | exact Drawn0.refl _ | apply Drawn0.step)⟩
   ·
    rw [if_neg c2] at H
    have c2b0 : decide (x4_1 < (a0.size : Int)) = false := decide_eq_false c2
    clear c2
    by_cases c7 : x3_1 ≥ 1
    ·
     rw [if_pos c7] at H
     have c7b0 : decide (1 ≤ x3_1) = true := decide_eq_true c7
     clear c7
     obtain rfl := Option.some.inj H
     go_wp2
     go_ret
     exact ⟨by first | rfl | (simp; done) | (simp [*]; done), by repeat (first | exact Drawn0.refl _ | apply Drawn0.step)⟩
    ·
     rw [if_neg c7] at H
     have c7b0 : decide (1 ≤ x3_1) = false := decide_eq_false c7
     clear c7
     obtain rfl := Option.some.inj H
     go_wp2
     go_ret
     exact ⟨by first | rfl | (simp; done) | (simp [*]; done), by repeat (first | exact Drawn0.refl _ | apply Drawn0.step)⟩
end Go.Proofs.YtlmmpncdemblbaaDoor.P
namespace Go.Proofs.YtlmmpncdemblbaaDoor.P
open Go.RowKit Go.Proofs.YtlmmpncdemblbaaDoorW.PrintWords Go.Proofs.YtlmmpncdemblbaaDoorW.PrintLast Go.Proofs.YtlmmpncdemblbaaDoorW.PrintMore
attribute [local go_sem] max2_int min2_int max_two min_two max_three min_three max_four min_four-- for this text's walks alone
set_option linter.unusedVariables false
set_option linter.unusedSimpArgs false
attribute [local go_sem high] eqAU128
/-! ### paymasterlaw16_LongEntry: function 27 -/
def paymasterlaw16_LongEntry.f (k : Nat) (a0_0 : Bool) (a0_1 : ByteArray) (a0_2 : ByteArray) (a0_3 : Int) (a0_4 : Int) (a0_5 : Int) (l0_6 : List (SNode)) : Option (Bool) := if (l0_6.length : Int) > 100 then (some true) else ((paymasterlaw14_Great.f k l0_6).bind fun t104 => (if t104 = true then (some true) else ((paymasterlaw15_Great.f k (([(⟨a0_0, a0_1, a0_2, (⟨a0_3, a0_4⟩ : SU128)⟩ : SLeaf)] : List (SLeaf)))).bind fun t108 => (some t108))))
set_option maxHeartbeats 8000000 in
set_option maxRecDepth 100000 in
theorem paymasterlaw16_LongEntry.calls (k : Nat) (a0_0 : Bool) (a0_1 : ByteArray) (a0_2 : ByteArray) (a0_3 : Int) (a0_4 : Int) (a0_5 : Int) (A0_6 : Option Addr) (c0_6 : Nat) (l0_6 : List (SNode)) (r : Bool) (w : World) (hr0_6 : Kd.C kNode w A0_6 l0_6.length l0_6) (hc0_6 : l0_6.length ≤ c0_6) (h : paymasterlaw16_LongEntry.f k a0_0 a0_1 a0_2 a0_3 a0_4 a0_5 l0_6 = some r) :
  Calls Tryd.prog 27 #[.agg #[.bool a0_0, .string a0_1, .string a0_2, .int .u64 a0_3, .int .u64 a0_4, .int .u64 a0_5, .slice A0_6 l0_6.length c0_6]] w fun e w' => e = .returned (.bool r) ∧ Below w.heap.size w w' := by
 have hu63 := Tryd.underlying63
 have hu59 := Tryd.underlying59
 have HR0_6 := Aside0.mk hr0_6
 have HC0_6 := Aside0.mk hc0_6
 clear hr0_6 hc0_6
 have HB := Aside0.mk (Below.refl w.heap.size w)
 have H : (if (l0_6.length : Int) > 100 then (some true) else ((paymasterlaw14_Great.f k l0_6).bind fun t104 => (if t104 = true then (some true) else ((paymasterlaw15_Great.f k (([(⟨a0_0, a0_1, a0_2, (⟨a0_3, a0_4⟩ : SU128)⟩ : SLeaf)] : List (SLeaf)))).bind fun t108 => (some t108))))) = some r := h
 clear h
 by_cases c2 : (l0_6.length : Int) > 100
 ·
  rw [if_pos c2] at H
  have c2b0 : decide (100 < (l0_6.length : Int)) = true := decide_eq_true c2
  have c2b1 : decide (100 < l0_6.length) = true := decide_eq_true (by omega)
  clear c2
  obtain rfl := Option.some.inj H
  go_enter Tryd.func27, Tryd.ntmps27
  go_wp2_with (first | ((with_reducible refine gate_dst (N := 1) rfl ?_); (try (refine gate_guard (by rfl) ?_; dsimp only)); refine box_event ?hg (N := 1) ?hd (cs := #[.bool a0_0, .string a0_1, .string a0_2, .int .u64 a0_3, .int .u64 a0_4, .int .u64 a0_5, .slice A0_6 l0_6.length c0_6]) (t := 63) ?hr ?_; (case hd => rfl); (case hg => rfl); (case hr => first | (go_simp; done) | (go_simp; rfl)); intro gb103 hg w3 hbox hb; have n0_ := Aside0.mk (below_step (by repeat (first | (with_reducible first | exact HB.out | apply below_alloc | apply pw_below_drewN | apply below_drew1) | exact HB.out)) hb); have n1_ := Aside0.mk (hbox); have n2_ := Aside0.mk ((by rw [hg]; exact (below_size (by repeat (first | (with_reducible first | exact HB.out | apply below_alloc | apply pw_below_drewN | apply below_drew1) | exact HB.out))) : w.heap.size ≤ gb103)); have n3_ := Aside0.mk ((by rw [hg]; exact (below_size (by repeat (first | (with_reducible first | exact HB.out | apply below_alloc | apply pw_below_drewN | apply below_drew1) | exact HB.out))) : w.heap.size ≤ gb103)); clear HB; have HB := n0_; have BK103 := n1_; have GW103 := n2_; have GE103 := n3_; clear n0_ n1_ n2_ n3_; clear hb hbox hg; have hcz4_0 : w3.cell? ⟨gb103, 0, none⟩ = some (.bool a0_0) := (blk_cell BK103.out 0).trans rfl; have hcz4_1 : w3.cell? ⟨gb103, 1, none⟩ = some (.string a0_1) := (blk_cell BK103.out 1).trans rfl; have hcz4_2 : w3.cell? ⟨gb103, 2, none⟩ = some (.string a0_2) := (blk_cell BK103.out 2).trans rfl; have hcz4_3 : w3.cell? ⟨gb103, 3, none⟩ = some (.int .u64 a0_3) := (blk_cell BK103.out 3).trans rfl; have hcz4_4 : w3.cell? ⟨gb103, 4, none⟩ = some (.int .u64 a0_4) := (blk_cell BK103.out 4).trans rfl; have hcz4_5 : w3.cell? ⟨gb103, 5, none⟩ = some (.int .u64 a0_5) := (blk_cell BK103.out 5).trans rfl; have hcz4_6 : w3.cell? ⟨gb103, 6, none⟩ = some (.slice A0_6 l0_6.length c0_6) := (blk_cell BK103.out 6).trans rfl; have hfz4_0 := blk_frozen BK103.out 0; have hfz4_1 := blk_frozen BK103.out 1; have hfz4_2 := blk_frozen BK103.out 2; have hfz4_3 := blk_frozen BK103.out 3; have hfz4_4 := blk_frozen BK103.out 4; have hfz4_5 := blk_frozen BK103.out 5; have hfz4_6 := blk_frozen BK103.out 6))
  go_ret
  exact ⟨by first | rfl | (simp [errW_none, errW_some] <;> rfl) | (simp [*, errW_none, errW_some] <;> rfl), by repeat (first | (with_reducible first | exact HB.out | apply below_alloc | apply pw_below_drewN | apply below_drew1 | refine below_set ?_ GE103.out) | exact HB.out)⟩
 ·
  rw [if_neg c2] at H
  have c2b0 : decide (100 < (l0_6.length : Int)) = false := decide_eq_false c2
  have c2b1 : decide (100 < l0_6.length) = false := decide_eq_false (by omega)
  clear c2
  replace H := Option.bind_eq_some_iff.mp H
  obtain ⟨t104, A50, H⟩ := H
  replace H : (if t104 = true then (some true) else ((paymasterlaw15_Great.f k (([(⟨a0_0, a0_1, a0_2, (⟨a0_3, a0_4⟩ : SU128)⟩ : SLeaf)] : List (SLeaf)))).bind fun t108 => (some t108))) = some r := H
  have A5 := Aside0.mk A50
  clear A50
  by_cases c6 : t104 = true
  ·
   subst c6
   have H1 : (some true) = some r := by rw [if_pos rfl] at H; exact H
   clear H
   have H := H1
   clear H1
   obtain rfl := Option.some.inj H
   go_enter Tryd.func27, Tryd.ntmps27
   go_wp2_with (first | ((with_reducible refine gate_dst (N := 1) rfl ?_); (try (refine gate_guard (by rfl) ?_; dsimp only)); refine box_event ?hg (N := 1) ?hd (cs := #[.bool a0_0, .string a0_1, .string a0_2, .int .u64 a0_3, .int .u64 a0_4, .int .u64 a0_5, .slice A0_6 l0_6.length c0_6]) (t := 63) ?hr ?_; (case hd => rfl); (case hg => rfl); (case hr => first | (go_simp; done) | (go_simp; rfl)); intro gb103 hg w7 hbox hb; have n0_ := Aside0.mk (below_step (by repeat (first | (with_reducible first | exact HB.out | apply below_alloc | apply pw_below_drewN | apply below_drew1) | exact HB.out)) hb); have n1_ := Aside0.mk (hbox); have n2_ := Aside0.mk ((by rw [hg]; exact (below_size (by repeat (first | (with_reducible first | exact HB.out | apply below_alloc | apply pw_below_drewN | apply below_drew1) | exact HB.out))) : w.heap.size ≤ gb103)); have n3_ := Aside0.mk ((by rw [hg]; exact (below_size (by repeat (first | (with_reducible first | exact HB.out | apply below_alloc | apply pw_below_drewN | apply below_drew1) | exact HB.out))) : w.heap.size ≤ gb103)); clear HB; have HB := n0_; have BK103 := n1_; have GW103 := n2_; have GE103 := n3_; clear n0_ n1_ n2_ n3_; clear hb hbox hg; have hcz8_0 : w7.cell? ⟨gb103, 0, none⟩ = some (.bool a0_0) := (blk_cell BK103.out 0).trans rfl; have hcz8_1 : w7.cell? ⟨gb103, 1, none⟩ = some (.string a0_1) := (blk_cell BK103.out 1).trans rfl; have hcz8_2 : w7.cell? ⟨gb103, 2, none⟩ = some (.string a0_2) := (blk_cell BK103.out 2).trans rfl; have hcz8_3 : w7.cell? ⟨gb103, 3, none⟩ = some (.int .u64 a0_3) := (blk_cell BK103.out 3).trans rfl; have hcz8_4 : w7.cell? ⟨gb103, 4, none⟩ = some (.int .u64 a0_4) := (blk_cell BK103.out 4).trans rfl; have hcz8_5 : w7.cell? ⟨gb103, 5, none⟩ = some (.int .u64 a0_5) := (blk_cell BK103.out 5).trans rfl; have hcz8_6 : w7.cell? ⟨gb103, 6, none⟩ = some (.slice A0_6 l0_6.length c0_6) := (blk_cell BK103.out 6).trans rfl; have hfz8_0 := blk_frozen BK103.out 0; have hfz8_1 := blk_frozen BK103.out 1; have hfz8_2 := blk_frozen BK103.out 2; have hfz8_3 := blk_frozen BK103.out 3; have hfz8_4 := blk_frozen BK103.out 4; have hfz8_5 := blk_frozen BK103.out 5; have hfz8_6 := blk_frozen BK103.out 6) | (go_at_call 13; (with_reducible refine (paymasterlaw14_Great.calls k _ _ l0_6 true _ ?side1 ?side2 A5.out).mono ?_); (case side1 => repeat (first | exact (Kd.C_below HR0_6.out HB.out) | (with_reducible refine Kd.C_alloc ?_ _) | (with_reducible refine Kd.C_drewN ?_ _) | (with_reducible refine Kd.C_drew ?_))); (case side2 => exact HC0_6.out); rintro e w' ⟨rfl, ⟨nd, rfl⟩⟩))
   go_ret
   exact ⟨by first | rfl | (simp [errW_none, errW_some] <;> rfl) | (simp [*, errW_none, errW_some] <;> rfl), by repeat (first | (with_reducible first | exact HB.out | apply below_alloc | apply pw_below_drewN | apply below_drew1 | refine below_set ?_ GE103.out) | exact HB.out)⟩
  ·
   replace c6 := Bool.eq_false_iff.mpr c6
   subst c6
   have H1 : ((paymasterlaw15_Great.f k (([(⟨a0_0, a0_1, a0_2, (⟨a0_3, a0_4⟩ : SU128)⟩ : SLeaf)] : List (SLeaf)))).bind fun t108 => (some t108)) = some r := by rw [if_neg (show ¬ (false = true) by decide)] at H; exact H
   clear H
   have H := H1
   clear H1
   obtain ⟨y105, hy105⟩ : ∃ y_ : List (SLeaf), y_ = (([(⟨a0_0, a0_1, a0_2, (⟨a0_3, a0_4⟩ : SU128)⟩ : SLeaf)] : List (SLeaf))) := ⟨_, rfl⟩
   replace H : ((paymasterlaw15_Great.f k y105).bind fun t108 => (some t108)) = some r := by first | (rw [hy105]; with_reducible exact H) | (have H2_ := (Option.bind_some _ _).symm.trans H; rw [hy105]; with_reducible exact H2_) | (have H2_ := (Option.bind_some _ _).symm.trans H; with_reducible exact H2_) | with_reducible exact H | (rw [hy105]; exact H) | exact H
   have Ny105 := Aside0.mk hy105
   clear hy105
   replace H := Option.bind_eq_some_iff.mp H
   obtain ⟨t108, A90, H⟩ := H
   replace H : (some t108) = some r := H
   have A9 := Aside0.mk A90
   clear A90
   obtain rfl := Option.some.inj H
   go_enter Tryd.func27, Tryd.ntmps27
   go_wp2_with (first | ((with_reducible refine gate_dst (N := 1) rfl ?_); (try (refine gate_guard (by rfl) ?_; dsimp only)); refine box_event ?hg (N := 1) ?hd (cs := #[.bool a0_0, .string a0_1, .string a0_2, .int .u64 a0_3, .int .u64 a0_4, .int .u64 a0_5, .slice A0_6 l0_6.length c0_6]) (t := 63) ?hr ?_; (case hd => rfl); (case hg => rfl); (case hr => first | (go_simp; done) | (go_simp; rfl)); intro gb103 hg w10 hbox hb; have n0_ := Aside0.mk (below_step (by repeat (first | (with_reducible first | exact HB.out | apply below_alloc | apply pw_below_drewN | apply below_drew1) | exact HB.out)) hb); have n1_ := Aside0.mk (hbox); have n2_ := Aside0.mk ((by rw [hg]; exact (below_size (by repeat (first | (with_reducible first | exact HB.out | apply below_alloc | apply pw_below_drewN | apply below_drew1) | exact HB.out))) : w.heap.size ≤ gb103)); have n3_ := Aside0.mk ((by rw [hg]; exact (below_size (by repeat (first | (with_reducible first | exact HB.out | apply below_alloc | apply pw_below_drewN | apply below_drew1) | exact HB.out))) : w.heap.size ≤ gb103)); clear HB; have HB := n0_; have BK103 := n1_; have GW103 := n2_; have GE103 := n3_; clear n0_ n1_ n2_ n3_; clear hb hbox hg; have hcz11_0 : w10.cell? ⟨gb103, 0, none⟩ = some (.bool a0_0) := (blk_cell BK103.out 0).trans rfl; have hcz11_1 : w10.cell? ⟨gb103, 1, none⟩ = some (.string a0_1) := (blk_cell BK103.out 1).trans rfl; have hcz11_2 : w10.cell? ⟨gb103, 2, none⟩ = some (.string a0_2) := (blk_cell BK103.out 2).trans rfl; have hcz11_3 : w10.cell? ⟨gb103, 3, none⟩ = some (.int .u64 a0_3) := (blk_cell BK103.out 3).trans rfl; have hcz11_4 : w10.cell? ⟨gb103, 4, none⟩ = some (.int .u64 a0_4) := (blk_cell BK103.out 4).trans rfl; have hcz11_5 : w10.cell? ⟨gb103, 5, none⟩ = some (.int .u64 a0_5) := (blk_cell BK103.out 5).trans rfl; have hcz11_6 : w10.cell? ⟨gb103, 6, none⟩ = some (.slice A0_6 l0_6.length c0_6) := (blk_cell BK103.out 6).trans rfl; have hfz11_0 := blk_frozen BK103.out 0; have hfz11_1 := blk_frozen BK103.out 1; have hfz11_2 := blk_frozen BK103.out 2; have hfz11_3 := blk_frozen BK103.out 3; have hfz11_4 := blk_frozen BK103.out 4; have hfz11_5 := blk_frozen BK103.out 5; have hfz11_6 := blk_frozen BK103.out 6) | (go_at_call 13; (with_reducible refine (paymasterlaw14_Great.calls k _ _ l0_6 false _ ?side1 ?side2 A5.out).mono ?_); (case side1 => repeat (first | exact (Kd.C_below HR0_6.out HB.out) | (with_reducible refine Kd.C_alloc ?_ _) | (with_reducible refine Kd.C_drewN ?_ _) | (with_reducible refine Kd.C_drew ?_))); (case side2 => exact HC0_6.out); rintro e w' ⟨rfl, ⟨nd, rfl⟩⟩) | ((with_reducible refine gate_dst (N := 17) rfl ?_); (try (refine gate_guard (by rfl) ?_; dsimp only)); refine Kd.R_lit kLeaf _ 59 ?hg (N := 17) ?hd (xs := ([(⟨a0_0, a0_1, a0_2, (⟨a0_3, a0_4⟩ : SU128)⟩ : SLeaf)] : List (SLeaf))) (inner := [.bool a0_0, .string a0_1, .string a0_2, .int .u64 a0_3, .int .u64 a0_4]) (ok := fun _ => True) (okp := fun _ => True) ?hr ?hp (fun _ hk => hk) trivial (Below.refl _ _) (Nat.le_refl _) (by simp) ?_; (case hd => rfl); (case hg => rfl); (case hr => first | (go_simp; done) | (go_simp; rfl)); (case hp => exact (Reps.c5 (show Kd.M kLeaf _ _ _ (⟨a0_0, a0_1, a0_2, (⟨a0_3, a0_4⟩ : SU128)⟩ : SLeaf) [.bool a0_0, .string a0_1, .string a0_2, .int .u64 a0_3, .int .u64 a0_4] from (kLeaf_mkM _ _ _ (⟨a0_0, a0_1, a0_2, (⟨a0_3, a0_4⟩ : SU128)⟩ : SLeaf) )) (Reps.none _ _))); intro v106 w12 ho13 hb hg_ hnew_; clear hg_ hnew_; (first | rw [← Ny105.out] at ho13 | (simp only [Int.reduceToNat] at ho13; rw [← Ny105.out] at ho13)); have n0_ := Aside0.mk (Kd.R_lower ho13 (below_size (by repeat (first | (with_reducible first | exact HB.out | apply below_alloc | apply pw_below_drewN | apply below_drew1 | refine below_set ?_ GE103.out) | exact HB.out)))); have n1_ := Aside0.mk (blk_below (g := gb103) (o := .cells #[.bool a0_0, .string a0_1, .string a0_2, .int .u64 a0_3, .int .u64 a0_4, .int .u64 a0_5, .slice A0_6 l0_6.length c0_6] 63 (0, 0)) (by (with_reducible repeat (first | refine blk_drewN ?_ _ | refine blk_drew ?_ | refine blk_alloc ?_ _)); exact BK103.out) hb); have n2_ := Aside0.mk (below_step (by repeat (first | (with_reducible first | exact HB.out | apply below_alloc | apply pw_below_drewN | apply below_drew1 | refine below_set ?_ GE103.out) | exact HB.out)) hb); clear BK103; clear HB; have HO107 := n0_; have BK103 := n1_; have HB := n2_; clear n0_ n1_ n2_; clear hb ho13; obtain ⟨Ao14, co14, eo14⟩ := Kd.R_slice HO107.out; subst eo14) | (go_at_call 56; (with_reducible refine (paymasterlaw15_Great.calls k _ _ y105 t108 _ ?side1 ?side2 A9.out).mono ?_); (case side1 => repeat (first | exact (Kd.R_reads' HO107.out).2.2 | (with_reducible refine Kd.C_alloc ?_ _) | (with_reducible refine Kd.C_drewN ?_ _) | (with_reducible refine Kd.C_drew ?_))); (case side2 => exact (Kd.R_reads' HO107.out).2.1); rintro e w' ⟨rfl, ⟨nd, rfl⟩⟩))
   go_ret
   exact ⟨by first | rfl | (simp [errW_none, errW_some] <;> rfl) | (simp [*, errW_none, errW_some] <;> rfl), by repeat (first | (with_reducible first | exact HB.out | apply below_alloc | apply pw_below_drewN | apply below_drew1 | refine below_set ?_ GE103.out) | exact HB.out)⟩
/-! ### paymasterlaw17_Long: function 30 -/
/-! ### verify_asked_shape: function 64 -/
/-! ### paymasterref07_MayLeaf: function 60 -/
def paymasterref07_MayLeaf.f (k : Nat) (a0_0 : Bool) (a0_1 : ByteArray) (a0_2 : ByteArray) (a0_3 : Int) (a0_4 : Int) : Option (Bool) := if a0_0 = true then (if a0_1.toList = ([] : List UInt8) then (if (!(a0_3 == 0) || (!(a0_4 == 0))) = true then (some false) else (some (decide ((a0_2.size : Int) ≤ 32)))) else (some false)) else ((paymasterref07_MayId.f k a0_1).bind fun t152 => (if t152 = true then (some (decide ((a0_2.size : Int) ≤ 32))) else (some false)))
set_option maxHeartbeats 8000000 in
set_option maxRecDepth 100000 in
theorem paymasterref07_MayLeaf.calls (k : Nat) (a0_0 : Bool) (a0_1 : ByteArray) (a0_2 : ByteArray) (a0_3 : Int) (a0_4 : Int) (r : Bool) (w : World) (h : paymasterref07_MayLeaf.f k a0_0 a0_1 a0_2 a0_3 a0_4 = some r) :
  Calls Tryd.prog 60 #[.agg #[.bool a0_0, .string a0_1, .string a0_2, .int .u64 a0_3, .int .u64 a0_4]] w fun e w' => e = .returned (.bool r) ∧ Below w.heap.size w w' := by
 have hu59 := Tryd.underlying59
 have hu24 := Tryd.underlying24
 have HB := Aside0.mk (Below.refl w.heap.size w)
 have H : (if a0_0 = true then (if a0_1.toList = ([] : List UInt8) then (if (!(a0_3 == 0) || (!(a0_4 == 0))) = true then (some false) else (some (decide ((a0_2.size : Int) ≤ 32)))) else (some false)) else ((paymasterref07_MayId.f k a0_1).bind fun t152 => (if t152 = true then (some (decide ((a0_2.size : Int) ≤ 32))) else (some false)))) = some r := h
 clear h
 by_cases c2 : a0_0 = true
 ·
  subst c2
  have H1 : (if a0_1.toList = ([] : List UInt8) then (if (!(a0_3 == 0) || (!(a0_4 == 0))) = true then (some false) else (some (decide ((a0_2.size : Int) ≤ 32)))) else (some false)) = some r := by rw [if_pos rfl] at H; exact H
  clear H
  have H := H1
  clear H1
  by_cases c3 : a0_1.toList = ([] : List UInt8)
  ·
   rw [if_pos c3] at H
   have c3b0 : (a0_1.toList == ([] : List UInt8)) = true := beq_iff_eq.mpr c3
   have c3b1 : (a0_1.toList != ([] : List UInt8)) = false := bne_eq_false_iff_eq.mpr c3
   clear c3
   by_cases c4 : (!(a0_3 == 0) || (!(a0_4 == 0))) = true
   ·
    rw [if_pos c4] at H
    have c4b0 : (!(a0_3 == 0) || (!(a0_4 == 0))) = true := c4
    clear c4
    obtain rfl := Option.some.inj H
    go_enter Tryd.func60, Tryd.ntmps60
    go_wp2_with (first | ((with_reducible refine gate_dst (N := 1) rfl ?_); refine box_event ?hg (N := 1) ?hd (cs := #[.bool true, .string a0_1, .string a0_2, .int .u64 a0_3, .int .u64 a0_4]) (t := 59) ?hr ?_; (case hd => rfl); (case hg => rfl); (case hr => first | (go_simp; done) | (go_simp; rfl)); intro gb150 hg w5 hbox hb; have n0_ := Aside0.mk (below_step (by repeat (first | (with_reducible first | exact HB.out | apply below_alloc | apply pw_below_drewN | apply below_drew1) | exact HB.out)) hb); have n1_ := Aside0.mk (hbox); have n2_ := Aside0.mk ((by rw [hg]; exact (below_size (by repeat (first | (with_reducible first | exact HB.out | apply below_alloc | apply pw_below_drewN | apply below_drew1) | exact HB.out))) : w.heap.size ≤ gb150)); have n3_ := Aside0.mk ((by rw [hg]; exact (below_size (by repeat (first | (with_reducible first | exact HB.out | apply below_alloc | apply pw_below_drewN | apply below_drew1) | exact HB.out))) : w.heap.size ≤ gb150)); clear HB; have HB := n0_; have BK150 := n1_; have GW150 := n2_; have GE150 := n3_; clear n0_ n1_ n2_ n3_; clear hb hbox hg) | ((with_reducible refine gate_dst (N := 3) rfl ?_); refine box_event ?hg (N := 3) ?hd (cs := #[.int .u64 0, .int .u64 0]) (t := 24) ?hr ?_; (case hd => rfl); (case hg => rfl); (case hr => first | (go_simp; done) | (go_simp; rfl)); intro gb151 hg w6 hbox hb; have n0_ := Aside0.mk (blk_below (g := gb150) (o := .cells #[.bool true, .string a0_1, .string a0_2, .int .u64 a0_3, .int .u64 a0_4] 59 (0, 0)) (by (with_reducible repeat (first | refine blk_drewN ?_ _ | refine blk_drew ?_ | refine blk_alloc ?_ _)); exact BK150.out) hb); have n1_ := Aside0.mk (below_step (by repeat (first | (with_reducible first | exact HB.out | apply below_alloc | apply pw_below_drewN | apply below_drew1 | refine below_set ?_ GE150.out) | exact HB.out)) hb); have n2_ := Aside0.mk (hbox); have n3_ := Aside0.mk ((by rw [hg]; exact (below_size (by repeat (first | (with_reducible first | exact HB.out | apply below_alloc | apply pw_below_drewN | apply below_drew1 | refine below_set ?_ GE150.out) | exact HB.out))) : w.heap.size ≤ gb151)); have n4_ := Aside0.mk ((by rw [hg]; exact (below_size (by repeat (first | (with_reducible first | exact HB.out | apply below_alloc | apply pw_below_drewN | apply below_drew1 | refine below_set ?_ GE150.out) | exact HB.out))) : w.heap.size ≤ gb151)); have n5_ := Aside0.mk ((by rw [hg]; exact Nat.ne_of_lt (blk_lt (g := gb150) (o := .cells #[.bool true, .string a0_1, .string a0_2, .int .u64 a0_3, .int .u64 a0_4] 59 (0, 0)) (by (with_reducible repeat (first | refine blk_drewN ?_ _ | refine blk_drew ?_ | refine blk_alloc ?_ _)); exact BK150.out)) : gb150 ≠ gb151)); have n6_ := Aside0.mk ((by rw [hg]; exact Nat.ne_of_gt (blk_lt (g := gb150) (o := .cells #[.bool true, .string a0_1, .string a0_2, .int .u64 a0_3, .int .u64 a0_4] 59 (0, 0)) (by (with_reducible repeat (first | refine blk_drewN ?_ _ | refine blk_drew ?_ | refine blk_alloc ?_ _)); exact BK150.out)) : gb151 ≠ gb150)); clear BK150; clear HB; have BK150 := n0_; have HB := n1_; have BK151 := n2_; have GW151 := n3_; have GE151 := n4_; have NB150_151 := n5_; have NB151_150 := n6_; clear n0_ n1_ n2_ n3_ n4_ n5_ n6_; clear hb hbox hg; have hnb7 := NB151_150.out; have hnc7 := NB150_151.out; have hcz8_0 : w6.cell? ⟨gb151, 0, none⟩ = some (.int .u64 0) := (blk_cell BK151.out 0).trans rfl; have hcz8_1 : w6.cell? ⟨gb151, 1, none⟩ = some (.int .u64 0) := (blk_cell BK151.out 1).trans rfl; have hfz8_0 := blk_frozen BK151.out 0; have hfz8_1 := blk_frozen BK151.out 1; have hcz9_0 : w6.cell? ⟨gb150, 0, none⟩ = some (.bool true) := (blk_cell BK150.out 0).trans rfl; have hcz9_1 : w6.cell? ⟨gb150, 1, none⟩ = some (.string a0_1) := (blk_cell BK150.out 1).trans rfl; have hcz9_2 : w6.cell? ⟨gb150, 2, none⟩ = some (.string a0_2) := (blk_cell BK150.out 2).trans rfl; have hcz9_3 : w6.cell? ⟨gb150, 3, none⟩ = some (.int .u64 a0_3) := (blk_cell BK150.out 3).trans rfl; have hcz9_4 : w6.cell? ⟨gb150, 4, none⟩ = some (.int .u64 a0_4) := (blk_cell BK150.out 4).trans rfl; have hfz9_0 := blk_frozen BK150.out 0; have hfz9_1 := blk_frozen BK150.out 1; have hfz9_2 := blk_frozen BK150.out 2; have hfz9_3 := blk_frozen BK150.out 3; have hfz9_4 := blk_frozen BK150.out 4))
    go_ret
    exact ⟨by first | rfl | (simp [errW_none, errW_some] <;> rfl) | (simp [*, errW_none, errW_some] <;> rfl), by repeat (first | (with_reducible first | exact HB.out | apply below_alloc | apply pw_below_drewN | apply below_drew1 | refine below_set ?_ GE150.out | refine below_set ?_ GE151.out) | exact HB.out)⟩
   ·
    rw [if_neg c4] at H
    have c4b0 : (!(a0_3 == 0) || (!(a0_4 == 0))) = false := by simpa using c4
    clear c4
    obtain rfl := Option.some.inj H
    go_enter Tryd.func60, Tryd.ntmps60
    go_wp2_with (first | ((with_reducible refine gate_dst (N := 1) rfl ?_); refine box_event ?hg (N := 1) ?hd (cs := #[.bool true, .string a0_1, .string a0_2, .int .u64 a0_3, .int .u64 a0_4]) (t := 59) ?hr ?_; (case hd => rfl); (case hg => rfl); (case hr => first | (go_simp; done) | (go_simp; rfl)); intro gb150 hg w10 hbox hb; have n0_ := Aside0.mk (below_step (by repeat (first | (with_reducible first | exact HB.out | apply below_alloc | apply pw_below_drewN | apply below_drew1) | exact HB.out)) hb); have n1_ := Aside0.mk (hbox); have n2_ := Aside0.mk ((by rw [hg]; exact (below_size (by repeat (first | (with_reducible first | exact HB.out | apply below_alloc | apply pw_below_drewN | apply below_drew1) | exact HB.out))) : w.heap.size ≤ gb150)); have n3_ := Aside0.mk ((by rw [hg]; exact (below_size (by repeat (first | (with_reducible first | exact HB.out | apply below_alloc | apply pw_below_drewN | apply below_drew1) | exact HB.out))) : w.heap.size ≤ gb150)); clear HB; have HB := n0_; have BK150 := n1_; have GW150 := n2_; have GE150 := n3_; clear n0_ n1_ n2_ n3_; clear hb hbox hg) | ((with_reducible refine gate_dst (N := 3) rfl ?_); refine box_event ?hg (N := 3) ?hd (cs := #[.int .u64 0, .int .u64 0]) (t := 24) ?hr ?_; (case hd => rfl); (case hg => rfl); (case hr => first | (go_simp; done) | (go_simp; rfl)); intro gb151 hg w11 hbox hb; have n0_ := Aside0.mk (blk_below (g := gb150) (o := .cells #[.bool true, .string a0_1, .string a0_2, .int .u64 a0_3, .int .u64 a0_4] 59 (0, 0)) (by (with_reducible repeat (first | refine blk_drewN ?_ _ | refine blk_drew ?_ | refine blk_alloc ?_ _)); exact BK150.out) hb); have n1_ := Aside0.mk (below_step (by repeat (first | (with_reducible first | exact HB.out | apply below_alloc | apply pw_below_drewN | apply below_drew1 | refine below_set ?_ GE150.out) | exact HB.out)) hb); have n2_ := Aside0.mk (hbox); have n3_ := Aside0.mk ((by rw [hg]; exact (below_size (by repeat (first | (with_reducible first | exact HB.out | apply below_alloc | apply pw_below_drewN | apply below_drew1 | refine below_set ?_ GE150.out) | exact HB.out))) : w.heap.size ≤ gb151)); have n4_ := Aside0.mk ((by rw [hg]; exact (below_size (by repeat (first | (with_reducible first | exact HB.out | apply below_alloc | apply pw_below_drewN | apply below_drew1 | refine below_set ?_ GE150.out) | exact HB.out))) : w.heap.size ≤ gb151)); have n5_ := Aside0.mk ((by rw [hg]; exact Nat.ne_of_lt (blk_lt (g := gb150) (o := .cells #[.bool true, .string a0_1, .string a0_2, .int .u64 a0_3, .int .u64 a0_4] 59 (0, 0)) (by (with_reducible repeat (first | refine blk_drewN ?_ _ | refine blk_drew ?_ | refine blk_alloc ?_ _)); exact BK150.out)) : gb150 ≠ gb151)); have n6_ := Aside0.mk ((by rw [hg]; exact Nat.ne_of_gt (blk_lt (g := gb150) (o := .cells #[.bool true, .string a0_1, .string a0_2, .int .u64 a0_3, .int .u64 a0_4] 59 (0, 0)) (by (with_reducible repeat (first | refine blk_drewN ?_ _ | refine blk_drew ?_ | refine blk_alloc ?_ _)); exact BK150.out)) : gb151 ≠ gb150)); clear BK150; clear HB; have BK150 := n0_; have HB := n1_; have BK151 := n2_; have GW151 := n3_; have GE151 := n4_; have NB150_151 := n5_; have NB151_150 := n6_; clear n0_ n1_ n2_ n3_ n4_ n5_ n6_; clear hb hbox hg; have hnb12 := NB151_150.out; have hnc12 := NB150_151.out; have hcz13_0 : w11.cell? ⟨gb151, 0, none⟩ = some (.int .u64 0) := (blk_cell BK151.out 0).trans rfl; have hcz13_1 : w11.cell? ⟨gb151, 1, none⟩ = some (.int .u64 0) := (blk_cell BK151.out 1).trans rfl; have hfz13_0 := blk_frozen BK151.out 0; have hfz13_1 := blk_frozen BK151.out 1; have hcz14_0 : w11.cell? ⟨gb150, 0, none⟩ = some (.bool true) := (blk_cell BK150.out 0).trans rfl; have hcz14_1 : w11.cell? ⟨gb150, 1, none⟩ = some (.string a0_1) := (blk_cell BK150.out 1).trans rfl; have hcz14_2 : w11.cell? ⟨gb150, 2, none⟩ = some (.string a0_2) := (blk_cell BK150.out 2).trans rfl; have hcz14_3 : w11.cell? ⟨gb150, 3, none⟩ = some (.int .u64 a0_3) := (blk_cell BK150.out 3).trans rfl; have hcz14_4 : w11.cell? ⟨gb150, 4, none⟩ = some (.int .u64 a0_4) := (blk_cell BK150.out 4).trans rfl; have hfz14_0 := blk_frozen BK150.out 0; have hfz14_1 := blk_frozen BK150.out 1; have hfz14_2 := blk_frozen BK150.out 2; have hfz14_3 := blk_frozen BK150.out 3; have hfz14_4 := blk_frozen BK150.out 4))
    go_ret
    exact ⟨by first | rfl | (simp [errW_none, errW_some] <;> rfl) | (simp [*, errW_none, errW_some] <;> rfl), by repeat (first | (with_reducible first | exact HB.out | apply below_alloc | apply pw_below_drewN | apply below_drew1 | refine below_set ?_ GE150.out | refine below_set ?_ GE151.out) | exact HB.out)⟩
  ·
   rw [if_neg c3] at H
   have c3b0 : (a0_1.toList == ([] : List UInt8)) = false := beq_eq_false_iff_ne.mpr c3
   have c3b1 : (a0_1.toList != ([] : List UInt8)) = true := bne_iff_ne.mpr c3
   obtain rfl := Option.some.inj H
   go_enter Tryd.func60, Tryd.ntmps60
   go_wp2_with (first | ((with_reducible refine gate_dst (N := 1) rfl ?_); refine box_event ?hg (N := 1) ?hd (cs := #[.bool true, .string a0_1, .string a0_2, .int .u64 a0_3, .int .u64 a0_4]) (t := 59) ?hr ?_; (case hd => rfl); (case hg => rfl); (case hr => first | (go_simp; done) | (go_simp; rfl)); intro gb150 hg w15 hbox hb; have n0_ := Aside0.mk (below_step (by repeat (first | (with_reducible first | exact HB.out | apply below_alloc | apply pw_below_drewN | apply below_drew1) | exact HB.out)) hb); have n1_ := Aside0.mk (hbox); have n2_ := Aside0.mk ((by rw [hg]; exact (below_size (by repeat (first | (with_reducible first | exact HB.out | apply below_alloc | apply pw_below_drewN | apply below_drew1) | exact HB.out))) : w.heap.size ≤ gb150)); have n3_ := Aside0.mk ((by rw [hg]; exact (below_size (by repeat (first | (with_reducible first | exact HB.out | apply below_alloc | apply pw_below_drewN | apply below_drew1) | exact HB.out))) : w.heap.size ≤ gb150)); clear HB; have HB := n0_; have BK150 := n1_; have GW150 := n2_; have GE150 := n3_; clear n0_ n1_ n2_ n3_; clear hb hbox hg) | ((with_reducible refine gate_dst (N := 3) rfl ?_); refine box_event ?hg (N := 3) ?hd (cs := #[.int .u64 0, .int .u64 0]) (t := 24) ?hr ?_; (case hd => rfl); (case hg => rfl); (case hr => first | (go_simp; done) | (go_simp; rfl)); intro gb151 hg w16 hbox hb; have n0_ := Aside0.mk (blk_below (g := gb150) (o := .cells #[.bool true, .string a0_1, .string a0_2, .int .u64 a0_3, .int .u64 a0_4] 59 (0, 0)) (by (with_reducible repeat (first | refine blk_drewN ?_ _ | refine blk_drew ?_ | refine blk_alloc ?_ _)); exact BK150.out) hb); have n1_ := Aside0.mk (below_step (by repeat (first | (with_reducible first | exact HB.out | apply below_alloc | apply pw_below_drewN | apply below_drew1 | refine below_set ?_ GE150.out) | exact HB.out)) hb); have n2_ := Aside0.mk (hbox); have n3_ := Aside0.mk ((by rw [hg]; exact (below_size (by repeat (first | (with_reducible first | exact HB.out | apply below_alloc | apply pw_below_drewN | apply below_drew1 | refine below_set ?_ GE150.out) | exact HB.out))) : w.heap.size ≤ gb151)); have n4_ := Aside0.mk ((by rw [hg]; exact (below_size (by repeat (first | (with_reducible first | exact HB.out | apply below_alloc | apply pw_below_drewN | apply below_drew1 | refine below_set ?_ GE150.out) | exact HB.out))) : w.heap.size ≤ gb151)); have n5_ := Aside0.mk ((by rw [hg]; exact Nat.ne_of_lt (blk_lt (g := gb150) (o := .cells #[.bool true, .string a0_1, .string a0_2, .int .u64 a0_3, .int .u64 a0_4] 59 (0, 0)) (by (with_reducible repeat (first | refine blk_drewN ?_ _ | refine blk_drew ?_ | refine blk_alloc ?_ _)); exact BK150.out)) : gb150 ≠ gb151)); have n6_ := Aside0.mk ((by rw [hg]; exact Nat.ne_of_gt (blk_lt (g := gb150) (o := .cells #[.bool true, .string a0_1, .string a0_2, .int .u64 a0_3, .int .u64 a0_4] 59 (0, 0)) (by (with_reducible repeat (first | refine blk_drewN ?_ _ | refine blk_drew ?_ | refine blk_alloc ?_ _)); exact BK150.out)) : gb151 ≠ gb150)); clear BK150; clear HB; have BK150 := n0_; have HB := n1_; have BK151 := n2_; have GW151 := n3_; have GE151 := n4_; have NB150_151 := n5_; have NB151_150 := n6_; clear n0_ n1_ n2_ n3_ n4_ n5_ n6_; clear hb hbox hg; have hnb17 := NB151_150.out; have hnc17 := NB150_151.out; have hcz18_0 : w16.cell? ⟨gb151, 0, none⟩ = some (.int .u64 0) := (blk_cell BK151.out 0).trans rfl; have hcz18_1 : w16.cell? ⟨gb151, 1, none⟩ = some (.int .u64 0) := (blk_cell BK151.out 1).trans rfl; have hfz18_0 := blk_frozen BK151.out 0; have hfz18_1 := blk_frozen BK151.out 1; have hcz19_0 : w16.cell? ⟨gb150, 0, none⟩ = some (.bool true) := (blk_cell BK150.out 0).trans rfl; have hcz19_1 : w16.cell? ⟨gb150, 1, none⟩ = some (.string a0_1) := (blk_cell BK150.out 1).trans rfl; have hcz19_2 : w16.cell? ⟨gb150, 2, none⟩ = some (.string a0_2) := (blk_cell BK150.out 2).trans rfl; have hcz19_3 : w16.cell? ⟨gb150, 3, none⟩ = some (.int .u64 a0_3) := (blk_cell BK150.out 3).trans rfl; have hcz19_4 : w16.cell? ⟨gb150, 4, none⟩ = some (.int .u64 a0_4) := (blk_cell BK150.out 4).trans rfl; have hfz19_0 := blk_frozen BK150.out 0; have hfz19_1 := blk_frozen BK150.out 1; have hfz19_2 := blk_frozen BK150.out 2; have hfz19_3 := blk_frozen BK150.out 3; have hfz19_4 := blk_frozen BK150.out 4))
   go_ret
   exact ⟨by first | rfl | (simp [errW_none, errW_some] <;> rfl) | (simp [*, errW_none, errW_some] <;> rfl), by repeat (first | (with_reducible first | exact HB.out | apply below_alloc | apply pw_below_drewN | apply below_drew1 | refine below_set ?_ GE150.out | refine below_set ?_ GE151.out) | exact HB.out)⟩
 ·
  replace c2 := Bool.eq_false_iff.mpr c2
  subst c2
  have H1 : ((paymasterref07_MayId.f k a0_1).bind fun t152 => (if t152 = true then (some (decide ((a0_2.size : Int) ≤ 32))) else (some false))) = some r := by rw [if_neg (show ¬ (false = true) by decide)] at H; exact H
  clear H
  have H := H1
  clear H1
  replace H := Option.bind_eq_some_iff.mp H
  obtain ⟨t152, A200, H⟩ := H
  replace H : (if t152 = true then (some (decide ((a0_2.size : Int) ≤ 32))) else (some false)) = some r := H
  have A20 := Aside0.mk A200
  clear A200
  by_cases c21 : t152 = true
  ·
   subst c21
   have H1 : (some (decide ((a0_2.size : Int) ≤ 32))) = some r := by rw [if_pos rfl] at H; exact H
   clear H
   have H := H1
   clear H1
   obtain rfl := Option.some.inj H
   go_enter Tryd.func60, Tryd.ntmps60
   go_wp2_with (first | ((with_reducible refine gate_dst (N := 1) rfl ?_); refine box_event ?hg (N := 1) ?hd (cs := #[.bool false, .string a0_1, .string a0_2, .int .u64 a0_3, .int .u64 a0_4]) (t := 59) ?hr ?_; (case hd => rfl); (case hg => rfl); (case hr => first | (go_simp; done) | (go_simp; rfl)); intro gb150 hg w22 hbox hb; have n0_ := Aside0.mk (below_step (by repeat (first | (with_reducible first | exact HB.out | apply below_alloc | apply pw_below_drewN | apply below_drew1) | exact HB.out)) hb); have n1_ := Aside0.mk (hbox); have n2_ := Aside0.mk ((by rw [hg]; exact (below_size (by repeat (first | (with_reducible first | exact HB.out | apply below_alloc | apply pw_below_drewN | apply below_drew1) | exact HB.out))) : w.heap.size ≤ gb150)); have n3_ := Aside0.mk ((by rw [hg]; exact (below_size (by repeat (first | (with_reducible first | exact HB.out | apply below_alloc | apply pw_below_drewN | apply below_drew1) | exact HB.out))) : w.heap.size ≤ gb150)); clear HB; have HB := n0_; have BK150 := n1_; have GW150 := n2_; have GE150 := n3_; clear n0_ n1_ n2_ n3_; clear hb hbox hg) | ((with_reducible refine gate_dst (N := 3) rfl ?_); refine box_event ?hg (N := 3) ?hd (cs := #[.int .u64 0, .int .u64 0]) (t := 24) ?hr ?_; (case hd => rfl); (case hg => rfl); (case hr => first | (go_simp; done) | (go_simp; rfl)); intro gb151 hg w23 hbox hb; have n0_ := Aside0.mk (blk_below (g := gb150) (o := .cells #[.bool false, .string a0_1, .string a0_2, .int .u64 a0_3, .int .u64 a0_4] 59 (0, 0)) (by (with_reducible repeat (first | refine blk_drewN ?_ _ | refine blk_drew ?_ | refine blk_alloc ?_ _)); exact BK150.out) hb); have n1_ := Aside0.mk (below_step (by repeat (first | (with_reducible first | exact HB.out | apply below_alloc | apply pw_below_drewN | apply below_drew1 | refine below_set ?_ GE150.out) | exact HB.out)) hb); have n2_ := Aside0.mk (hbox); have n3_ := Aside0.mk ((by rw [hg]; exact (below_size (by repeat (first | (with_reducible first | exact HB.out | apply below_alloc | apply pw_below_drewN | apply below_drew1 | refine below_set ?_ GE150.out) | exact HB.out))) : w.heap.size ≤ gb151)); have n4_ := Aside0.mk ((by rw [hg]; exact (below_size (by repeat (first | (with_reducible first | exact HB.out | apply below_alloc | apply pw_below_drewN | apply below_drew1 | refine below_set ?_ GE150.out) | exact HB.out))) : w.heap.size ≤ gb151)); have n5_ := Aside0.mk ((by rw [hg]; exact Nat.ne_of_lt (blk_lt (g := gb150) (o := .cells #[.bool false, .string a0_1, .string a0_2, .int .u64 a0_3, .int .u64 a0_4] 59 (0, 0)) (by (with_reducible repeat (first | refine blk_drewN ?_ _ | refine blk_drew ?_ | refine blk_alloc ?_ _)); exact BK150.out)) : gb150 ≠ gb151)); have n6_ := Aside0.mk ((by rw [hg]; exact Nat.ne_of_gt (blk_lt (g := gb150) (o := .cells #[.bool false, .string a0_1, .string a0_2, .int .u64 a0_3, .int .u64 a0_4] 59 (0, 0)) (by (with_reducible repeat (first | refine blk_drewN ?_ _ | refine blk_drew ?_ | refine blk_alloc ?_ _)); exact BK150.out)) : gb151 ≠ gb150)); clear BK150; clear HB; have BK150 := n0_; have HB := n1_; have BK151 := n2_; have GW151 := n3_; have GE151 := n4_; have NB150_151 := n5_; have NB151_150 := n6_; clear n0_ n1_ n2_ n3_ n4_ n5_ n6_; clear hb hbox hg; have hnb24 := NB151_150.out; have hnc24 := NB150_151.out; have hcz25_0 : w23.cell? ⟨gb151, 0, none⟩ = some (.int .u64 0) := (blk_cell BK151.out 0).trans rfl; have hcz25_1 : w23.cell? ⟨gb151, 1, none⟩ = some (.int .u64 0) := (blk_cell BK151.out 1).trans rfl; have hfz25_0 := blk_frozen BK151.out 0; have hfz25_1 := blk_frozen BK151.out 1; have hcz26_0 : w23.cell? ⟨gb150, 0, none⟩ = some (.bool false) := (blk_cell BK150.out 0).trans rfl; have hcz26_1 : w23.cell? ⟨gb150, 1, none⟩ = some (.string a0_1) := (blk_cell BK150.out 1).trans rfl; have hcz26_2 : w23.cell? ⟨gb150, 2, none⟩ = some (.string a0_2) := (blk_cell BK150.out 2).trans rfl; have hcz26_3 : w23.cell? ⟨gb150, 3, none⟩ = some (.int .u64 a0_3) := (blk_cell BK150.out 3).trans rfl; have hcz26_4 : w23.cell? ⟨gb150, 4, none⟩ = some (.int .u64 a0_4) := (blk_cell BK150.out 4).trans rfl; have hfz26_0 := blk_frozen BK150.out 0; have hfz26_1 := blk_frozen BK150.out 1; have hfz26_2 := blk_frozen BK150.out 2; have hfz26_3 := blk_frozen BK150.out 3; have hfz26_4 := blk_frozen BK150.out 4) | (go_at_call 88; (with_reducible refine (paymasterref07_MayId.calls k a0_1 true _ A20.out).mono ?_); rintro e w' ⟨rfl, ⟨nd, rfl⟩⟩))
   go_ret
   exact ⟨by first | rfl | (simp [errW_none, errW_some] <;> rfl) | (simp [*, errW_none, errW_some] <;> rfl), by repeat (first | (with_reducible first | exact HB.out | apply below_alloc | apply pw_below_drewN | apply below_drew1 | refine below_set ?_ GE150.out | refine below_set ?_ GE151.out) | exact HB.out)⟩
  ·
   replace c21 := Bool.eq_false_iff.mpr c21
   subst c21
   have H1 : (some false) = some r := by rw [if_neg (show ¬ (false = true) by decide)] at H; exact H
   clear H
   have H := H1
   clear H1
   obtain rfl := Option.some.inj H
   go_enter Tryd.func60, Tryd.ntmps60
   go_wp2_with (first | ((with_reducible refine gate_dst (N := 1) rfl ?_); refine box_event ?hg (N := 1) ?hd (cs := #[.bool false, .string a0_1, .string a0_2, .int .u64 a0_3, .int .u64 a0_4]) (t := 59) ?hr ?_; (case hd => rfl); (case hg => rfl); (case hr => first | (go_simp; done) | (go_simp; rfl)); intro gb150 hg w27 hbox hb; have n0_ := Aside0.mk (below_step (by repeat (first | (with_reducible first | exact HB.out | apply below_alloc | apply pw_below_drewN | apply below_drew1) | exact HB.out)) hb); have n1_ := Aside0.mk (hbox); have n2_ := Aside0.mk ((by rw [hg]; exact (below_size (by repeat (first | (with_reducible first | exact HB.out | apply below_alloc | apply pw_below_drewN | apply below_drew1) | exact HB.out))) : w.heap.size ≤ gb150)); have n3_ := Aside0.mk ((by rw [hg]; exact (below_size (by repeat (first | (with_reducible first | exact HB.out | apply below_alloc | apply pw_below_drewN | apply below_drew1) | exact HB.out))) : w.heap.size ≤ gb150)); clear HB; have HB := n0_; have BK150 := n1_; have GW150 := n2_; have GE150 := n3_; clear n0_ n1_ n2_ n3_; clear hb hbox hg) | ((with_reducible refine gate_dst (N := 3) rfl ?_); refine box_event ?hg (N := 3) ?hd (cs := #[.int .u64 0, .int .u64 0]) (t := 24) ?hr ?_; (case hd => rfl); (case hg => rfl); (case hr => first | (go_simp; done) | (go_simp; rfl)); intro gb151 hg w28 hbox hb; have n0_ := Aside0.mk (blk_below (g := gb150) (o := .cells #[.bool false, .string a0_1, .string a0_2, .int .u64 a0_3, .int .u64 a0_4] 59 (0, 0)) (by (with_reducible repeat (first | refine blk_drewN ?_ _ | refine blk_drew ?_ | refine blk_alloc ?_ _)); exact BK150.out) hb); have n1_ := Aside0.mk (below_step (by repeat (first | (with_reducible first | exact HB.out | apply below_alloc | apply pw_below_drewN | apply below_drew1 | refine below_set ?_ GE150.out) | exact HB.out)) hb); have n2_ := Aside0.mk (hbox); have n3_ := Aside0.mk ((by rw [hg]; exact (below_size (by repeat (first | (with_reducible first | exact HB.out | apply below_alloc | apply pw_below_drewN | apply below_drew1 | refine below_set ?_ GE150.out) | exact HB.out))) : w.heap.size ≤ gb151)); have n4_ := Aside0.mk ((by rw [hg]; exact (below_size (by repeat (first | (with_reducible first | exact HB.out | apply below_alloc | apply pw_below_drewN | apply below_drew1 | refine below_set ?_ GE150.out) | exact HB.out))) : w.heap.size ≤ gb151)); have n5_ := Aside0.mk ((by rw [hg]; exact Nat.ne_of_lt (blk_lt (g := gb150) (o := .cells #[.bool false, .string a0_1, .string a0_2, .int .u64 a0_3, .int .u64 a0_4] 59 (0, 0)) (by (with_reducible repeat (first | refine blk_drewN ?_ _ | refine blk_drew ?_ | refine blk_alloc ?_ _)); exact BK150.out)) : gb150 ≠ gb151)); have n6_ := Aside0.mk ((by rw [hg]; exact Nat.ne_of_gt (blk_lt (g := gb150) (o := .cells #[.bool false, .string a0_1, .string a0_2, .int .u64 a0_3, .int .u64 a0_4] 59 (0, 0)) (by (with_reducible repeat (first | refine blk_drewN ?_ _ | refine blk_drew ?_ | refine blk_alloc ?_ _)); exact BK150.out)) : gb151 ≠ gb150)); clear BK150; clear HB; have BK150 := n0_; have HB := n1_; have BK151 := n2_; have GW151 := n3_; have GE151 := n4_; have NB150_151 := n5_; have NB151_150 := n6_; clear n0_ n1_ n2_ n3_ n4_ n5_ n6_; clear hb hbox hg; have hnb29 := NB151_150.out; have hnc29 := NB150_151.out; have hcz30_0 : w28.cell? ⟨gb151, 0, none⟩ = some (.int .u64 0) := (blk_cell BK151.out 0).trans rfl; have hcz30_1 : w28.cell? ⟨gb151, 1, none⟩ = some (.int .u64 0) := (blk_cell BK151.out 1).trans rfl; have hfz30_0 := blk_frozen BK151.out 0; have hfz30_1 := blk_frozen BK151.out 1; have hcz31_0 : w28.cell? ⟨gb150, 0, none⟩ = some (.bool false) := (blk_cell BK150.out 0).trans rfl; have hcz31_1 : w28.cell? ⟨gb150, 1, none⟩ = some (.string a0_1) := (blk_cell BK150.out 1).trans rfl; have hcz31_2 : w28.cell? ⟨gb150, 2, none⟩ = some (.string a0_2) := (blk_cell BK150.out 2).trans rfl; have hcz31_3 : w28.cell? ⟨gb150, 3, none⟩ = some (.int .u64 a0_3) := (blk_cell BK150.out 3).trans rfl; have hcz31_4 : w28.cell? ⟨gb150, 4, none⟩ = some (.int .u64 a0_4) := (blk_cell BK150.out 4).trans rfl; have hfz31_0 := blk_frozen BK150.out 0; have hfz31_1 := blk_frozen BK150.out 1; have hfz31_2 := blk_frozen BK150.out 2; have hfz31_3 := blk_frozen BK150.out 3; have hfz31_4 := blk_frozen BK150.out 4) | (go_at_call 88; (with_reducible refine (paymasterref07_MayId.calls k a0_1 false _ A20.out).mono ?_); rintro e w' ⟨rfl, ⟨nd, rfl⟩⟩))
   go_ret
   exact ⟨by first | rfl | (simp [errW_none, errW_some] <;> rfl) | (simp [*, errW_none, errW_some] <;> rfl), by repeat (first | (with_reducible first | exact HB.out | apply below_alloc | apply pw_below_drewN | apply below_drew1 | refine below_set ?_ GE150.out | refine below_set ?_ GE151.out) | exact HB.out)⟩
end Go.Proofs.YtlmmpncdemblbaaDoor.P
namespace Go.Proofs.YtlmmpncdemblbaaDoor.P
open Go.RowKit Go.Proofs.YtlmmpncdemblbaaDoorW.PrintWords Go.Proofs.YtlmmpncdemblbaaDoorW.PrintLast Go.Proofs.YtlmmpncdemblbaaDoorW.PrintMore
set_option linter.unusedVariables false
set_option linter.unusedSimpArgs false
set_option linter.unnecessarySimpa false
/-! strings.Builder's WriteByte at this dump (the walks are the shelf's own, turned to it). -/
theorem bldSize : (Tryd.prog.info? 174).map (·.size) = some 2 := by kernel_rfl
theorem bldLies : liesAt Tryd.prog Tryd.prog.depth 174 (2 / Tryd.prog.cellsOf 174) 0 174 1 = true := by kernel_rfl
theorem byteInfo : (Tryd.prog.info? 5).map (fun i => (i.zero, i.size, i.bytes)) = some (some (.int .u8 0), 1, 1) := by kernel_rfl
theorem noEscapeExt (w : World) (x : Value) : (callFunc 132 #[x]).run Tryd.prog w = .ok (.value x) w := by
 rw [run_callFunc_extern Tryd.func132 (by kernel_rfl) (by kernel_rfl) (by kernel_rfl) (e := Extern.AbiNoEscape.same) (by kernel_rfl)]
 rw [Lib.run_noEscape]
 rfl
set_option maxHeartbeats 1000000 in
set_option maxRecDepth 100000 in
theorem copyCheck_used (b : Nat) (w : World) (h0 : w.cell? ⟨b, 0, none⟩ = some (.pointer (some ⟨b, 0, none⟩))) :
  Calls Tryd.prog 129 #[.pointer (some ⟨b, 0, none⟩)] w fun e w' => e = .returned (.tuple #[]) ∧ w' = w := by
 obtain ⟨j, hj, _⟩ := Option.map_eq_some_iff.1 bldSize
 go_enter Tryd.func129, Tryd.ntmps129
 go_wp2
 rw [Lib.run_neq_ptr_same w _ Tryd.underlying172 hj]
 go_wp2
 go_end0
 exact ⟨rfl, rfl⟩
set_option maxHeartbeats 1000000 in
set_option maxRecDepth 100000 in
theorem copyCheck_fresh (b : Nat) (w : World) (h0 : w.cell? ⟨b, 0, none⟩ = some (.pointer none)) (hsh : w.shape? b = some (174, 2)) (hfz : w.frozen? ⟨b, 0, none⟩ = false) :
  Calls Tryd.prog 129 #[.pointer (some ⟨b, 0, none⟩)] w fun e w' => e = .returned (.tuple #[]) ∧ w' = w.setCell ⟨b, 0, none⟩ (.pointer (some ⟨b, 0, none⟩)) := by
 obtain ⟨j, hj, hjs⟩ := Option.map_eq_some_iff.1 bldSize
 go_enter Tryd.func129, Tryd.ntmps129
 go_wp2
 rw [Lib.run_to_unsafe w ⟨b, 0, none⟩ Tryd.underlying172 Tryd.underlying191 hj (by rw [hjs]; decide) hsh (Nat.zero_lt_succ 1)]
 simp only [Result.andThen]
 rw [Oper.upon_value]
 go_wp2
 rw [noEscapeExt]
 rw [Oper.upon_value]
 go_wp2
 rw [Lib.run_from_unsafe w ⟨b, 0, none⟩ Tryd.underlying191 Tryd.underlying172 hj hsh bldLies]
 simp only [Result.andThen]
 rw [Oper.upon_value]
 go_wp2
 go_end0
 exact ⟨rfl, rfl⟩
theorem copyCheck.calls (B b : Nat) (bs : List Value) (w : World) (h : Lib.IsBuilder 174 5 B b bs w) :
  Calls Tryd.prog 129 #[.pointer (some ⟨b, 0, none⟩)] w fun e w' => e = .returned (.tuple #[]) ∧ (Lib.BuilderAt 174 5 B b (.pointer (some ⟨b, 0, none⟩)) bs w' ∧ Below B w w') := by
 rcases h with h | h
 ·
  refine (copyCheck_fresh b w h.cell0 h.shape h.frozen0).mono ?_
  rintro e w' ⟨rfl, rfl⟩
  exact ⟨rfl, h.used _, (Below.refl B w).setCell (p := ⟨b, 0, none⟩) h.1 _⟩
 ·
  refine (copyCheck_used b w h.cell0).mono ?_
  rintro e w' ⟨rfl, rfl⟩
  exact ⟨rfl, h, Below.refl B _⟩
set_option maxHeartbeats 2000000 in
set_option maxRecDepth 100000 in
theorem writeByte.calls (B b : Nat) (bs : List Value) (c : Int) (w : World) (h : Lib.IsBuilder 174 5 B b bs w) (hlen : bs.length + 1 ≤ 140737488355328) (hBw : B ≤ w.heap.size) :
  Calls Tryd.prog 121 #[.pointer (some ⟨b, 0, none⟩), .int .u8 c] w fun e w' => e = .returned .nilIface ∧ (Lib.IsBuilder 174 5 B b (bs ++ [.int .u8 c]) w' ∧ Below B w w') := by
 obtain ⟨i0, hi, hz0, hz1, hz2⟩ := info_parts byteInfo
 go_enter Tryd.func121, Tryd.ntmps121
 go_wp2_with fail
 refine (copyCheck.calls B b bs _ h).mono ?_
 rintro e w1 ⟨rfl, h1, hb1⟩
 obtain ⟨hB, v, hbk, hown, hne⟩ := h1
 have c0 : w1.cell? ⟨b, 0, none⟩ = some (.pointer (some ⟨b, 0, none⟩)) := by rw [Lib.cell_of_heap hbk]; rfl
 have c1 : w1.cell? ⟨b, 1, none⟩ = some v := by rw [Lib.cell_of_heap hbk]; rfl
 go_wp2_with (at_builtin; refine wpList_append_own _ rfl _ _ 56 rfl B 5 i0 (.int .u8 0) 1 1 Tryd.underlying56 hi hz0 hz1 hz2 rfl (by decide) _ _ _ rfl (hown.alloc _) ⟨w1.heap.size, 0, none⟩ 1 1 [.int .u8 c] rfl rfl ?c1 ?c2 ?c3 ?c4 ?c5 ?_)
 case c1 =>
  intro j u hj
  match j, hj with
  | 0, hj => simp at hj; subst hj; simp [Addr.add]
 case c2 => intro u hu; simp at hu; subst hu; rfl
 case c3 => unfold maxLen; omega
 case c4 => omega
 case c5 => have := hb1.size; simp; omega
 intro v' w2 hown' hgrow _
 have hlt : b < w1.heap.size := by
  rcases Nat.lt_or_ge b w1.heap.size with h' | h'
  ·
   exact h'
  ·
   simp [Array.getElem?_eq_none h'] at hbk
 have hb2 : w2.heap[b]? = some (.cells #[.pointer (some ⟨b, 0, none⟩), v] 174 (0, 0)) := by
  rw [hgrow.block b (by simp; omega) (fun e => hne e.symm), Lib.alloc_old w1 _ b hlt]
  exact hbk
 have d0 : w2.cell? ⟨b, 0, none⟩ = some (.pointer (some ⟨b, 0, none⟩)) := by rw [Lib.cell_of_heap hb2]; rfl
 have d1 : w2.cell? ⟨b, 1, none⟩ = some v := by rw [Lib.cell_of_heap hb2]; rfl
 have f1 : w2.frozen? ⟨b, 1, none⟩ = false := Lib.frozen_of_heap hb2 1
 obtain ⟨g, cap, rfl⟩ : ∃ g cap, v' = .slice (some ⟨g, 0, none⟩) (bs.length + 1) cap := by
  rcases hown'.2 with ⟨_, h0⟩ | ⟨g, cap, cur, hv, _⟩
  ·
   omega
  ·
   exact ⟨g, cap, hv⟩
 go_wp2
 go_ret
 refine ⟨rfl, ?_, ?_⟩
 ·
  exact .inr (Lib.BuilderAt.put (T := 174) (e := 5) hB hb2 (bs' := bs ++ [.int .u8 c]) (by simpa using hown') (by decide))
 ·
  exact ((hb1.alloc (by have := hb1.size; omega) _).grown hgrow (by have := hb1.size; simp; omega) (fun k hk => (hown.lt k hk).1)).setCell (p := ⟨b, 1, none⟩) hB _
/-- A builder in block b whose row lies at or beyond R. -/
def BAt (R b : Nat) (p : Value) (bs : List Value) (w : World) : Prop :=
 ∃ v, w.heap[b]? = some (.cells #[p, v] 174 (0, 0)) ∧ w.ownsRow R 5 1 v bs.length bs ∧ v.ownBlock ≠ some b
def IsBAt (R b : Nat) (bs : List Value) (w : World) : Prop := BAt R b (.pointer none) bs w ∨ BAt R b (.pointer (some ⟨b, 0, none⟩)) bs w
/-- What lies below R stands, but for block b. -/
structure KeepsBut (R b : Nat) (w w' : World) : Prop where
 os : w'.os = w.os
 tape : w'.tape = w.tape
 output : w'.output = w.output
 size : w.heap.size ≤ w'.heap.size
 block : ∀ k, k < R → k ≠ b → w'.heap[k]? = w.heap[k]?
theorem KeepsBut.refl (R b : Nat) (w : World) : KeepsBut R b w w := ⟨rfl, rfl, rfl, Nat.le_refl _, fun _ _ _ => rfl⟩
theorem KeepsBut.trans {R b : Nat} {w w1 w2 : World} (h : KeepsBut R b w w1) (k : KeepsBut R b w1 w2) : KeepsBut R b w w2 :=
 ⟨k.os.trans h.os, k.tape.trans h.tape, k.output.trans h.output, Nat.le_trans h.size k.size, fun i hi hn => (k.block i hi hn).trans (h.block i hi hn)⟩
theorem KeepsBut.below {R b : Nat} {w w1 : World} (h : KeepsBut R b w w1) (hb : b ≤ R) : Below b w w1 := ⟨h.os, h.tape, h.output, h.size, fun i hi => h.block i (by omega) (by omega)⟩
theorem IsBAt.builder {R b : Nat} {bs : List Value} {w : World} (h : IsBAt R b bs w) (hb : b ≤ R) : Lib.IsBuilder 174 5 b b bs w := by
 have key : ∀ p, BAt R b p bs w → Lib.BuilderAt 174 5 b b p bs w := by
  rintro p ⟨v, h1, ⟨hl, h2⟩, h3⟩
  refine ⟨Nat.le_refl _, v, h1, ⟨hl, ?_⟩, h3⟩
  rcases h2 with h2 | ⟨g, cap, cur, e1, e2, e3⟩
  ·
   exact .inl h2
  ·
   exact .inr ⟨g, cap, cur, e1, by omega, e3⟩
 rcases h with h | h
 ·
  exact .inl (key _ h)
 ·
  exact .inr (key _ h)
theorem BAt.fresh (R b : Nat) (w : World) (h : w.heap[b]? = some (.cells #[.pointer none, .slice none 0 0] 174 (0, 0))) : IsBAt R b [] w :=
 .inl ⟨_, h, ⟨rfl, .inl ⟨rfl, rfl⟩⟩, by simp [Value.ownBlock]⟩
theorem BAt.used {R b : Nat} {p : Value} {bs : List Value} {w : World} (h : BAt R b p bs w) (q : Value) : BAt R b q bs (w.setCell ⟨b, 0, none⟩ q) := by
 obtain ⟨v, hb, hown, hne⟩ := h
 refine ⟨v, ?_, ?_, hne⟩
 ·
  have := blk_set hb 0 q
  simpa using this
 ·
  obtain ⟨hl, h2⟩ := hown
  refine ⟨hl, ?_⟩
  rcases h2 with h2 | ⟨g, cap, cur, e1, e2, e3, e4⟩
  ·
   exact .inl h2
  ·
   refine .inr ⟨g, cap, cur, e1, e2, ?_, e4⟩
   have hgb : g ≠ b := by intro e; rw [e1, e] at hne; exact hne rfl
   exact (Below.heap_setCell w _ q g hgb).trans e3
end Go.Proofs.YtlmmpncdemblbaaDoor.P
namespace Go.Proofs.YtlmmpncdemblbaaDoor.P
open Go.RowKit Go.Proofs.YtlmmpncdemblbaaDoorW.PrintWords Go.Proofs.YtlmmpncdemblbaaDoorW.PrintLast Go.Proofs.YtlmmpncdemblbaaDoorW.PrintMore
set_option linter.unusedVariables false
set_option linter.unusedSimpArgs false
set_option linter.unnecessarySimpa false
/-- How many noughts stand in the padding of a length. -/
def padZ (n : Int) : Nat := ((119 - n) % 64).toNat
/-- A byte of the padding's end. -/
def padB (n : Int) (i : Nat) : Int := IntKind.u64.wrap (n * 8) / 2 ^ (56 - 8 * i) % 256
/-- The padding's bytes: the first k of the end. -/
def padL (n : Int) (k : Nat) : List UInt8 := 128 :: (List.replicate (padZ n) 0 ++ (List.range k).map fun i => (padB n i).toNat.toUInt8)
theorem padL_step (n : Int) (k : Nat) : Lib.byteCells (padL n (k + 1)) = Lib.byteCells (padL n k) ++ [.int .u8 (padB n k)] := by
 have h0 : 0 ≤ padB n k := Int.emod_nonneg _ (by decide)
 have h1 : padB n k < 256 := Int.emod_lt_of_pos _ (by decide)
 simp only [padL, Lib.byteCells, List.range_succ, List.map_append, List.map_cons, List.map_nil, List.cons_append, List.append_assoc]
 congr 4
 have : ((padB n k).toNat.toUInt8.toNat : Int) = padB n k := by
  rw [Nat.toUInt8, UInt8.toNat_ofNat']
  omega
 rw [this]
def padI (n : Int) : ByteArray := ⟨(padL n 8).toArray⟩
set_option maxRecDepth 100000 in
set_option maxHeartbeats 4000000 in
theorem padding.calls (n : Int) (h0 : 0 ≤ n) (h1 : n < 18446744073709551616) (w : World) :
  Calls Tryd.prog 111 #[.int .u64 n] w fun e w' => e = .returned (.string (padI n)) ∧ Below w.heap.size w w' := by
 go_enter Tryd.func111, Tryd.ntmps111
 go_wp2_with fail
 refine (writeByte.calls w.heap.size w.heap.size [] 128 _ (Lib.fresh_isBuilder _ _ w) (by decide) (by simp)).mono ?_
 rintro e w1 ⟨rfl, hb1, hB1⟩
 have hBB : Below w.heap.size w w1 := Below.trans (below_alloc (Below.refl _ _) _) hB1
 have HB1 := Aside0.mk hb1
 have HBB := Aside0.mk hBB
 clear hb1 hB1 hBB
 go_wp2_with fail
 go_loopw [6] (fun v wr => ∃ k : Nat, (intOf v).toNat = k ∧ k ≤ padZ n ∧ Aside0 (Lib.IsBuilder 174 5 w.heap.size w.heap.size (Lib.byteCells (128 :: List.replicate k 0)) wr) ∧ Aside0 (Below w.heap.size w wr)) (fun v _ => padZ n + 1 - (intOf v).toNat)
 case atStart => exact ⟨0, rfl, by omega, HB1, HBB⟩
 case round =>
  obtain ⟨k, hv, hk, HB, HW⟩ := hrel
  have hzz : ((padZ n : Nat) : Int) = (119 - n) % 64 := by simp only [padZ]; omega
  have HV := Aside0.mk hv
  clear hv
  by_cases hlt : k < padZ n
  ·
   have b1 : decide ((k : Int) + 1 < 1 + (119 - n) % 64) = true := decide_eq_true (by omega)
   have HZ := Aside0.mk hzz
   clear hzz
   go_wp2_with fail
   refine (Tryd.Builder_Len w.heap.size w.heap.size _ _ HB.out).mono ?_
   rintro e w2 ⟨rfl, rfl⟩
   have hl : (((Lib.byteCells (128 :: List.replicate k 0)).length : Nat) : Int) = (k : Int) + 1 := by simp [Lib.byteCells]
   rw [hl]
   clear hl
   go_wp2_with fail
   refine (writeByte.calls w.heap.size w.heap.size _ 0 _ HB.out (by simp [Lib.byteCells]; have := HZ.out; omega) HW.out.size).mono ?_
   rintro e w1 ⟨rfl, hb1, hB1⟩
   have HB2 := Aside0.mk hb1
   have HW2 := Aside0.mk (HW.out.trans hB1)
   clear hb1 hB1 b1
   go_wp2_with fail
   go_roundw
   case rel =>
    refine ⟨k + 1, by simp [intOf], hlt, ⟨?_⟩, HW2⟩
    have e2 : Lib.byteCells (128 :: List.replicate (k + 1) 0) = Lib.byteCells (128 :: List.replicate k 0) ++ [.int .u8 0] := by
     simp [Lib.byteCells, List.replicate_succ']
    rw [e2]
    exact HB2.out
   case measure => rw [HV.out]; simp [intOf]; omega
  ·
   have b1 : decide ((k : Int) + 1 < 1 + (119 - n) % 64) = false := decide_eq_false (by omega)
   have HZ := Aside0.mk hzz
   clear hzz
   go_wp2_with fail
   refine (Tryd.Builder_Len w.heap.size w.heap.size _ _ HB.out).mono ?_
   rintro e w2 ⟨rfl, rfl⟩
   have hl : (((Lib.byteCells (128 :: List.replicate k 0)).length : Nat) : Int) = (k : Int) + 1 := by simp [Lib.byteCells]
   rw [hl]
   clear hl
   go_wp2_with fail
   obtain rfl : k = padZ n := by omega
   have e119 : (119 - n % 64) % 64 = (119 - n) % 64 := by omega
   rw [e119]
   clear e119
   go_loopw [4] (fun v wr => ∃ i : Nat, v = .int .i64 (56 - 8 * (i : Int)) ∧ i ≤ 8 ∧ Aside0 (Lib.IsBuilder 174 5 w.heap.size w.heap.size (Lib.byteCells (padL n i)) wr) ∧ Aside0 (Below w.heap.size w wr)) (fun v _ => (8 + intOf v).toNat)
   case atStart => exact ⟨0, rfl, by omega, ⟨by simpa [padL] using HB.out⟩, HW⟩
   case round =>
    obtain ⟨i, rfl, hi, HB3, HW3⟩ := hrel
    by_cases hlt2 : i < 8
    ·
     have b2 : decide (0 ≤ 56 - 8 * (i : Int)) = true := decide_eq_true (by omega)
     have b3 : 0 ≤ 56 - 8 * (i : Int) := by omega
     clear b1
     go_wp2_with fail
     refine (writeByte.calls w.heap.size w.heap.size _ (padB n i) _ HB3.out (by simp [Lib.byteCells, padL]; have := HZ.out; omega) HW3.out.size).mono ?_
     rintro e w1 ⟨rfl, hb1, hB1⟩
     rw [← padL_step] at hb1
     have HB4 := Aside0.mk hb1
     have HW4 := Aside0.mk (HW3.out.trans hB1)
     have e8 : IntKind.i64.wrap (56 - 8 * (i : Int) - 8) = 56 - 8 * ((i + 1 : Nat) : Int) := by
      rw [IntWalk.i64_in _ (by omega)]; omega
     clear hb1 hB1 b2 b3
     go_wp2_with fail
     go_roundw
     case rel =>
      exact ⟨i + 1, by go_num, by omega, HB4, HW4⟩
     case measure => simp [intOf]; omega
    ·
     have b2 : decide (0 ≤ 56 - 8 * (i : Int)) = false := decide_eq_false (by omega)
     clear b1
     go_wp2_with fail
     obtain rfl : i = 8 := by omega
     refine (Tryd.Builder_String_any w.heap.size w.heap.size _ _ HB3.out HW3.out.size).mono ?_
     rintro e w2 ⟨rfl, hB2⟩
     go_wp2
     go_ret
     exact ⟨rfl, HW3.out.trans hB2⟩
/-- A word's bytes. -/
def wordL (x : Int) : List Int := [x / 16777216 % 256, x / 65536 % 256, x / 256 % 256, x % 256]
/-- The bytes of the first k words. -/
def digL (s : S8) (k : Nat) : List Int := (List.range k).flatMap fun i => wordL (s.get i)
def digestI (s : S8) : ByteArray := strOfNums (digL s 8)
theorem digL_succ (s : S8) (k : Nat) : digL s (k + 1) = digL s k ++ wordL (s.get k) := by simp [digL, List.range_succ]
theorem digL_length (s : S8) (k : Nat) : (digL s k).length = 4 * k := by
 induction k with
 | zero => rfl
 | succ k ih => rw [digL_succ, List.length_append, ih]; simp [wordL]; omega
theorem nums_append (k : IntKind) (a b : List Int) : nums k (a ++ b) = nums k a ++ nums k b := by simp [nums]
set_option maxRecDepth 1000000 in
theorem state_index (s : S8) (k : Nat) (h : k < 8) (w : World) : (Instr.index 154 (.agg #[.int .u32 s.x0, .int .u32 s.x1, .int .u32 s.x2, .int .u32 s.x3, .int .u32 s.x4, .int .u32 s.x5, .int .u32 s.x6, .int .u32 s.x7]) (.int .i64 (k : Int))).run Tryd.prog w = .ok (.int .u32 (s.get k)) w := by
 have : k = 0 ∨ k = 1 ∨ k = 2 ∨ k = 3 ∨ k = 4 ∨ k = 5 ∨ k = 6 ∨ k = 7 := by omega
 rcases this with h | h | h | h | h | h | h | h <;> subst h <;> rfl
set_option maxRecDepth 100000 in
set_option maxHeartbeats 4000000 in
theorem digest.calls (s : S8) (w : World) :
  Calls Tryd.prog 112 #[stV s] w fun e w' => e = .returned (.string (digestI s)) ∧ Below w.heap.size w w' := by
 have hu := Tryd.underlying154
 obtain ⟨i0, hi, hz0, hz1, hz2⟩ := info_parts byteInfo
 go_enter Tryd.func112, Tryd.ntmps112
 go_wp2_with fail
 go_loopw [7, 3] (fun v u wr => ∃ k : Nat, v = .int .i64 k ∧ k ≤ 8 ∧ Aside0 (wr.ownsRow w.heap.size 5 1 u (4 * k) (nums .u8 (digL s k))) ∧ Aside0 (Below w.heap.size w wr)) (fun v _ _ => 8 - (intOf v).toNat)
 case atStart => exact ⟨0, rfl, by omega, ⟨⟨rfl, .inl ⟨rfl, rfl⟩⟩⟩, ⟨below_alloc (Below.refl _ _) _⟩⟩
 case round =>
  obtain ⟨k, rfl, hk, HO, HB⟩ := hrel
  by_cases hlt : k < 8
  ·
   have b1 : decide ((k : Int) < 8) = true := decide_eq_true (by omega)
   have g1 : (k : Int) < 8 := by omega
   have hix := state_index s k hlt
   obtain ⟨x, hx⟩ : ∃ x, x = s.get k := ⟨_, rfl⟩
   rw [← hx] at hix
   have HX := Aside0.mk hx
   clear hx
   have hl0 := HO.out.1
   go_wp2_with (at_builtin; refine wpList_append_own _ rfl _ _ 56 rfl w.heap.size 5 i0 (.int .u8 0) 1 1 Tryd.underlying56 hi hz0 hz1 hz2 rfl (by decide) _ _ _ rfl (HO.out.alloc _) ⟨wr.heap.size, 0, none⟩ 4 4 (nums .u8 (wordL x)) rfl rfl ?c1 ?c2 ?c3 ?c4 ?c5 ?_)
   case c1 =>
    intro j u hj
    match j, hj with
    | 0, hj => simp [nums, wordL] at hj; subst hj; simp [Addr.add]
    | 1, hj => simp [nums, wordL] at hj; subst hj; simp [Addr.add]
    | 2, hj => simp [nums, wordL] at hj; subst hj; simp [Addr.add]
    | 3, hj => simp [nums, wordL] at hj; subst hj; simp [Addr.add]
   case c2 => intro u hu; simp [nums, wordL] at hu; rcases hu with hu | hu | hu | hu <;> subst hu <;> rfl
   case c3 => unfold maxLen; omega
   case c4 => omega
   case c5 => have := HB.out.size; simp; omega
   intro v' w2 hown' hgrow _
   have HO2 := Aside0.mk hown'
   have HB2 := Aside0.mk (((HB.out.alloc HB.out.size _)).grown hgrow (by have := HB.out.size; simp; omega) (fun k hk => (HO.out.lt k hk).1))
   clear hown' hgrow hix
   go_wp2_with fail
   go_roundw
   case rel =>
    refine ⟨k + 1, by go_num, by omega, ⟨?_⟩, HB2⟩
    rw [digL_succ, ← HX.out, nums_append]
    exact HO2.out
   case measure => simp [intOf]; omega
  ·
   have b1 : decide ((k : Int) < 8) = false := decide_eq_false (by omega)
   obtain rfl : k = 8 := by omega
   have hown := HO.out
   obtain ⟨hl, h2⟩ := hown
   rcases h2 with ⟨_, h0⟩ | ⟨g, cap, cur, rfl, e2, e3, e4, e5, e6, e7⟩
   ·
    omega
   have hcv := run_convert_bytes_arg wr 56 5 Tryd.underlying56 Tryd.underlying5 g 0 32 cap (digL s 8) (digL_length s 8) (fun i hi => by
    have h1 : (cur.toList.take (4 * 8 * 1))[i]? = some (.int .u8 ((digL s 8).getD i 0)) := by
     rw [e7]; simp [nums, digL_length, hi]
    rw [List.getElem?_take_of_lt (by omega)] at h1
    rw [Nat.zero_add, blk_cell e3 i]
    simpa using h1) 9 Tryd.underlying9
   have HB2 := HB
   clear HO e3 e7 HB
   go_wp2_with fail
   go_ret
   exact ⟨rfl, HB2.out⟩
end Go.Proofs.YtlmmpncdemblbaaDoor.P
namespace Go.Proofs.YtlmmpncdemblbaaDoor.P
open Go.RowKit Go.Proofs.YtlmmpncdemblbaaDoorW.PrintWords Go.Proofs.YtlmmpncdemblbaaDoorW.PrintLast Go.Proofs.YtlmmpncdemblbaaDoorW.PrintMore
set_option linter.unusedVariables false
set_option linter.unusedSimpArgs false
set_option linter.unnecessarySimpa false
/-- The first state. -/
def firstI : S8 := ⟨1779033703, 3144134277, 1013904242, 2773480762, 1359893119, 2600822924, 528734635, 1541459225⟩
theorem first.calls (w : World) : Calls Tryd.prog 105 #[] w fun e w' => e = .returned (stV firstI) ∧ Below w.heap.size w w' := by
 have hu := Tryd.underlying154
 go_enter Tryd.func105, Tryd.ntmps105
 go_wp2_with fail
 refine bodyPost_ret (v := stV firstI) ?_ rfl ⟨rfl, ?_⟩
 ·
  simp [results, Tryd.results105, go_sem, firstI]
 ·
  repeat (with_reducible first | exact Below.refl _ _ | apply below_alloc | refine below_set ?_ (Nat.le_refl _))
/-- A new running one. -/
def newRun : Run := ⟨firstI, ByteArray.empty, 0⟩
theorem new.calls (w : World) : Calls Tryd.prog 94 #[] w fun e w' => ∃ g, e = .returned (.pointer (some ⟨g, 0, none⟩)) ∧ w.heap.size ≤ g ∧ IsRun w' g newRun ∧ Below w.heap.size w w' := by
 have hu := Tryd.underlying154
 go_enter Tryd.func94, Tryd.ntmps94
 go_wp2_with fail
 refine (first.calls _).mono ?_
 rintro e w1 ⟨rfl, hB⟩
 go_wp2
 go_ret
 exact ⟨w1.heap.size, rfl, hB.size, blk_new w1 _, hB.alloc hB.size _⟩
theorem none.calls (g : Nat) (r : Run) (w : World) (hg : IsRun w g r) : Calls Tryd.prog 109 #[.pointer (some ⟨g, 0, none⟩)] w fun e w' => e = .returned (.bool false) ∧ w' = w := by
 have h0 : w.cell? ⟨g, 0, none⟩ = some (.bool true) := blk_cell hg 0
 go_enter Tryd.func109, Tryd.ntmps109
 go_wp2_with fail
 go_ret
 exact ⟨rfl, rfl⟩
theorem copy.calls (g : Nat) (r : Run) (w : World) (hg : IsRun w g r) : Calls Tryd.prog 110 #[.pointer (some ⟨g, 0, none⟩)] w fun e w' => ∃ g', e = .returned (.pointer (some ⟨g', 0, none⟩)) ∧ w.heap.size ≤ g' ∧ IsRun w' g' r ∧ Below w.heap.size w w' := by
 obtain ⟨e1, e2, e3, e4, e5, e6, e7, e8⟩ := run_cells hg
 have e0 : w.cell? ⟨g, 0, none⟩ = some (.bool true) := blk_cell hg 0
 have e9 : w.cell? ⟨g, 9, none⟩ = some (.string r.rest) := blk_cell hg 9
 have e10 : w.cell? ⟨g, 10, none⟩ = some (.int .u64 r.n) := blk_cell hg 10
 have hlt : g < w.heap.size := blk_lt hg
 have hne : g ≠ w.heap.size := Nat.ne_of_lt hlt
 have hu := Tryd.underlying154
 clear hg
 go_enter Tryd.func110, Tryd.ntmps110
 go_wp2_with fail
 go_ret
 exact ⟨w.heap.size, rfl, Nat.le_refl _, blk_new w _, below_alloc (Below.refl _ _) _⟩
/-- What a running one is asked for. -/
def Run.sum (r : Run) : ByteArray := digestI (takeI r (padI r.n)).s
theorem padI_size (n : Int) : (padI n).size = 9 + padZ n := by simp [padI, padL, ByteArray.size]; omega
set_option maxRecDepth 100000 in
set_option maxHeartbeats 1000000 in
theorem sum_run.calls (g : Nat) (r : Run) (w : World) (hK : Laid w) (hg : IsRun w g r) (h0 : 0 ≤ r.n) (h1 : r.n < 18446744073709551616) (hr : r.rest.size < 64) :
  Calls Tryd.prog 96 #[.pointer (some ⟨g, 0, none⟩)] w fun e w' => e = .returned (.tuple #[.string r.sum, .int .i64 0]) ∧ Below w.heap.size w w' := by
 have HK := Aside0.mk hK
 have HG := Aside0.mk hg
 have hu := Tryd.underlying154
 clear hK hg
 go_enter Tryd.func96, Tryd.ntmps96
 go_wp2_with fail
 refine (none.calls g r _ HG.out).mono ?_
 rintro e w1 ⟨rfl, rfl⟩
 go_wp2_with fail
 refine (copy.calls g r _ HG.out).mono ?_
 rintro e w1 ⟨g2, rfl, hg2, hr2, hB1⟩
 have h10 : w1.cell? ⟨g, 10, none⟩ = some (.int .u64 r.n) := blk_cell (blk_below HG.out hB1) 10
 have HB1 := Aside0.mk hB1
 have HR2 := Aside0.mk hr2
 have HG2 := Aside0.mk hg2
 clear hB1 hr2 hg2
 go_wp2_with fail
 refine (padding.calls r.n h0 h1 _).mono ?_
 rintro e w2 ⟨rfl, hB2⟩
 have HB2 := Aside0.mk (HB1.out.trans (hB2.mono HB1.out.size))
 have HR3 : IsRun w2 g2 r := blk_below HR2.out hB2
 clear hB2 h10
 go_wp2_with fail
 refine (takes.calls g2 r (padI r.n) _ (HK.out.below HB2.out) HR3 (by rw [padI_size]; unfold padZ; omega)).mono ?_
 rintro e w3 ⟨rfl, hr3, hb3⟩
 have HB3 := Aside0.mk (HB2.out.grown hb3 HB2.out.size (fun k e => by cases e; exact HG2.out))
 obtain ⟨c1, c2, c3, c4, c5, c6, c7, c8⟩ := run_cells hr3
 clear hr3 hb3
 have HS := Aside0.mk (show (takeI r (padI r.n)).s = (takeI r (padI r.n)).s from rfl)
 have hs : r.sum = digestI (takeI r (padI r.n)).s := rfl
 generalize (takeI r (padI r.n)).s = y at c1 c2 c3 c4 c5 c6 c7 c8 hs
 have HY := Aside0.mk hs
 clear hs HR3 HS
 go_wp2_with fail
 refine (digest.calls y _).mono ?_
 rintro e w4 ⟨rfl, hB4⟩
 go_wp2_with fail
 go_ret2
 rw [HY.out]
 exact ⟨rfl, HB3.out.trans (hB4.mono HB3.out.size)⟩
/-- A text's digest, as it is made. -/
def sumI (t : ByteArray) : ByteArray := (takeI newRun t).sum
theorem u64_wrap_range (x : Int) : 0 ≤ IntKind.u64.wrap x ∧ IntKind.u64.wrap x < 18446744073709551616 := by rw [IntKind.wrap_u64]; omega
theorem eat_rest (l : List (ByteArray × Bool)) : ∀ (r : Run), (∀ x ∈ l, x.2 = false → x.1.size < 64) → r.rest.size < 64 → (l.foldl eat r).rest.size < 64 ∧ (l.foldl eat r).n = r.n := by
 induction l with
 | nil => intro r _ h; exact ⟨h, rfl⟩
 | cons x l ih =>
  intro r hx hr
  rw [List.foldl_cons]
  have h1 : (eat r x).rest.size < 64 ∧ (eat r x).n = r.n := by
   unfold eat
   split
   ·
    exact ⟨by show ByteArray.empty.size < 64; decide, rfl⟩
   ·
    exact ⟨hx x (by simp) (by simp_all), rfl⟩
  obtain ⟨h2, h3⟩ := ih (eat r x) (fun y hy => hx y (by simp [hy])) h1.1
  exact ⟨h2, h3.trans h1.2⟩
theorem blksN_small : ∀ (n : Nat) (t : ByteArray), t.size / 64 = n → ∀ x ∈ blksN n t, x.2 = false → x.1.size < 64
 | 0, t, h, x, hx, _ => by simp [blksN] at hx; subst hx; show t.size < 64; omega
 | n + 1, t, h, x, hx, hf => by
  rw [blksN, List.mem_cons] at hx
  rcases hx with hx | hx
  ·
   subst hx; cases hf
  ·
   exact blksN_small n _ (by rw [ByteArray.size_extract]; omega) x hx hf
theorem takeI_small (r : Run) (t : ByteArray) (h : r.rest.size < 64) : (takeI r t).rest.size < 64 ∧ (takeI r t).n = IntKind.u64.wrap (r.n + (t.size : Int)) :=
 eat_rest _ _ (blksN_small _ _ rfl) h
set_option maxRecDepth 100000 in
set_option maxHeartbeats 1000000 in
theorem sum.calls (t : ByteArray) (w : World) (hK : Laid w) (ht : t.size ≤ 4611686018427387904) :
  Calls Tryd.prog 75 #[.string t] w fun e w' => e = .returned (.string (sumI t)) ∧ Below w.heap.size w w' := by
 have HK := Aside0.mk hK
 clear hK
 go_enter Tryd.func75, Tryd.ntmps75
 go_wp2_with fail
 refine (new.calls _).mono ?_
 rintro e w1 ⟨g, rfl, hg, hr, hB⟩
 have HB := Aside0.mk hB
 have HR := Aside0.mk hr
 have HG := Aside0.mk hg
 clear hB hr hg
 go_wp2_with fail
 refine (takes.calls g newRun t _ (HK.out.below HB.out) HR.out (by show 0 + t.size ≤ _; omega)).mono ?_
 rintro e w2 ⟨rfl, hr2, hb2⟩
 have HB2 := Aside0.mk (HB.out.grown hb2 HB.out.size (fun k e => by cases e; exact HG.out))
 have HR2 := Aside0.mk hr2
 clear hr2 hb2
 obtain ⟨s1, s2⟩ := takeI_small newRun t (by decide)
 have r1 : 0 ≤ (takeI newRun t).n := by rw [s2]; exact (u64_wrap_range _).1
 have r2 : (takeI newRun t).n < 18446744073709551616 := by rw [s2]; exact (u64_wrap_range _).2
 go_wp2_with fail
 refine (sum_run.calls g (takeI newRun t) _ (HK.out.below HB2.out) HR2.out r1 r2 s1).mono ?_
 rintro e w3 ⟨rfl, hB3⟩
 go_wp2
 go_ret
 exact ⟨rfl, HB2.out.trans (hB3.mono HB2.out.size)⟩
end Go.Proofs.YtlmmpncdemblbaaDoor.P
namespace Go.Proofs.YtlmmpncdemblbaaDoor.P
open Go.RowKit Go.Proofs.YtlmmpncdemblbaaDoorW.PrintWords Go.Proofs.YtlmmpncdemblbaaDoorW.PrintLast Go.Proofs.YtlmmpncdemblbaaDoorW.PrintMore
set_option linter.unusedVariables false
set_option linter.unusedSimpArgs false
set_option linter.unnecessarySimpa false
theorem u64_range (x : Int) : 0 ≤ IntKind.u64.wrap x ∧ IntKind.u64.wrap x < 18446744073709551616 := by rw [IntKind.wrap_u64]; omega
theorem padI_nums (n : Int) : padI n = strOfNums (128 :: (List.replicate (padZ n) 0 ++ (List.range 8).map (padB n))) := by
 simp only [padI, padL, strOfNums, List.map_cons, List.map_append, List.map_replicate, List.map_map]
 rfl
theorem refPad_l1_step {x3 x5 : List Int} {x4 : Int} {i : Int} {r : ByteArray} (h0 : 0 ≤ x4) (h1 : x4 < 18446744073709551616) (hi : 0 ≤ i ∧ i < 8) (hl : x5.length < 1000)
  (h : Ev (fun k => paymasterref05_Padding.l1 k x3 (x4 / 256) (x4 % 256 :: x5) (i + 1)) r) : Ev (fun k => paymasterref05_Padding.l1 k x3 x4 x5 i) r := by
 refine Ev.step (f := fun k => paymasterref05_Padding.l1 k x3 (x4 / 256) (x4 % 256 :: x5) (i + 1)) (fun k => ?_) h
 have e1 : Int.tmod x4 256 = x4 % 256 := Int.tmod_eq_emod_of_nonneg h0
 have e2 : Int.tdiv x4 256 = x4 / 256 := Int.tdiv_eq_ediv_of_nonneg h0
 rw [paymasterref05_Padding.l1, if_pos hi.2]
 simp only [Option.bind_some, e1, e2]
 rw [if_pos (by simp; omega), wrap64_id (by omega) (by omega), wrapu64_id (by omega) (by omega)]
 congr 1
 simp
theorem refPad_l1_done {x3 x5 : List Int} {x4 : Int} (hl : x3.length + x5.length < 140737488355328) : Ev (fun k => paymasterref05_Padding.l1 k x3 x4 x5 8) (strOfNums (x3 ++ x5)) := by
 refine Ev.step (f := fun _ => some (strOfNums (x3 ++ x5))) (fun k => ?_) (Ev.now _)
 rw [paymasterref05_Padding.l1, if_neg (by decide), if_pos hl]
theorem refPad_l1 {x3 : List Int} {m : Int} (h0 : 0 ≤ m) (h1 : m < 18446744073709551616) (hl : x3.length < 1000) :
  Ev (fun k => paymasterref05_Padding.l1 k x3 m [] 0) (strOfNums (x3 ++ (List.range 8).map fun i => m / 2 ^ (56 - 8 * i) % 256)) := by
 have hd : ∀ x : Int, 0 ≤ x → 0 ≤ x / 256 ∧ x / 256 ≤ x := fun x h => by omega
 obtain ⟨a1, b1⟩ := hd m h0
 obtain ⟨a2, b2⟩ := hd _ a1
 obtain ⟨a3, b3⟩ := hd _ a2
 obtain ⟨a4, b4⟩ := hd _ a3
 obtain ⟨a5, b5⟩ := hd _ a4
 obtain ⟨a6, b6⟩ := hd _ a5
 obtain ⟨a7, b7⟩ := hd _ a6
 refine refPad_l1_step h0 h1 (by omega) (by simp) ?_
 refine refPad_l1_step a1 (by omega) (by omega) (by simp) ?_
 refine refPad_l1_step a2 (by omega) (by omega) (by simp) ?_
 refine refPad_l1_step a3 (by omega) (by omega) (by simp) ?_
 refine refPad_l1_step a4 (by omega) (by omega) (by simp) ?_
 refine refPad_l1_step a5 (by omega) (by omega) (by simp) ?_
 refine refPad_l1_step a6 (by omega) (by omega) (by simp) ?_
 refine refPad_l1_step a7 (by omega) (by omega) (by simp) ?_
 refine ev_eq (refPad_l1_done (by simp; omega)) ?_
 congr 1
 simp only [List.range, List.range.loop, List.map_cons, List.map_nil]
 congr 1
 simp only [List.cons.injEq, and_true]
 refine ⟨?_, ?_, ?_, ?_, ?_, ?_, ?_, ?_⟩ <;> (simp only [Nat.reduceMul, Nat.reduceSub]; omega)
theorem refPad_l0 (n : Int) (h0 : 0 ≤ n) (h1 : n < 18446744073709551616) : ∀ (d j : Nat), d + j = padZ n →
  Ev (fun k => paymasterref05_Padding.l0 k n (128 :: List.replicate j 0)) (padI n)
 | 0, j, h => by
  have hz : ((padZ n : Nat) : Int) = (119 - n) % 64 := by simp only [padZ]; omega
  refine Ev.step (f := fun k => paymasterref05_Padding.l1 k (128 :: List.replicate j 0) (IntKind.u64.wrap (n * 8)) [] 0) (fun k => ?_) ?_
  ·
   rw [paymasterref05_Padding.l0, if_pos]
   simp only [List.length_cons, List.length_replicate]
   rw [IntKind.wrap_u64, IntKind.wrap_u64, Int.tmod_eq_emod_of_nonneg (by omega)]
   omega
  ·
   have hm := u64_range (n * 8)
   refine ev_eq (refPad_l1 hm.1 hm.2 (by simp; omega)) ?_
   rw [padI_nums]
   obtain rfl : j = padZ n := by omega
   rfl
 | d + 1, j, h => by
  have hz : ((padZ n : Nat) : Int) = (119 - n) % 64 := by simp only [padZ]; omega
  refine Ev.step (f := fun k => paymasterref05_Padding.l0 k n (128 :: List.replicate (j + 1) 0)) (fun k => ?_) (refPad_l0 n h0 h1 d (j + 1) (by omega))
  rw [paymasterref05_Padding.l0, if_neg, if_pos]
  ·
   congr 1
   simp [List.replicate_succ']
  ·
   simp; omega
  ·
   simp only [List.length_cons, List.length_replicate]
   rw [IntKind.wrap_u64, IntKind.wrap_u64, Int.tmod_eq_emod_of_nonneg (by omega)]
   omega
theorem refPad (n : Int) (h0 : 0 ≤ n) (h1 : n < 18446744073709551616) : Ev (fun k => paymasterref05_Padding.f k n) (padI n) := refPad_l0 n h0 h1 (padZ n) 0 rfl
end Go.Proofs.YtlmmpncdemblbaaDoor.P
namespace Go.Proofs.YtlmmpncdemblbaaDoor.P
open Go.RowKit Go.Proofs.YtlmmpncdemblbaaDoorW.PrintWords Go.Proofs.YtlmmpncdemblbaaDoorW.PrintLast Go.Proofs.YtlmmpncdemblbaaDoorW.PrintMore
set_option linter.unusedVariables false
set_option linter.unusedSimpArgs false
set_option linter.unnecessarySimpa false
/-- The table of the reference. -/
theorem table.calls (w : World) : Calls Tryd.prog 99 #[] w fun e w' => e = .returned (.slice (some ⟨w.heap.size, 0, none⟩) 64 64) ∧ (∀ i, i < 64 → w'.cell? ⟨w.heap.size, i, none⟩ = some (.int .u32 (kConst.getD i 0))) ∧ Below w.heap.size w w' := by
 go_enter Tryd.func99, Tryd.ntmps99
 go_wp2_with fail
 go_ret
 refine ⟨rfl, fun i hi => ?_, below_alloc (Below.refl _ _) _⟩
 rw [blk_cell (blk_new w _) i]
 show ((nums .u32 kConst).toArray)[i]? = _
 have hl : kConst.length = 64 := rfl
 simp [nums, hl, hi]
theorem start.calls (w : World) : Calls Tryd.prog 100 #[] w fun e w' => e = .returned (stV firstI) ∧ Below w.heap.size w w' := by
 have hu := Tryd.underlying149
 go_enter Tryd.func100, Tryd.ntmps100
 go_wp2_with fail
 refine bodyPost_ret (v := stV firstI) ?_ rfl ⟨rfl, ?_⟩
 ·
  simp [results, Tryd.results100, go_sem, firstI]
 ·
  repeat (with_reducible first | exact Below.refl _ _ | apply below_alloc | refine below_set ?_ (Nat.le_refl _))
/-- What comes of a state by a text's first n blocks. -/
def chainI (s : S8) (t : ByteArray) : Nat → S8
 | 0 => s
 | n + 1 => nextI (chainI s t n) (t.extract (64 * n) (64 * n + 64))
/-- The reference's digest. -/
def refSumI (t : ByteArray) : ByteArray := digestI (chainI firstI (t ++ padI t.size) ((t ++ padI t.size).size / 64))
theorem nextI_ok (s : S8) (b : ByteArray) : (nextI s b).Ok := S8.Ok.add _ _
theorem firstI_ok : firstI.Ok := by constructor <;> decide
theorem chainI_ok (t : ByteArray) : ∀ n, (chainI firstI t n).Ok
 | 0 => firstI_ok
 | _ + 1 => nextI_ok _ _
theorem S8.Ok.get {s : S8} (h : s.Ok) (i : Nat) : 0 ≤ s.get i ∧ s.get i < 4294967296 := by
 match i with
 | 0 => exact h.h0
 | 1 => exact h.h1
 | 2 => exact h.h2
 | 3 => exact h.h3
 | 4 => exact h.h4
 | 5 => exact h.h5
 | 6 => exact h.h6
 | n + 7 => exact h.h7
set_option maxRecDepth 100000 in
set_option maxHeartbeats 8000000 in
theorem refsum.calls (t : ByteArray) (w : World) (ht : t.size ≤ 1000000000) :
  Calls Tryd.prog 80 #[.string t] w fun e w' => e = .returned (.string (refSumI t)) ∧ Below w.heap.size w w' := by
 have hu := Tryd.underlying149
 obtain ⟨i0, hi, hz0, hz1, hz2⟩ := info_parts byteInfo
 obtain ⟨kp, hkp⟩ := (refPad (t.size : Int) (by omega) (by omega)).rounds
 have e1 : IntKind.u64.wrap (t.size : Int) = (t.size : Int) := by rw [IntKind.wrap_u64]; omega
 have HKP := Aside0.mk hkp
 have hps : (padI (t.size : Int)).size ≤ 72 := by rw [padI_size]; unfold padZ; omega
 have hcat : t.size + (padI (t.size : Int)).size ≤ 9223372036854775807 := by omega
 clear hkp
 go_enter Tryd.func80, Tryd.ntmps80
 go_wp2_with fail
 refine (paymasterref05_Padding.calls kp _ _ _ HKP.out).mono ?_
 rintro e w1 ⟨rfl, hB1⟩
 have HB1 := Aside0.mk hB1
 clear hB1 e1
 go_wp2_with fail
 refine (table.calls _).mono ?_
 rintro e w2 ⟨rfl, htb, hB2⟩
 have HT := Aside0.mk htb
 have HB2 := Aside0.mk (HB1.out.trans (hB2.mono HB1.out.size))
 have HTL := Aside0.mk (show w1.heap.size < w2.heap.size from cellAt_lt (htb 0 (by omega)))
 clear htb hB2
 go_wp2_with fail
 refine (start.calls _).mono ?_
 rintro e w3 ⟨rfl, hB3⟩
 have HB3 := Aside0.mk (HB2.out.trans (hB3.mono HB2.out.size))
 have HB23 := Aside0.mk hB3
 clear hB3
 have hf1 : firstI = ⟨firstI.x0, firstI.x1, firstI.x2, firstI.x3, firstI.x4, firstI.x5, firstI.x6, firstI.x7⟩ := rfl
 go_wp2_with fail
 clear hf1
 obtain ⟨al, hal⟩ : ∃ al, al = t ++ padI (t.size : Int) := ⟨_, rfl⟩
 have has : al.size = t.size + (padI (t.size : Int)).size := by rw [hal]; exact ByteArray.size_append
 have has2 : al.size ≤ 1000000072 := by omega
 rw [← hal]
 have HAL := Aside0.mk hal
 have HTab := Aside0.mk (show ∀ W, Below w3.heap.size w3 W → ∀ i, i < 64 → W.cell? ⟨w1.heap.size, i, none⟩ = some (.int .u32 (kConst.getD i 0)) from fun W hW i hi =>
  pw_cell_below hW (pw_cell_below HB23.out (HT.out i hi)))
 have HN3 := Aside0.mk (show w.heap.size ≤ w3.heap.size from HB3.out.size)
 clear hal has hcat hps
 go_loopw [6] (fun v wr => ∃ k : Nat, v = .int .i64 (64 * (k : Int)) ∧ k ≤ al.size / 64 ∧ Aside0 (wr.heap[w3.heap.size]? = some (.cells (stA (chainI firstI al k)) 149 (0, 0))) ∧ Aside0 (Below w3.heap.size w3 wr)) (fun v _ => al.size - (intOf v).toNat)
 case atStart => exact ⟨0, rfl, by omega, ⟨blk_new w3 _⟩, ⟨below_alloc (Below.refl _ _) _⟩⟩
 case round =>
  obtain ⟨k, rfl, hk, HC, HB⟩ := hrel
  by_cases hlt : k < al.size / 64
  ·
   have b1 : decide (64 * (k : Int) + 64 ≤ (al.size : Int)) = true := decide_eq_true (by omega)
   have g1 : 64 * (k : Int) + 64 ≤ (al.size : Int) := by omega
   obtain ⟨c0, c1, c2, c3, c4, c5, c6, c7⟩ := st_cells HC.out
   have hok := chainI_ok al k
   have hbs : (al.extract (64 * k) (64 * k + 64)).size = 64 := by rw [ByteArray.size_extract]; omega
   have hsl : ∀ wx, (Instr.slice 9 (.string al) (some (.int .i64 (64 * (k : Int)))) (some (.int .i64 (64 * (k : Int) + 64))) none).run Tryd.prog wx = .ok (.string (al.extract (64 * k) (64 * k + 64))) wx := fun wx => by
    rw [run_slice_string wx 9 al .i64 .i64 (64 * (k : Int)) (64 * (k : Int) + 64) Tryd.underlying9 (by omega) (by omega) g1]
    congr 3
   have hk1 : chainI firstI al (k + 1) = nextI (chainI firstI al k) (al.extract (64 * k) (64 * k + 64)) := rfl
   have HK1 := Aside0.mk hk1
   have HOK := Aside0.mk hok
   have HBS := Aside0.mk hbs
   generalize al.extract (64 * k) (64 * k + 64) = bb at hsl HK1 HBS
   have e1 : IntKind.i64.wrap (64 * (k : Int) + 64) = 64 * (k : Int) + 64 := IntWalk.i64_in _ (by omega)
   have hd : ∀ a, ({ wr with drawn := wr.drawn + 1 } : World).cell? a = wr.cell? a := fun _ => rfl
   clear hk1 hok hbs
   go_wp2_with fail
   go_still_tail 7, (by kernel_rfl)
   change wpList _ _ _ _ _ wr.drew
   clear hsl e1 hd c0 c1 c2 c3 c4 c5 c6 c7
   go_wp2_with fail
   refine (quick.calls (chainI firstI al k) bb HOK.out HBS.out w1.heap.size wr.drew (HTab.out _ (below_drew HB.out))).mono ?_
   rintro e w4 ⟨rfl, hB4⟩
   have hC4 := blk_below (blk_drew HC.out) hB4
   obtain ⟨c0, c1, c2, c3, c4, c5, c6, c7⟩ := st_cells hC4
   have hf : ∀ i, w4.frozen? ⟨w3.heap.size, i, none⟩ = false := fun i => blk_frozen hC4 i
   have HC4 := Aside0.mk hC4
   have HB4 := Aside0.mk (HB.out.trans ((Below.drew (Below.refl _ _)).trans (hB4.mono HB.out.size)))
   rw [← HK1.out]
   obtain ⟨y, hy⟩ : ∃ y, y = chainI firstI al (k + 1) := ⟨_, rfl⟩
   rw [← hy]
   have HY := Aside0.mk hy
   clear hy
   clear hC4 hB4
   go_wp2_with fail
   go_roundw
   case rel =>
    refine ⟨k + 1, by go_num, by omega, ⟨?_⟩, ⟨?_⟩⟩
    ·
     rw [← HY.out]
     exact st_put8 HC4.out y
    ·
     repeat (with_reducible first | exact HB4.out | refine below_set ?_ (Nat.le_refl _))
   case measure => simp [intOf]; omega
  ·
   have b1 : decide (64 * (k : Int) + 64 ≤ (al.size : Int)) = false := decide_eq_false (by omega)
   have ek : k = al.size / 64 := by omega
   obtain ⟨y, hy⟩ : ∃ y, y = chainI firstI al (al.size / 64) := ⟨_, rfl⟩
   have hyk : y.Ok := by rw [hy]; exact chainI_ok _ _
   have HC2 := HC
   rw [ek, ← hy] at HC2
   have HRS := Aside0.mk (show refSumI t = digestI y by rw [refSumI, ← HAL.out, ← hy])
   have HYK := Aside0.mk hyk
   have e1 : IntKind.i64.wrap (64 * (k : Int) + 64) = 64 * (k : Int) + 64 := IntWalk.i64_in _ (by omega)
   clear ek hy hyk HC
   go_wp2_with fail
   clear b1 e1
   go_loopw [8, 7] (fun v u wr2 => ∃ j : Nat, v = .int .i64 j ∧ j ≤ 8 ∧ Aside0 (wr2.ownsRow (w3.heap.size + 1) 5 1 u (4 * j) (nums .u8 (digL y j))) ∧ Aside0 (wr2.heap[w3.heap.size]? = some (.cells (stA y) 149 (0, 0))) ∧ Aside0 (Below w3.heap.size w3 wr2)) (fun v _ _ => 8 - (intOf v).toNat)
   case atStart => exact ⟨0, rfl, by omega, ⟨⟨rfl, .inl ⟨rfl, rfl⟩⟩⟩, HC2, HB⟩
   case round =>
    clear HC2 HB
    obtain ⟨j, rfl, hj, HO, HC, HB⟩ := hrel
    by_cases hlt2 : j < 8
    ·
     have b1 : decide ((j : Int) < 8) = true := decide_eq_true (by omega)
     have g1 : (j : Int) < 8 := by omega
     obtain ⟨x, hx⟩ : ∃ x, x = y.get j := ⟨_, rfl⟩
     have hxr : 0 ≤ x ∧ x < 4294967296 := by rw [hx]; exact HYK.out.get j
     have hcx : wr.cell? ⟨w3.heap.size, j, none⟩ = some (.int .u32 x) := by
      rw [blk_cell HC.out, stA_get _ _ hlt2, hx]
     have HX := Aside0.mk hx
     obtain ⟨x0, x1⟩ := hxr
     have t1 : Int.tdiv x 16777216 = x / 16777216 := Int.tdiv_eq_ediv_of_nonneg x0
     clear hx
     have hl0 := HO.out.1
     have hlt3 : w3.heap.size < wr.heap.size := blk_lt HC.out
     have hwl : wordL x = [x / 16777216, x / 65536 % 256, x / 256 % 256, x % 256] := by simp only [wordL]; congr 1; omega
     go_wp2_with (at_builtin; refine wpList_append_own _ rfl _ _ 56 rfl (w3.heap.size + 1) 5 i0 (.int .u8 0) 1 1 Tryd.underlying56 hi hz0 hz1 hz2 rfl (by decide) _ _ _ rfl (HO.out.alloc _) ⟨wr.heap.size, 0, none⟩ 4 4 (nums .u8 [x / 16777216, x / 65536 % 256, x / 256 % 256, x % 256]) rfl rfl ?c1 ?c2 ?c3 ?c4 ?c5 ?_)
     case c1 =>
      intro j u hj
      match j, hj with
      | 0, hj => simp [nums] at hj; subst hj; simp [Addr.add]
      | 1, hj => simp [nums] at hj; subst hj; simp [Addr.add]
      | 2, hj => simp [nums] at hj; subst hj; simp [Addr.add]
      | 3, hj => simp [nums] at hj; subst hj; simp [Addr.add]
     case c2 => intro u hu; simp [nums] at hu; rcases hu with hu | hu | hu | hu <;> subst hu <;> rfl
     case c3 => unfold maxLen; omega
     case c4 => omega
     case c5 => simp; omega
     intro v' w4 hown' hgrow _
     rw [← hwl] at hown'
     have HO2 := Aside0.mk hown'
     have hC4 : w4.heap[w3.heap.size]? = some (.cells (stA y) 149 (0, 0)) := (hgrow.block _ (by simp; omega) (fun e => by have := (HO.out.lt _ e.symm).1; omega)).trans (blk_alloc HC.out _)
     have HC4 := Aside0.mk hC4
     have HB4 := Aside0.mk ((HB.out.alloc HB.out.size _).grown hgrow (by have := HB.out.size; simp; omega) (fun k hk => by have := (HO.out.lt k hk).1; omega))
     clear hown' hgrow hwl hC4 t1 hcx
     go_wp2_with fail
     go_roundw
     case rel =>
      refine ⟨j + 1, by go_num, by omega, ⟨?_⟩, HC4, HB4⟩
      rw [digL_succ, ← HX.out, nums_append]
      exact HO2.out
     case measure => simp [intOf]; omega
    ·
     have b1 : decide ((j : Int) < 8) = false := decide_eq_false (by omega)
     obtain rfl : j = 8 := by omega
     have hown := HO.out
     obtain ⟨hl, h2⟩ := hown
     rcases h2 with ⟨_, h0⟩ | ⟨g, cap, cur, rfl, e2, e3, e4, e5, e6, e7⟩
     ·
      omega
     have hcv := run_convert_bytes_arg wr 56 5 Tryd.underlying56 Tryd.underlying5 g 0 32 cap (digL y 8) (digL_length y 8) (fun i hi => by
      have h1 : (cur.toList.take (4 * 8 * 1))[i]? = some (.int .u8 ((digL y 8).getD i 0)) := by
       rw [e7]; simp [nums, digL_length, hi]
      rw [List.getElem?_take_of_lt (by omega)] at h1
      rw [Nat.zero_add, blk_cell e3 i]
      simpa using h1) 9 Tryd.underlying9
     have HB2 := HB
     clear HO e3 e7 HB
     go_wp2_with fail
     go_ret
     rw [HRS.out]
     exact ⟨rfl, HB3.out.trans (HB2.out.mono HN3.out)⟩
end Go.Proofs.YtlmmpncdemblbaaDoor.P
namespace Go.Proofs.YtlmmpncdemblbaaDoor.P
open Go.RowKit Go.Proofs.YtlmmpncdemblbaaDoorW.PrintWords Go.Proofs.YtlmmpncdemblbaaDoorW.PrintLast Go.Proofs.YtlmmpncdemblbaaDoorW.PrintMore
set_option linter.unusedVariables false
set_option linter.unusedSimpArgs false
set_option linter.unnecessarySimpa false
/-! The contracts of layer 5 in the form that the print takes. -/
def sha_Sum.f (a0 : ByteArray) : Option ByteArray := if a0.size ≤ 4611686018427387904 then some (sumI a0) else none
theorem sha_Sum.calls (a0 : ByteArray) (r : ByteArray) (w : World) (hK : Laid w) (h : sha_Sum.f a0 = some r) :
  Calls Tryd.prog 75 #[.string a0] w fun e w' => e = .returned (.string r) ∧ Below w.heap.size w w' := by
 unfold sha_Sum.f at h
 split at h
 ·
  cases h; exact sum.calls a0 w hK (by assumption)
 ·
  cases h
def ref05_Sum.f (a0 : ByteArray) : Option ByteArray := if a0.size ≤ 1000000000 then some (refSumI a0) else none
theorem ref05_Sum.calls (a0 : ByteArray) (r : ByteArray) (w : World) (h : ref05_Sum.f a0 = some r) :
  Calls Tryd.prog 80 #[.string a0] w fun e w' => e = .returned (.string r) ∧ Below w.heap.size w w' := by
 unfold ref05_Sum.f at h
 split at h
 ·
  cases h; exact refsum.calls a0 w (by assumption)
 ·
  cases h
end Go.Proofs.YtlmmpncdemblbaaDoor.P
namespace Go.Proofs.YtlmmpncdemblbaaDoor.P
open Go.RowKit Go.Proofs.YtlmmpncdemblbaaDoorW.PrintWords Go.Proofs.YtlmmpncdemblbaaDoorW.PrintLast Go.Proofs.YtlmmpncdemblbaaDoorW.PrintMore
attribute [local go_sem] max2_int min2_int max_two min_two max_three min_three max_four min_four-- for this text's walks alone
set_option linter.unusedVariables false
set_option linter.unusedSimpArgs false
/-! ### paymasterref07_Digest: function 47 -/
def paymasterref07_Digest.f (a0 : Int) (a1 : ByteArray) : Option (ByteArray) := (paymasterref07_MayWidth.f a0).bind fun t104 => (if t104 = true then ((ref05_Sum.f a1).bind fun t105 => (if 0 ≤ a0 then (if a0 ≤ (t105.size : Int) then (some (t105.extract 0 (a0 : Int).toNat)) else (none)) else (none))) else (some (⟨#[]⟩ : ByteArray)))
set_option maxHeartbeats 8000000 in
set_option maxRecDepth 100000 in
theorem paymasterref07_Digest.calls (a0 : Int) (a1 : ByteArray) (r : ByteArray) (w : World) (h : paymasterref07_Digest.f a0 a1 = some r) :
  Calls Tryd.prog 47 #[.int .i64 a0, .string a1] w fun e w' => e = .returned (.string r) ∧ Below w.heap.size w w' := by
 have HB := Aside0.mk (Below.refl w.heap.size w)
 have H : ((paymasterref07_MayWidth.f a0).bind fun t104 => (if t104 = true then ((ref05_Sum.f a1).bind fun t105 => (if 0 ≤ a0 then (if a0 ≤ (t105.size : Int) then (some (t105.extract 0 (a0 : Int).toNat)) else (none)) else (none))) else (some (⟨#[]⟩ : ByteArray)))) = some r := h
 clear h
 replace H := Option.bind_eq_some_iff.mp H
 obtain ⟨t104, A30, H⟩ := H
 replace H : (if t104 = true then ((ref05_Sum.f a1).bind fun t105 => (if 0 ≤ a0 then (if a0 ≤ (t105.size : Int) then (some (t105.extract 0 (a0 : Int).toNat)) else (none)) else (none))) else (some (⟨#[]⟩ : ByteArray))) = some r := H
 have A3 := Aside0.mk A30
 clear A30
 by_cases c4 : t104 = true
 ·
  subst c4
  have H1 : ((ref05_Sum.f a1).bind fun t105 => (if 0 ≤ a0 then (if a0 ≤ (t105.size : Int) then (some (t105.extract 0 (a0 : Int).toNat)) else (none)) else (none))) = some r := by rw [if_pos rfl] at H; exact H
  clear H
  have H := H1
  clear H1
  replace H := Option.bind_eq_some_iff.mp H
  obtain ⟨t105, A50, H⟩ := H
  replace H : (if 0 ≤ a0 then (if a0 ≤ (t105.size : Int) then (some (t105.extract 0 (a0 : Int).toNat)) else (none)) else (none)) = some r := H
  have A5 := Aside0.mk A50
  clear A50
  by_cases c6 : 0 ≤ a0
  ·
   rw [if_pos c6] at H
   have c6b0 := eq_true c6
   have c6b1 : decide (0 ≤ a0) = true := decide_eq_true c6
   clear c6
   by_cases c7 : a0 ≤ (t105.size : Int)
   ·
    rw [if_pos c7] at H
    have c7b0 := eq_true c7
    have c7b1 : decide (a0 ≤ (t105.size : Int)) = true := decide_eq_true c7
    clear c7
    obtain rfl := Option.some.inj H
    go_enter Tryd.func47, Tryd.ntmps47
    go_wp2_with (first | ((with_reducible refine gate_callee (f := 79) rfl ?_); refine goesL_ (some 6) rfl rfl Tryd.func79 (by kernel_rfl) rfl #[.int .i64 a0] rfl (by (try simp only [List.map_toArray, List.map_cons, List.map_nil]); first | done | rfl | (simp only [List.length_drop, List.length_take]; rfl)) ?_; (with_reducible refine (paymasterref07_MayWidth.calls a0 true _ A3.out).mono ?_); rintro e w' ⟨rfl, ⟨nd, rfl⟩⟩; refine ⟨_, rfl, ?_⟩) | ((with_reducible refine gate_callee (f := 80) rfl ?_); refine goesL_ (some 9) rfl rfl Tryd.func80 (by kernel_rfl) rfl #[.string a1] rfl (by (try simp only [List.map_toArray, List.map_cons, List.map_nil]); first | done | rfl | (simp only [List.length_drop, List.length_take]; rfl)) ?_; (with_reducible refine (ref05_Sum.calls a1 t105 _ A5.out).mono ?_); rintro e w8 ⟨rfl, hb⟩; refine ⟨_, rfl, ?_⟩; have n0_ := Aside0.mk (below_step (by repeat (first | (with_reducible first | exact HB.out | apply below_alloc | apply pw_below_drewN | apply below_drew1) | exact HB.out)) hb); clear HB; have HB := n0_; clear n0_; (try clear hb); (try clear hb2); (try clear hk); (try clear hi)))
    go_ret
    exact ⟨by first | rfl | (simp [errW_none, errW_some] <;> rfl) | (simp [*, errW_none, errW_some] <;> rfl), by repeat (first | (with_reducible first | exact HB.out | apply below_alloc | apply pw_below_drewN | apply below_drew1) | exact HB.out)⟩
   ·
    rw [if_neg c7] at H
    exact absurd H (by simp)
  ·
   rw [if_neg c6] at H
   exact absurd H (by simp)
 ·
  replace c4 := Bool.eq_false_iff.mpr c4
  subst c4
  have H1 : (some (⟨#[]⟩ : ByteArray)) = some r := by rw [if_neg (show ¬ (false = true) by decide)] at H; exact H
  clear H
  have H := H1
  clear H1
  obtain rfl := Option.some.inj H
  go_enter Tryd.func47, Tryd.ntmps47
  go_wp2_with (first | ((with_reducible refine gate_callee (f := 79) rfl ?_); refine goesL_ (some 6) rfl rfl Tryd.func79 (by kernel_rfl) rfl #[.int .i64 a0] rfl (by (try simp only [List.map_toArray, List.map_cons, List.map_nil]); first | done | rfl | (simp only [List.length_drop, List.length_take]; rfl)) ?_; (with_reducible refine (paymasterref07_MayWidth.calls a0 false _ A3.out).mono ?_); rintro e w' ⟨rfl, ⟨nd, rfl⟩⟩; refine ⟨_, rfl, ?_⟩))
  go_ret
  exact ⟨by first | rfl | (simp [errW_none, errW_some] <;> rfl) | (simp [*, errW_none, errW_some] <;> rfl), by repeat (first | (with_reducible first | exact HB.out | apply below_alloc | apply pw_below_drewN | apply below_drew1) | exact HB.out)⟩
/-! ### paymasterref14_Join: function 38 -/
def paymasterref14_Join.j0 : Nat → Int → Bool → ByteArray → Int → Int → ByteArray → Int → Int → Option (ByteArray × Int × Int × Int)
 | 0, _, _, _, _, _, _, _, _ => none
 | k + 1, x0, x19, x157000, x157001, x157002, x158000, x158001, x158002 => if x19 = true then (some ((⟨#[]⟩ : ByteArray), 0, 0, 70)) else ((paymasterref01_Add.f k x157001 x157002 x158001 x158002).bind fun bt161 => (if bt161.2.2 = 0 then ((paymasterref07_NodeText.f k x157000 x157001 x157002 x158000 x158001 x158002).bind fun t165 => ((paymasterref07_Digest.f x0 t165).bind fun t166 => (some (t166, bt161.1, bt161.2.1, 0)))) else (some ((⟨#[]⟩ : ByteArray), 0, 0, 10))))
def paymasterref14_Join.f (k : Nat) (a0 : Int) (a1_0 : ByteArray) (a1_1 : Int) (a1_2 : Int) (a2_0 : ByteArray) (a2_1 : Int) (a2_2 : Int) : Option (ByteArray × Int × Int × Int) := (paymasterref14_Of.f a0 a1_0 a1_1 a1_2).bind fun t159 => (if t159 = true then ((paymasterref14_Of.f a0 a2_0 a2_1 a2_2).bind fun t160 => (paymasterref14_Join.j0 k a0 (!t160) a1_0 a1_1 a1_2 a2_0 a2_1 a2_2)) else (paymasterref14_Join.j0 k a0 true a1_0 a1_1 a1_2 a2_0 a2_1 a2_2))
def paymasterref14_Join.T6 : Bool × List (List Nat × List Nat) := (true, [([], []), ([], []), ([], []), ([1, 2], [1, 2]), ([0, 3, 3], [0, 3]), ([], []), ([4, 5], [4, 5]), ([6, 4, 0, 1, 2, 3, 4, 5, 6], [6]), ([7, 0, 1, 2, 3, 4, 5, 6, 7], [])])
def paymasterref14_Join.B6 : List Nat := [0, 0, 0, 6, 15, 0, 63, 127, 255]
theorem paymasterref14_Join.tab6 : rtab .any (opsOf Tryd.f38 6) = paymasterref14_Join.T6 := by kernel_rfl
theorem paymasterref14_Join.bits6 : waitsOk paymasterref14_Join.T6.2 paymasterref14_Join.B6 = true := by kernel_rfl
set_option maxHeartbeats 8000000 in
set_option maxRecDepth 100000 in
theorem paymasterref14_Join.calls (k : Nat) (a0 : Int) (a1_0 : ByteArray) (a1_1 : Int) (a1_2 : Int) (a2_0 : ByteArray) (a2_1 : Int) (a2_2 : Int) (r1 : ByteArray) (r2 : Int) (r3 : Int) (r4 : Int) (w : World) (h : paymasterref14_Join.f k a0 a1_0 a1_1 a1_2 a2_0 a2_1 a2_2 = some (r1, r2, r3, r4)) :
  Calls Tryd.prog 38 #[.int .i64 a0, .agg #[.string a1_0, .int .u64 a1_1, .int .u64 a1_2], .agg #[.string a2_0, .int .u64 a2_1, .int .u64 a2_2]] w fun e w' => e = .returned (.tuple #[.agg #[.string r1, .int .u64 r2, .int .u64 r3], .int .i64 r4]) ∧ Below w.heap.size w w' := by
 have hu26 := Tryd.underlying26
 have hu24 := Tryd.underlying24
 have HB := Aside0.mk (Below.refl w.heap.size w)
 have H : ((paymasterref14_Of.f a0 a1_0 a1_1 a1_2).bind fun t159 => (if t159 = true then ((paymasterref14_Of.f a0 a2_0 a2_1 a2_2).bind fun t160 => (paymasterref14_Join.j0 k a0 (!t160) a1_0 a1_1 a1_2 a2_0 a2_1 a2_2)) else (paymasterref14_Join.j0 k a0 true a1_0 a1_1 a1_2 a2_0 a2_1 a2_2))) = some (r1, r2, r3, r4) := h
 clear h
 have HC4 := Aside0.mk H
 clear H
 go_enter Tryd.func38, Tryd.ntmps38
 go_upto_region 1 with (first | ((with_reducible refine gate_dst (N := 4) rfl ?_); refine box_event ?hg (N := 4) ?hd (cs := #[.string a1_0, .int .u64 a1_1, .int .u64 a1_2]) (t := 26) ?hr ?_; (case hd => rfl); (case hg => rfl); (case hr => first | (go_simp; done) | (go_simp; rfl)); intro gb156 hg w5 hbox hb; have n0_ := Aside0.mk (below_step (by repeat (first | (with_reducible first | exact HB.out | apply below_alloc | apply pw_below_drewN | apply below_drew1) | exact HB.out)) hb); have n1_ := Aside0.mk (hbox); have n2_ := Aside0.mk ((by rw [hg]; exact (below_size (by repeat (first | (with_reducible first | exact HB.out | apply below_alloc | apply pw_below_drewN | apply below_drew1) | exact HB.out))) : w.heap.size ≤ gb156)); have n3_ := Aside0.mk ((by rw [hg]; exact (below_size (by repeat (first | (with_reducible first | exact HB.out | apply below_alloc | apply pw_below_drewN | apply below_drew1) | exact HB.out))) : w.heap.size ≤ gb156)); clear HB; have HB := n0_; have BK156 := n1_; have GW156 := n2_; have GE156 := n3_; clear n0_ n1_ n2_ n3_; clear hb hbox hg) | ((with_reducible refine gate_dst (N := 5) rfl ?_); refine box_event ?hg (N := 5) ?hd (cs := #[.string a2_0, .int .u64 a2_1, .int .u64 a2_2]) (t := 26) ?hr ?_; (case hd => rfl); (case hg => rfl); (case hr => first | (go_simp; done) | (go_simp; rfl)); intro gb157 hg w6 hbox hb; have n0_ := Aside0.mk (blk_below (g := gb156) (o := .cells #[.string a1_0, .int .u64 a1_1, .int .u64 a1_2] 26 (0, 0)) (by (with_reducible repeat (first | refine blk_drewN ?_ _ | refine blk_drew ?_ | refine blk_alloc ?_ _)); exact BK156.out) hb); have n1_ := Aside0.mk (below_step (by repeat (first | (with_reducible first | exact HB.out | apply below_alloc | apply pw_below_drewN | apply below_drew1 | refine below_set ?_ GE156.out) | exact HB.out)) hb); have n2_ := Aside0.mk (hbox); have n3_ := Aside0.mk ((by rw [hg]; exact (below_size (by repeat (first | (with_reducible first | exact HB.out | apply below_alloc | apply pw_below_drewN | apply below_drew1 | refine below_set ?_ GE156.out) | exact HB.out))) : w.heap.size ≤ gb157)); have n4_ := Aside0.mk ((by rw [hg]; exact (below_size (by repeat (first | (with_reducible first | exact HB.out | apply below_alloc | apply pw_below_drewN | apply below_drew1 | refine below_set ?_ GE156.out) | exact HB.out))) : w.heap.size ≤ gb157)); have n5_ := Aside0.mk ((by rw [hg]; exact Nat.ne_of_lt (blk_lt (g := gb156) (o := .cells #[.string a1_0, .int .u64 a1_1, .int .u64 a1_2] 26 (0, 0)) (by (with_reducible repeat (first | refine blk_drewN ?_ _ | refine blk_drew ?_ | refine blk_alloc ?_ _)); exact BK156.out)) : gb156 ≠ gb157)); have n6_ := Aside0.mk ((by rw [hg]; exact Nat.ne_of_gt (blk_lt (g := gb156) (o := .cells #[.string a1_0, .int .u64 a1_1, .int .u64 a1_2] 26 (0, 0)) (by (with_reducible repeat (first | refine blk_drewN ?_ _ | refine blk_drew ?_ | refine blk_alloc ?_ _)); exact BK156.out)) : gb157 ≠ gb156)); clear BK156; clear HB; have BK156 := n0_; have HB := n1_; have BK157 := n2_; have GW157 := n3_; have GE157 := n4_; have NB156_157 := n5_; have NB157_156 := n6_; clear n0_ n1_ n2_ n3_ n4_ n5_ n6_; clear hb hbox hg) | ((with_reducible refine gate_dst (N := 6) rfl ?_); refine box_event ?hg (N := 6) ?hd (cs := #[.string (⟨#[]⟩ : ByteArray), .int .u64 0, .int .u64 0]) (t := 26) ?hr ?_; (case hd => rfl); (case hg => rfl); (case hr => first | (go_simp; done) | (go_simp; rfl)); intro gb158 hg w7 hbox hb; have n0_ := Aside0.mk (blk_below (g := gb156) (o := .cells #[.string a1_0, .int .u64 a1_1, .int .u64 a1_2] 26 (0, 0)) (by (with_reducible repeat (first | refine blk_drewN ?_ _ | refine blk_drew ?_ | refine blk_alloc ?_ _)); exact BK156.out) hb); have n1_ := Aside0.mk (blk_below (g := gb157) (o := .cells #[.string a2_0, .int .u64 a2_1, .int .u64 a2_2] 26 (0, 0)) (by (with_reducible repeat (first | refine blk_drewN ?_ _ | refine blk_drew ?_ | refine blk_alloc ?_ _)); exact BK157.out) hb); have n2_ := Aside0.mk (below_step (by repeat (first | (with_reducible first | exact HB.out | apply below_alloc | apply pw_below_drewN | apply below_drew1 | refine below_set ?_ GE156.out | refine below_set ?_ GE157.out) | exact HB.out)) hb); have n3_ := Aside0.mk (hbox); have n4_ := Aside0.mk ((by rw [hg]; exact (below_size (by repeat (first | (with_reducible first | exact HB.out | apply below_alloc | apply pw_below_drewN | apply below_drew1 | refine below_set ?_ GE156.out | refine below_set ?_ GE157.out) | exact HB.out))) : w.heap.size ≤ gb158)); have n5_ := Aside0.mk ((by rw [hg]; exact (below_size (by repeat (first | (with_reducible first | exact HB.out | apply below_alloc | apply pw_below_drewN | apply below_drew1 | refine below_set ?_ GE156.out | refine below_set ?_ GE157.out) | exact HB.out))) : w.heap.size ≤ gb158)); have n6_ := Aside0.mk ((by rw [hg]; exact Nat.ne_of_lt (blk_lt (g := gb156) (o := .cells #[.string a1_0, .int .u64 a1_1, .int .u64 a1_2] 26 (0, 0)) (by (with_reducible repeat (first | refine blk_drewN ?_ _ | refine blk_drew ?_ | refine blk_alloc ?_ _)); exact BK156.out)) : gb156 ≠ gb158)); have n7_ := Aside0.mk ((by rw [hg]; exact Nat.ne_of_gt (blk_lt (g := gb156) (o := .cells #[.string a1_0, .int .u64 a1_1, .int .u64 a1_2] 26 (0, 0)) (by (with_reducible repeat (first | refine blk_drewN ?_ _ | refine blk_drew ?_ | refine blk_alloc ?_ _)); exact BK156.out)) : gb158 ≠ gb156)); have n8_ := Aside0.mk ((by rw [hg]; exact Nat.ne_of_lt (blk_lt (g := gb157) (o := .cells #[.string a2_0, .int .u64 a2_1, .int .u64 a2_2] 26 (0, 0)) (by (with_reducible repeat (first | refine blk_drewN ?_ _ | refine blk_drew ?_ | refine blk_alloc ?_ _)); exact BK157.out)) : gb157 ≠ gb158)); have n9_ := Aside0.mk ((by rw [hg]; exact Nat.ne_of_gt (blk_lt (g := gb157) (o := .cells #[.string a2_0, .int .u64 a2_1, .int .u64 a2_2] 26 (0, 0)) (by (with_reducible repeat (first | refine blk_drewN ?_ _ | refine blk_drew ?_ | refine blk_alloc ?_ _)); exact BK157.out)) : gb158 ≠ gb157)); clear BK156; clear BK157; clear HB; have BK156 := n0_; have BK157 := n1_; have HB := n2_; have BK158 := n3_; have GW158 := n4_; have GE158 := n5_; have NB156_158 := n6_; have NB158_156 := n7_; have NB157_158 := n8_; have NB158_157 := n9_; clear n0_ n1_ n2_ n3_ n4_ n5_ n6_ n7_ n8_ n9_; clear hb hbox hg))
 (try simp only [Act.put, List.setIfInBounds_toArray, List.set_cons_zero, List.set_cons_succ])
 go_cut [19] (fun v19 wc => ∃ (kq : Nat) (x19_3 : Bool), v19 = .bool x19_3 ∧ Aside0 (paymasterref14_Join.j0 kq a0 x19_3 a1_0 a1_1 a1_2 a2_0 a2_1 a2_2 = some (r1, r2, r3, r4)) ∧ Aside0 (kq ≤ k) ∧ Aside0 (wc.heap[gb156]? = some (.cells #[.string a1_0, .int .u64 a1_1, .int .u64 a1_2] 26 (0, 0))) ∧ Aside0 (wc.heap[gb157]? = some (.cells #[.string a2_0, .int .u64 a2_1, .int .u64 a2_2] 26 (0, 0))) ∧ Aside0 (wc.heap[gb158]? = some (.cells #[.string (⟨#[]⟩ : ByteArray), .int .u64 0, .int .u64 0] 26 (0, 0))) ∧ Aside0 (Below w.heap.size w wc))
 case first =>
  have H := HC4.out
  clear HC4
  replace H := Option.bind_eq_some_iff.mp H
  obtain ⟨t159, A80, H⟩ := H
  replace H : (if t159 = true then ((paymasterref14_Of.f a0 a2_0 a2_1 a2_2).bind fun t160 => (paymasterref14_Join.j0 k a0 (!t160) a1_0 a1_1 a1_2 a2_0 a2_1 a2_2)) else (paymasterref14_Join.j0 k a0 true a1_0 a1_1 a1_2 a2_0 a2_1 a2_2)) = some (r1, r2, r3, r4) := H
  have A8 := Aside0.mk A80
  clear A80
  by_cases c9 : t159 = true
  ·
   subst c9
   have H1 : ((paymasterref14_Of.f a0 a2_0 a2_1 a2_2).bind fun t160 => (paymasterref14_Join.j0 k a0 (!t160) a1_0 a1_1 a1_2 a2_0 a2_1 a2_2)) = some (r1, r2, r3, r4) := by rw [if_pos rfl] at H; exact H
   clear H
   have H := H1
   clear H1
   replace H := Option.bind_eq_some_iff.mp H
   obtain ⟨t160, A100, H⟩ := H
   replace H : (paymasterref14_Join.j0 k a0 (!t160) a1_0 a1_1 a1_2 a2_0 a2_1 a2_2) = some (r1, r2, r3, r4) := H
   have A10 := Aside0.mk A100
   clear A100
   have H' := Aside0.mk H
   clear H
   have hnb11 := NB156_157.out
   have hnc11 := NB157_156.out
   have hnb12 := NB156_158.out
   have hnc12 := NB158_156.out
   have hcz13_0 : w7.cell? ⟨gb156, 0, none⟩ = some (.string a1_0) := (blk_cell BK156.out 0).trans rfl
   have hcz13_1 : w7.cell? ⟨gb156, 1, none⟩ = some (.int .u64 a1_1) := (blk_cell BK156.out 1).trans rfl
   have hcz13_2 : w7.cell? ⟨gb156, 2, none⟩ = some (.int .u64 a1_2) := (blk_cell BK156.out 2).trans rfl
   have hfz13_0 := blk_frozen BK156.out 0
   have hfz13_1 := blk_frozen BK156.out 1
   have hfz13_2 := blk_frozen BK156.out 2
   go_wp2_with (first | ((with_reducible refine gate_callee (f := 36) rfl ?_); refine goesL_ (some 12) rfl rfl Tryd.func36 (by kernel_rfl) rfl #[.int .i64 a0, .agg #[.string a1_0, .int .u64 a1_1, .int .u64 a1_2]] rfl (by (try simp only [List.map_toArray, List.map_cons, List.map_nil]); first | done | rfl | (simp only [List.length_drop, List.length_take]; rfl)) ?_; (with_reducible refine (paymasterref14_Of.calls a0 a1_0 a1_1 a1_2 true _ A8.out).mono ?_); rintro e w14 ⟨rfl, hb⟩; refine ⟨_, rfl, ?_⟩; have n0_ := Aside0.mk (blk_below (g := gb156) (o := .cells #[.string a1_0, .int .u64 a1_1, .int .u64 a1_2] 26 (0, 0)) (by (with_reducible repeat (first | refine blk_drewN ?_ _ | refine blk_drew ?_ | refine blk_alloc ?_ _)); exact BK156.out) hb); have n1_ := Aside0.mk (blk_below (g := gb157) (o := .cells #[.string a2_0, .int .u64 a2_1, .int .u64 a2_2] 26 (0, 0)) (by (with_reducible repeat (first | refine blk_drewN ?_ _ | refine blk_drew ?_ | refine blk_alloc ?_ _)); exact BK157.out) hb); have n2_ := Aside0.mk (blk_below (g := gb158) (o := .cells #[.string (⟨#[]⟩ : ByteArray), .int .u64 0, .int .u64 0] 26 (0, 0)) (by (with_reducible repeat (first | refine blk_drewN ?_ _ | refine blk_drew ?_ | refine blk_alloc ?_ _)); exact BK158.out) hb); have n3_ := Aside0.mk (below_step (by repeat (first | (with_reducible first | exact HB.out | apply below_alloc | apply pw_below_drewN | apply below_drew1 | refine below_set ?_ GE156.out | refine below_set ?_ GE157.out | refine below_set ?_ GE158.out) | exact HB.out)) hb); clear BK156; clear BK157; clear BK158; clear HB; have BK156 := n0_; have BK157 := n1_; have BK158 := n2_; have HB := n3_; clear n0_ n1_ n2_ n3_; (try clear hb); (try clear hb2); (try clear hk); (try clear hi); have hnb15 := NB157_158.out; have hnc15 := NB158_157.out; have hcz16_0 : w14.cell? ⟨gb157, 0, none⟩ = some (.string a2_0) := (blk_cell BK157.out 0).trans rfl; have hcz16_1 : w14.cell? ⟨gb157, 1, none⟩ = some (.int .u64 a2_1) := (blk_cell BK157.out 1).trans rfl; have hcz16_2 : w14.cell? ⟨gb157, 2, none⟩ = some (.int .u64 a2_2) := (blk_cell BK157.out 2).trans rfl; have hfz16_0 := blk_frozen BK157.out 0; have hfz16_1 := blk_frozen BK157.out 1; have hfz16_2 := blk_frozen BK157.out 2) | (go_at_call 36; (with_reducible refine (paymasterref14_Of.calls a0 a2_0 a2_1 a2_2 t160 _ A10.out).mono ?_); rintro e w17 ⟨rfl, hb⟩; have n0_ := Aside0.mk (blk_below (g := gb156) (o := .cells #[.string a1_0, .int .u64 a1_1, .int .u64 a1_2] 26 (0, 0)) (by (with_reducible repeat (first | refine blk_drewN ?_ _ | refine blk_drew ?_ | refine blk_alloc ?_ _)); exact BK156.out) hb); have n1_ := Aside0.mk (blk_below (g := gb157) (o := .cells #[.string a2_0, .int .u64 a2_1, .int .u64 a2_2] 26 (0, 0)) (by (with_reducible repeat (first | refine blk_drewN ?_ _ | refine blk_drew ?_ | refine blk_alloc ?_ _)); exact BK157.out) hb); have n2_ := Aside0.mk (blk_below (g := gb158) (o := .cells #[.string (⟨#[]⟩ : ByteArray), .int .u64 0, .int .u64 0] 26 (0, 0)) (by (with_reducible repeat (first | refine blk_drewN ?_ _ | refine blk_drew ?_ | refine blk_alloc ?_ _)); exact BK158.out) hb); have n3_ := Aside0.mk (below_step (by repeat (first | (with_reducible first | exact HB.out | apply below_alloc | apply pw_below_drewN | apply below_drew1 | refine below_set ?_ GE156.out | refine below_set ?_ GE157.out | refine below_set ?_ GE158.out) | exact HB.out)) hb); clear BK156; clear BK157; clear BK158; clear HB; have BK156 := n0_; have BK157 := n1_; have BK158 := n2_; have HB := n3_; clear n0_ n1_ n2_ n3_; (try clear hb); (try clear hb2); (try clear hk); (try clear hi)))
   go_meet
   case rel => exact ⟨_, (!t160), (by first | rfl | (simp; done) | (simp [*]; done)), H', ⟨by first | omega | exact Nat.le_refl _⟩, ⟨by (with_reducible repeat (first | refine blk_drewN ?_ _ | refine blk_drew ?_ | refine blk_alloc ?_ _)); exact BK156.out⟩, ⟨by (with_reducible repeat (first | refine blk_drewN ?_ _ | refine blk_drew ?_ | refine blk_alloc ?_ _)); exact BK157.out⟩, ⟨by (with_reducible repeat (first | refine blk_drewN ?_ _ | refine blk_drew ?_ | refine blk_alloc ?_ _)); exact BK158.out⟩, ⟨by repeat (first | (with_reducible first | exact HB.out | apply below_alloc | apply pw_below_drewN | apply below_drew1 | refine below_set ?_ GE156.out | refine below_set ?_ GE157.out | refine below_set ?_ GE158.out) | exact HB.out)⟩⟩
  ·
   replace c9 := Bool.eq_false_iff.mpr c9
   subst c9
   have H1 : (paymasterref14_Join.j0 k a0 true a1_0 a1_1 a1_2 a2_0 a2_1 a2_2) = some (r1, r2, r3, r4) := by rw [if_neg (show ¬ (false = true) by decide)] at H; exact H
   clear H
   have H := H1
   clear H1
   have H' := Aside0.mk H
   clear H
   have hnb18 := NB156_157.out
   have hnc18 := NB157_156.out
   have hnb19 := NB156_158.out
   have hnc19 := NB158_156.out
   have hcz20_0 : w7.cell? ⟨gb156, 0, none⟩ = some (.string a1_0) := (blk_cell BK156.out 0).trans rfl
   have hcz20_1 : w7.cell? ⟨gb156, 1, none⟩ = some (.int .u64 a1_1) := (blk_cell BK156.out 1).trans rfl
   have hcz20_2 : w7.cell? ⟨gb156, 2, none⟩ = some (.int .u64 a1_2) := (blk_cell BK156.out 2).trans rfl
   have hfz20_0 := blk_frozen BK156.out 0
   have hfz20_1 := blk_frozen BK156.out 1
   have hfz20_2 := blk_frozen BK156.out 2
   go_wp2_with (first | ((with_reducible refine gate_callee (f := 36) rfl ?_); refine goesL_ (some 12) rfl rfl Tryd.func36 (by kernel_rfl) rfl #[.int .i64 a0, .agg #[.string a1_0, .int .u64 a1_1, .int .u64 a1_2]] rfl (by (try simp only [List.map_toArray, List.map_cons, List.map_nil]); first | done | rfl | (simp only [List.length_drop, List.length_take]; rfl)) ?_; (with_reducible refine (paymasterref14_Of.calls a0 a1_0 a1_1 a1_2 false _ A8.out).mono ?_); rintro e w21 ⟨rfl, hb⟩; refine ⟨_, rfl, ?_⟩; have n0_ := Aside0.mk (blk_below (g := gb156) (o := .cells #[.string a1_0, .int .u64 a1_1, .int .u64 a1_2] 26 (0, 0)) (by (with_reducible repeat (first | refine blk_drewN ?_ _ | refine blk_drew ?_ | refine blk_alloc ?_ _)); exact BK156.out) hb); have n1_ := Aside0.mk (blk_below (g := gb157) (o := .cells #[.string a2_0, .int .u64 a2_1, .int .u64 a2_2] 26 (0, 0)) (by (with_reducible repeat (first | refine blk_drewN ?_ _ | refine blk_drew ?_ | refine blk_alloc ?_ _)); exact BK157.out) hb); have n2_ := Aside0.mk (blk_below (g := gb158) (o := .cells #[.string (⟨#[]⟩ : ByteArray), .int .u64 0, .int .u64 0] 26 (0, 0)) (by (with_reducible repeat (first | refine blk_drewN ?_ _ | refine blk_drew ?_ | refine blk_alloc ?_ _)); exact BK158.out) hb); have n3_ := Aside0.mk (below_step (by repeat (first | (with_reducible first | exact HB.out | apply below_alloc | apply pw_below_drewN | apply below_drew1 | refine below_set ?_ GE156.out | refine below_set ?_ GE157.out | refine below_set ?_ GE158.out) | exact HB.out)) hb); clear BK156; clear BK157; clear BK158; clear HB; have BK156 := n0_; have BK157 := n1_; have BK158 := n2_; have HB := n3_; clear n0_ n1_ n2_ n3_; (try clear hb); (try clear hb2); (try clear hk); (try clear hi)))
   go_meet
   case rel => exact ⟨_, (true), (by first | rfl | (simp; done) | (simp [*]; done)), H', ⟨by first | omega | exact Nat.le_refl _⟩, ⟨by (with_reducible repeat (first | refine blk_drewN ?_ _ | refine blk_drew ?_ | refine blk_alloc ?_ _)); exact BK156.out⟩, ⟨by (with_reducible repeat (first | refine blk_drewN ?_ _ | refine blk_drew ?_ | refine blk_alloc ?_ _)); exact BK157.out⟩, ⟨by (with_reducible repeat (first | refine blk_drewN ?_ _ | refine blk_drew ?_ | refine blk_alloc ?_ _)); exact BK158.out⟩, ⟨by repeat (first | (with_reducible first | exact HB.out | apply below_alloc | apply pw_below_drewN | apply below_drew1 | refine below_set ?_ GE156.out | refine below_set ?_ GE157.out | refine below_set ?_ GE158.out) | exact HB.out)⟩⟩
 case rest =>
  clear HC4
  try clear c1
  try clear p2
  try clear c3
  try clear c9
  try clear c11
  try clear c12
  try clear c15
  try clear c18
  try clear c19
  try clear hcz13_0
  try clear hcz13_1
  try clear hcz13_2
  try clear hcz16_0
  try clear hcz16_1
  try clear hcz16_2
  try clear hcz20_0
  try clear hcz20_1
  try clear hcz20_2
  try clear hfz13_0
  try clear hfz13_1
  try clear hfz13_2
  try clear hfz16_0
  try clear hfz16_1
  try clear hfz16_2
  try clear hfz20_0
  try clear hfz20_1
  try clear hfz20_2
  obtain ⟨kq, x19_3, rfl, HA, HJ3, BK156, BK157, BK158, HB⟩ := hcut
  cases kq with
  | zero => exact absurd HA.out (by simp [paymasterref14_Join.j0])
  | succ kj3 =>
   have H := HA.out
   clear HA
   simp only [paymasterref14_Join.j0] at H
   by_cases c22 : x19_3 = true
   ·
    subst c22
    have H1 : (some ((⟨#[]⟩ : ByteArray), 0, 0, 70)) = some (r1, r2, r3, r4) := by rw [if_pos rfl] at H; exact H
    clear H
    have H := H1
    clear H1
    simp only [Option.some.injEq, Prod.mk.injEq] at H
    obtain ⟨rfl, rfl, rfl, rfl⟩ := H
    have hnb23 := NB158_156.out
    have hnc23 := NB156_158.out
    have hnb24 := NB158_157.out
    have hnc24 := NB157_158.out
    have hcz25_0 : wc.cell? ⟨gb158, 0, none⟩ = some (.string (⟨#[]⟩ : ByteArray)) := (blk_cell BK158.out 0).trans rfl
    have hcz25_1 : wc.cell? ⟨gb158, 1, none⟩ = some (.int .u64 0) := (blk_cell BK158.out 1).trans rfl
    have hcz25_2 : wc.cell? ⟨gb158, 2, none⟩ = some (.int .u64 0) := (blk_cell BK158.out 2).trans rfl
    have hfz25_0 := blk_frozen BK158.out 0
    have hfz25_1 := blk_frozen BK158.out 1
    have hfz25_2 := blk_frozen BK158.out 2
    go_wp2
    refine bodyPost_ret (results_ct rfl _ _ gb158 26 #[.string (⟨#[]⟩ : ByteArray), .int .u64 0, .int .u64 0] (0, 0) _ rfl (by (with_reducible repeat (first | refine blk_drewN ?_ _ | refine blk_drew ?_ | refine blk_alloc ?_ _)); refine blk_put (cs := #[.string (⟨#[]⟩ : ByteArray), .int .u64 0, .int .u64 0]) ?_ 2 _ rfl; (with_reducible repeat (first | refine blk_drewN ?_ _ | refine blk_drew ?_ | refine blk_alloc ?_ _)); refine blk_put (cs := #[.string (⟨#[]⟩ : ByteArray), .int .u64 0, .int .u64 0]) ?_ 1 _ rfl; (with_reducible repeat (first | refine blk_drewN ?_ _ | refine blk_drew ?_ | refine blk_alloc ?_ _)); refine blk_put (cs := #[.string (⟨#[]⟩ : ByteArray), .int .u64 0, .int .u64 0]) ?_ 0 _ rfl; (with_reducible repeat (first | refine blk_drewN ?_ _ | refine blk_drew ?_ | refine blk_alloc ?_ _)); exact BK158.out) Tryd.underlying26 rfl (by kernel_rfl)) rfl ?_
    exact ⟨by first | rfl | (simp [errW_none, errW_some] <;> rfl) | (simp [*, errW_none, errW_some] <;> rfl), by repeat (first | (with_reducible first | exact HB.out | apply below_alloc | apply pw_below_drewN | apply below_drew1 | refine below_set ?_ GE156.out | refine below_set ?_ GE157.out | refine below_set ?_ GE158.out) | exact HB.out)⟩
   ·
    replace c22 := Bool.eq_false_iff.mpr c22
    subst c22
    have H1 : ((paymasterref01_Add.f kj3 a1_1 a1_2 a2_1 a2_2).bind fun bt161 => (if bt161.2.2 = 0 then ((paymasterref07_NodeText.f kj3 a1_0 a1_1 a1_2 a2_0 a2_1 a2_2).bind fun t165 => ((paymasterref07_Digest.f a0 t165).bind fun t166 => (some (t166, bt161.1, bt161.2.1, 0)))) else (some ((⟨#[]⟩ : ByteArray), 0, 0, 10)))) = some (r1, r2, r3, r4) := by rw [if_neg (show ¬ (false = true) by decide)] at H; exact H
    clear H
    have H := H1
    clear H1
    replace H := Option.bind_eq_some_iff.mp H
    obtain ⟨⟨t161, t162, t163⟩, A260, H⟩ := H
    replace H : (if t163 = 0 then ((paymasterref07_NodeText.f kj3 a1_0 a1_1 a1_2 a2_0 a2_1 a2_2).bind fun t165 => ((paymasterref07_Digest.f a0 t165).bind fun t166 => (some (t166, t161, t162, 0)))) else (some ((⟨#[]⟩ : ByteArray), 0, 0, 10))) = some (r1, r2, r3, r4) := H
    have A26 := Aside0.mk A260
    clear A260
    by_cases c27 : t163 = 0
    ·
     rw [if_pos c27] at H
     have c27b0 : (t163 == 0) = true := beq_iff_eq.mpr c27
     have c27b1 : (t163 != 0) = false := bne_eq_false_iff_eq.mpr c27
     clear c27
     replace H := Option.bind_eq_some_iff.mp H
     obtain ⟨t165, A280, H⟩ := H
     replace H : ((paymasterref07_Digest.f a0 t165).bind fun t166 => (some (t166, t161, t162, 0))) = some (r1, r2, r3, r4) := H
     have A28 := Aside0.mk A280
     clear A280
     replace H := Option.bind_eq_some_iff.mp H
     obtain ⟨t166, A290, H⟩ := H
     replace H : (some (t166, t161, t162, 0)) = some (r1, r2, r3, r4) := H
     have A29 := Aside0.mk A290
     clear A290
     simp only [Option.some.injEq, Prod.mk.injEq] at H
     obtain ⟨rfl, rfl, rfl, rfl⟩ := H
     have hnb30 := NB156_157.out
     have hnc30 := NB157_156.out
     have hnb31 := NB156_158.out
     have hnc31 := NB158_156.out
     have hcz32_0 : wc.cell? ⟨gb156, 0, none⟩ = some (.string a1_0) := (blk_cell BK156.out 0).trans rfl
     have hcz32_1 : wc.cell? ⟨gb156, 1, none⟩ = some (.int .u64 a1_1) := (blk_cell BK156.out 1).trans rfl
     have hcz32_2 : wc.cell? ⟨gb156, 2, none⟩ = some (.int .u64 a1_2) := (blk_cell BK156.out 2).trans rfl
     have hfz32_0 := blk_frozen BK156.out 0
     have hfz32_1 := blk_frozen BK156.out 1
     have hfz32_2 := blk_frozen BK156.out 2
     have hnb33 := NB157_158.out
     have hnc33 := NB158_157.out
     have hcz34_0 : wc.cell? ⟨gb157, 0, none⟩ = some (.string a2_0) := (blk_cell BK157.out 0).trans rfl
     have hcz34_1 : wc.cell? ⟨gb157, 1, none⟩ = some (.int .u64 a2_1) := (blk_cell BK157.out 1).trans rfl
     have hcz34_2 : wc.cell? ⟨gb157, 2, none⟩ = some (.int .u64 a2_2) := (blk_cell BK157.out 2).trans rfl
     have hfz34_0 := blk_frozen BK157.out 0
     have hfz34_1 := blk_frozen BK157.out 1
     have hfz34_2 := blk_frozen BK157.out 2
     try go_wp2_with (first | ((with_reducible refine gate_callee (f := 48) rfl ?_); refine goesL_ (some 26) rfl rfl Tryd.func48 (by kernel_rfl) rfl #[.agg #[.int .u64 a1_1, .int .u64 a1_2], .agg #[.int .u64 a2_1, .int .u64 a2_2]] rfl (by (try simp only [List.map_toArray, List.map_cons, List.map_nil]); first | done | rfl | (simp only [List.length_drop, List.length_take]; rfl)) ?_; (with_reducible refine (paymasterref01_Add.calls kj3 a1_1 a1_2 a2_1 a2_2 t161 t162 t163 _ A26.out).mono ?_); rintro e w35 ⟨rfl, hb⟩; refine ⟨_, rfl, ?_⟩; have n0_ := Aside0.mk (blk_below (g := gb156) (o := .cells #[.string a1_0, .int .u64 a1_1, .int .u64 a1_2] 26 (0, 0)) (by (with_reducible repeat (first | refine blk_drewN ?_ _ | refine blk_drew ?_ | refine blk_alloc ?_ _)); exact BK156.out) hb); have n1_ := Aside0.mk (blk_below (g := gb157) (o := .cells #[.string a2_0, .int .u64 a2_1, .int .u64 a2_2] 26 (0, 0)) (by (with_reducible repeat (first | refine blk_drewN ?_ _ | refine blk_drew ?_ | refine blk_alloc ?_ _)); exact BK157.out) hb); have n2_ := Aside0.mk (blk_below (g := gb158) (o := .cells #[.string (⟨#[]⟩ : ByteArray), .int .u64 0, .int .u64 0] 26 (0, 0)) (by (with_reducible repeat (first | refine blk_drewN ?_ _ | refine blk_drew ?_ | refine blk_alloc ?_ _)); exact BK158.out) hb); have n3_ := Aside0.mk (below_step (by repeat (first | (with_reducible first | exact HB.out | apply below_alloc | apply pw_below_drewN | apply below_drew1 | refine below_set ?_ GE156.out | refine below_set ?_ GE157.out | refine below_set ?_ GE158.out) | exact HB.out)) hb); clear BK156; clear BK157; clear BK158; clear HB; have BK156 := n0_; have BK157 := n1_; have BK158 := n2_; have HB := n3_; clear n0_ n1_ n2_ n3_; (try clear hb); (try clear hb2); (try clear hk); (try clear hi)) | ((with_reducible refine gate_dst (N := 8) rfl ?_); refine box_event ?hg (N := 8) ?hd (cs := #[.int .u64 0, .int .u64 0]) (t := 24) ?hr ?_; (case hd => rfl); (case hg => rfl); (case hr => first | (go_simp; done) | (go_simp; rfl)); intro gb164 hg w36 hbox hb; have n0_ := Aside0.mk (blk_below (g := gb156) (o := .cells #[.string a1_0, .int .u64 a1_1, .int .u64 a1_2] 26 (0, 0)) (by (with_reducible repeat (first | refine blk_drewN ?_ _ | refine blk_drew ?_ | refine blk_alloc ?_ _)); exact BK156.out) hb); have n1_ := Aside0.mk (blk_below (g := gb157) (o := .cells #[.string a2_0, .int .u64 a2_1, .int .u64 a2_2] 26 (0, 0)) (by (with_reducible repeat (first | refine blk_drewN ?_ _ | refine blk_drew ?_ | refine blk_alloc ?_ _)); exact BK157.out) hb); have n2_ := Aside0.mk (blk_below (g := gb158) (o := .cells #[.string (⟨#[]⟩ : ByteArray), .int .u64 0, .int .u64 0] 26 (0, 0)) (by (with_reducible repeat (first | refine blk_drewN ?_ _ | refine blk_drew ?_ | refine blk_alloc ?_ _)); exact BK158.out) hb); have n3_ := Aside0.mk (below_step (by repeat (first | (with_reducible first | exact HB.out | apply below_alloc | apply pw_below_drewN | apply below_drew1 | refine below_set ?_ GE156.out | refine below_set ?_ GE157.out | refine below_set ?_ GE158.out) | exact HB.out)) hb); have n4_ := Aside0.mk (hbox); have n5_ := Aside0.mk ((by rw [hg]; exact (below_size (by repeat (first | (with_reducible first | exact HB.out | apply below_alloc | apply pw_below_drewN | apply below_drew1 | refine below_set ?_ GE156.out | refine below_set ?_ GE157.out | refine below_set ?_ GE158.out) | exact HB.out))) : w.heap.size ≤ gb164)); have n6_ := Aside0.mk ((by rw [hg]; exact (below_size (by repeat (first | (with_reducible first | exact HB.out | apply below_alloc | apply pw_below_drewN | apply below_drew1 | refine below_set ?_ GE156.out | refine below_set ?_ GE157.out | refine below_set ?_ GE158.out) | exact HB.out))) : w.heap.size ≤ gb164)); have n7_ := Aside0.mk ((by rw [hg]; exact Nat.ne_of_lt (blk_lt (g := gb156) (o := .cells #[.string a1_0, .int .u64 a1_1, .int .u64 a1_2] 26 (0, 0)) (by (with_reducible repeat (first | refine blk_drewN ?_ _ | refine blk_drew ?_ | refine blk_alloc ?_ _)); exact BK156.out)) : gb156 ≠ gb164)); have n8_ := Aside0.mk ((by rw [hg]; exact Nat.ne_of_gt (blk_lt (g := gb156) (o := .cells #[.string a1_0, .int .u64 a1_1, .int .u64 a1_2] 26 (0, 0)) (by (with_reducible repeat (first | refine blk_drewN ?_ _ | refine blk_drew ?_ | refine blk_alloc ?_ _)); exact BK156.out)) : gb164 ≠ gb156)); have n9_ := Aside0.mk ((by rw [hg]; exact Nat.ne_of_lt (blk_lt (g := gb157) (o := .cells #[.string a2_0, .int .u64 a2_1, .int .u64 a2_2] 26 (0, 0)) (by (with_reducible repeat (first | refine blk_drewN ?_ _ | refine blk_drew ?_ | refine blk_alloc ?_ _)); exact BK157.out)) : gb157 ≠ gb164)); have n10_ := Aside0.mk ((by rw [hg]; exact Nat.ne_of_gt (blk_lt (g := gb157) (o := .cells #[.string a2_0, .int .u64 a2_1, .int .u64 a2_2] 26 (0, 0)) (by (with_reducible repeat (first | refine blk_drewN ?_ _ | refine blk_drew ?_ | refine blk_alloc ?_ _)); exact BK157.out)) : gb164 ≠ gb157)); have n11_ := Aside0.mk ((by rw [hg]; exact Nat.ne_of_lt (blk_lt (g := gb158) (o := .cells #[.string (⟨#[]⟩ : ByteArray), .int .u64 0, .int .u64 0] 26 (0, 0)) (by (with_reducible repeat (first | refine blk_drewN ?_ _ | refine blk_drew ?_ | refine blk_alloc ?_ _)); exact BK158.out)) : gb158 ≠ gb164)); have n12_ := Aside0.mk ((by rw [hg]; exact Nat.ne_of_gt (blk_lt (g := gb158) (o := .cells #[.string (⟨#[]⟩ : ByteArray), .int .u64 0, .int .u64 0] 26 (0, 0)) (by (with_reducible repeat (first | refine blk_drewN ?_ _ | refine blk_drew ?_ | refine blk_alloc ?_ _)); exact BK158.out)) : gb164 ≠ gb158)); clear BK156; clear BK157; clear BK158; clear HB; have BK156 := n0_; have BK157 := n1_; have BK158 := n2_; have HB := n3_; have BK164 := n4_; have GW164 := n5_; have GE164 := n6_; have NB156_164 := n7_; have NB164_156 := n8_; have NB157_164 := n9_; have NB164_157 := n10_; have NB158_164 := n11_; have NB164_158 := n12_; clear n0_ n1_ n2_ n3_ n4_ n5_ n6_ n7_ n8_ n9_ n10_ n11_ n12_; clear hb hbox hg; have hnb37 := NB164_156.out; have hnc37 := NB156_164.out; have hnb38 := NB164_157.out; have hnc38 := NB157_164.out; have hnb39 := NB164_158.out; have hnc39 := NB158_164.out; have hcz40_0 : w36.cell? ⟨gb164, 0, none⟩ = some (.int .u64 0) := (blk_cell BK164.out 0).trans rfl; have hcz40_1 : w36.cell? ⟨gb164, 1, none⟩ = some (.int .u64 0) := (blk_cell BK164.out 1).trans rfl; have hfz40_0 := blk_frozen BK164.out 0; have hfz40_1 := blk_frozen BK164.out 1))
     have n0_ : Aside0 (((w36.setCell ⟨gb164, 0, none⟩ (.int .u64 t161)).setCell ⟨gb164, 1, none⟩ (.int .u64 t162)).heap[gb156]? = some (.cells #[.string a1_0, .int .u64 a1_1, .int .u64 a1_2] 26 (0, 0))) := ⟨by (with_reducible repeat (first | refine blk_drewN ?_ _ | refine blk_drew ?_ | refine blk_alloc ?_ _)); refine blk_far ?_ NB156_164.out _; (with_reducible repeat (first | refine blk_drewN ?_ _ | refine blk_drew ?_ | refine blk_alloc ?_ _)); refine blk_far ?_ NB156_164.out _; (with_reducible repeat (first | refine blk_drewN ?_ _ | refine blk_drew ?_ | refine blk_alloc ?_ _)); exact BK156.out⟩
     have n1_ : Aside0 (((w36.setCell ⟨gb164, 0, none⟩ (.int .u64 t161)).setCell ⟨gb164, 1, none⟩ (.int .u64 t162)).heap[gb157]? = some (.cells #[.string a2_0, .int .u64 a2_1, .int .u64 a2_2] 26 (0, 0))) := ⟨by (with_reducible repeat (first | refine blk_drewN ?_ _ | refine blk_drew ?_ | refine blk_alloc ?_ _)); refine blk_far ?_ NB157_164.out _; (with_reducible repeat (first | refine blk_drewN ?_ _ | refine blk_drew ?_ | refine blk_alloc ?_ _)); refine blk_far ?_ NB157_164.out _; (with_reducible repeat (first | refine blk_drewN ?_ _ | refine blk_drew ?_ | refine blk_alloc ?_ _)); exact BK157.out⟩
     have n2_ : Aside0 (((w36.setCell ⟨gb164, 0, none⟩ (.int .u64 t161)).setCell ⟨gb164, 1, none⟩ (.int .u64 t162)).heap[gb158]? = some (.cells #[.string (⟨#[]⟩ : ByteArray), .int .u64 0, .int .u64 0] 26 (0, 0))) := ⟨by (with_reducible repeat (first | refine blk_drewN ?_ _ | refine blk_drew ?_ | refine blk_alloc ?_ _)); refine blk_far ?_ NB158_164.out _; (with_reducible repeat (first | refine blk_drewN ?_ _ | refine blk_drew ?_ | refine blk_alloc ?_ _)); refine blk_far ?_ NB158_164.out _; (with_reducible repeat (first | refine blk_drewN ?_ _ | refine blk_drew ?_ | refine blk_alloc ?_ _)); exact BK158.out⟩
     have n3_ : Aside0 (((w36.setCell ⟨gb164, 0, none⟩ (.int .u64 t161)).setCell ⟨gb164, 1, none⟩ (.int .u64 t162)).heap[gb164]? = some (.cells #[.int .u64 t161, .int .u64 t162] 24 (0, 0))) := ⟨by (with_reducible repeat (first | refine blk_drewN ?_ _ | refine blk_drew ?_ | refine blk_alloc ?_ _)); refine blk_put (cs := #[.int .u64 t161, .int .u64 0]) ?_ 1 _ rfl; (with_reducible repeat (first | refine blk_drewN ?_ _ | refine blk_drew ?_ | refine blk_alloc ?_ _)); refine blk_put (cs := #[.int .u64 0, .int .u64 0]) ?_ 0 _ rfl; (with_reducible repeat (first | refine blk_drewN ?_ _ | refine blk_drew ?_ | refine blk_alloc ?_ _)); exact BK164.out⟩
     have n4_ : Aside0 (Below w.heap.size w ((w36.setCell ⟨gb164, 0, none⟩ (.int .u64 t161)).setCell ⟨gb164, 1, none⟩ (.int .u64 t162))) := ⟨by repeat (first | (with_reducible first | exact HB.out | apply below_alloc | apply pw_below_drewN | apply below_drew1 | refine below_set ?_ GE156.out | refine below_set ?_ GE157.out | refine below_set ?_ GE158.out | refine below_set ?_ GE164.out) | exact HB.out)⟩
     (try clear BK156)
     (try clear BK157)
     (try clear BK158)
     (try clear BK164)
     (try clear HB)
     generalize ((w36.setCell ⟨gb164, 0, none⟩ (.int .u64 t161)).setCell ⟨gb164, 1, none⟩ (.int .u64 t162)) = w41 at n0_ n1_ n2_ n3_ n4_ ⊢
     have BK156 := n0_
     have BK157 := n1_
     have BK158 := n2_
     have BK164 := n3_
     have HB := n4_
     clear n0_ n1_ n2_ n3_ n4_
     have n0_ := Aside0.mk (blk_drew BK156.out)
     have n1_ := Aside0.mk (blk_drew BK157.out)
     have n2_ := Aside0.mk (blk_drew BK158.out)
     have n3_ := Aside0.mk (blk_drew BK164.out)
     have n4_ := Aside0.mk (below_drew1 HB.out)
     clear BK156
     clear BK157
     clear BK158
     clear BK164
     clear HB
     have BK156 := n0_
     have BK157 := n1_
     have BK158 := n2_
     have BK164 := n3_
     have HB := n4_
     clear n0_ n1_ n2_ n3_ n4_
     refine start_ (n := 9) (S := fun w' => w'.cell? ⟨gb156, 0, none⟩ = some (.string a1_0) ∧ w'.cell? ⟨gb156, 1, none⟩ = some (.int .u64 a1_1) ∧ w'.cell? ⟨gb156, 2, none⟩ = some (.int .u64 a1_2) ∧ w'.cell? ⟨gb157, 0, none⟩ = some (.string a2_0) ∧ w'.cell? ⟨gb157, 1, none⟩ = some (.int .u64 a2_1) ∧ w'.cell? ⟨gb157, 2, none⟩ = some (.int .u64 a2_2) ∧ w'.cell? ⟨gb164, 0, none⟩ = some (.int .u64 t161) ∧ w'.cell? ⟨gb164, 1, none⟩ = some (.int .u64 t162)) (ds := []) #[false, false, false, false, false, false, false, false, false] (by kernel_rfl) rfl rfl ⟨(blk_cell BK156.out 0).trans rfl, (blk_cell BK156.out 1).trans rfl, (blk_cell BK156.out 2).trans rfl, (blk_cell BK157.out 0).trans rfl, (blk_cell BK157.out 1).trans rfl, (blk_cell BK157.out 2).trans rfl, (blk_cell BK164.out 0).trans rfl, (blk_cell BK164.out 1).trans rfl⟩ (fun hHeld => ?_); refine with_tabW paymasterref14_Join.tab6 paymasterref14_Join.bits6 (fun HT_ HW_ => ?_)
     generalize w41.drew = w42 at BK156 BK157 BK158 BK164 HB hHeld ⊢
     refine pure_ (i := 0) (N := some 32) (v := ?_) (a' := ?_) #[true, false, false, false, false, false, false, false, false] rfl rfl (any_of HT_.out (by kernel_rfl)) (fun _ _ _ h => h) (Or.inl ⟨by rfl, ?_⟩) ?_ ?_
     rotate_left
     ·
      intro w'
      go_simp
      with_reducible rfl
     rotate_left
     ·
      simp only [Act.put, List.setIfInBounds_toArray, List.set_cons_zero, List.set_cons_succ, i64_w, i32_w]
      rfl
     refine take_ (i := 1) (N := some 33) (v := ?_) (a' := ?_) #[true, true, false, false, false, false, false, false, false] rfl rfl (take_ofW HT_.out HW_.out (by kernel_rfl)) (fun _ _ _ h => h) (Or.inl ⟨by rfl, ?_⟩) hHeld ?_ ?_
     rotate_left
     ·
      rintro w' ⟨s0, s1, s2, s3, s4, s5, s6, s7⟩
      go_simp
      with_reducible rfl
     rotate_left
     ·
      simp only [Act.put, List.setIfInBounds_toArray, List.set_cons_zero, List.set_cons_succ, i64_w, i32_w]
      rfl
     refine take_ (i := 2) (N := some 34) (v := ?_) (a' := ?_) #[true, true, true, false, false, false, false, false, false] rfl rfl (take_ofW HT_.out HW_.out (by kernel_rfl)) (fun _ _ _ h => h) (Or.inl ⟨by rfl, ?_⟩) hHeld ?_ ?_
     rotate_left
     ·
      rintro w' ⟨s0, s1, s2, s3, s4, s5, s6, s7⟩
      go_simp
      with_reducible rfl
     rotate_left
     ·
      simp only [Act.put, List.setIfInBounds_toArray, List.set_cons_zero, List.set_cons_succ, i64_w, i32_w]
      rfl
     refine take_ (i := 5) (N := some 37) (v := ?_) (a' := ?_) #[true, true, true, false, false, true, false, false, false] rfl rfl (take_ofW HT_.out HW_.out (by kernel_rfl)) (fun _ _ _ h => h) (Or.inl ⟨by rfl, ?_⟩) hHeld ?_ ?_
     rotate_left
     ·
      rintro w' ⟨s0, s1, s2, s3, s4, s5, s6, s7⟩
      go_simp
      with_reducible rfl
     rotate_left
     ·
      simp only [Act.put, List.setIfInBounds_toArray, List.set_cons_zero, List.set_cons_succ, i64_w, i32_w]
      rfl
     refine one_ (i := 3) (N := some 35) #[true, true, true, true, false, true, false, false, false] rfl rfl (one_of HT_.out (by kernel_rfl)) (by decide) (fun K hK => ?_)
     refine goes_ Tryd.func69 (by kernel_rfl) rfl #[.agg #[.string a1_0, .int .u64 a1_1, .int .u64 a1_2], .agg #[.string a2_0, .int .u64 a2_1, .int .u64 a2_2]] (by rfl) rfl rfl (by (try simp only [List.map_toArray, List.map_cons, List.map_nil]); first | done | rfl | (simp only [List.length_drop, List.length_take]; rfl)) ?_
     with_reducible refine (paymasterref07_NodeText.calls kj3 a1_0 a1_1 a1_2 a2_0 a2_1 a2_2 t165 _ A28.out).mono ?_
     rintro e w43 ⟨rfl, hb⟩
     refine ⟨_, rfl, ?_⟩
     have n0_ := Aside0.mk (blk_below (g := gb156) (o := .cells #[.string a1_0, .int .u64 a1_1, .int .u64 a1_2] 26 (0, 0)) (by (with_reducible repeat (first | refine blk_drewN ?_ _ | refine blk_drew ?_ | refine blk_alloc ?_ _)); exact BK156.out) hb)
     have n1_ := Aside0.mk (blk_below (g := gb157) (o := .cells #[.string a2_0, .int .u64 a2_1, .int .u64 a2_2] 26 (0, 0)) (by (with_reducible repeat (first | refine blk_drewN ?_ _ | refine blk_drew ?_ | refine blk_alloc ?_ _)); exact BK157.out) hb)
     have n2_ := Aside0.mk (blk_below (g := gb158) (o := .cells #[.string (⟨#[]⟩ : ByteArray), .int .u64 0, .int .u64 0] 26 (0, 0)) (by (with_reducible repeat (first | refine blk_drewN ?_ _ | refine blk_drew ?_ | refine blk_alloc ?_ _)); exact BK158.out) hb)
     have n3_ := Aside0.mk (blk_below (g := gb164) (o := .cells #[.int .u64 t161, .int .u64 t162] 24 (0, 0)) (by (with_reducible repeat (first | refine blk_drewN ?_ _ | refine blk_drew ?_ | refine blk_alloc ?_ _)); exact BK164.out) hb)
     have n4_ := Aside0.mk (below_step (by repeat (first | (with_reducible first | exact HB.out | apply below_alloc | apply pw_below_drewN | apply below_drew1 | refine below_set ?_ GE156.out | refine below_set ?_ GE157.out | refine below_set ?_ GE158.out | refine below_set ?_ GE164.out) | exact HB.out)) hb)
     clear BK156
     clear BK157
     clear BK158
     clear BK164
     clear HB
     have BK156 := n0_
     have BK157 := n1_
     have BK158 := n2_
     have BK164 := n3_
     have HB := n4_
     clear n0_ n1_ n2_ n3_ n4_
     (try clear hb)
     (try clear hb2)
     (try clear hk)
     (try clear hi)
     refine hK.out _ _ ⟨(blk_cell BK156.out 0).trans rfl, (blk_cell BK156.out 1).trans rfl, (blk_cell BK156.out 2).trans rfl, (blk_cell BK157.out 0).trans rfl, (blk_cell BK157.out 1).trans rfl, (blk_cell BK157.out 2).trans rfl, (blk_cell BK164.out 0).trans rfl, (blk_cell BK164.out 1).trans rfl⟩ (fun hHeld => ?_)
     clear hK K
     refine norm_ (a' := ?_) ?_ ?_
     rotate_left
     ·
      show Act.put _ (some 35) _ = _
      simp only [Act.put, List.setIfInBounds_toArray, List.set_cons_zero, List.set_cons_succ, i64_w, i32_w]
      rfl
     refine one_ (i := 4) (N := some 36) #[true, true, true, true, true, true, false, false, false] rfl rfl (one_of HT_.out (by kernel_rfl)) (by decide) (fun K hK => ?_)
     refine goes_ Tryd.func47 (by kernel_rfl) rfl #[.int .i64 a0, .string t165] (by rfl) rfl rfl (by (try simp only [List.map_toArray, List.map_cons, List.map_nil]); first | done | rfl | (simp only [List.length_drop, List.length_take]; rfl)) ?_
     with_reducible refine (paymasterref07_Digest.calls a0 t165 t166 _ A29.out).mono ?_
     rintro e w44 ⟨rfl, hb⟩
     refine ⟨_, rfl, ?_⟩
     have n0_ := Aside0.mk (blk_below (g := gb156) (o := .cells #[.string a1_0, .int .u64 a1_1, .int .u64 a1_2] 26 (0, 0)) (by (with_reducible repeat (first | refine blk_drewN ?_ _ | refine blk_drew ?_ | refine blk_alloc ?_ _)); exact BK156.out) hb)
     have n1_ := Aside0.mk (blk_below (g := gb157) (o := .cells #[.string a2_0, .int .u64 a2_1, .int .u64 a2_2] 26 (0, 0)) (by (with_reducible repeat (first | refine blk_drewN ?_ _ | refine blk_drew ?_ | refine blk_alloc ?_ _)); exact BK157.out) hb)
     have n2_ := Aside0.mk (blk_below (g := gb158) (o := .cells #[.string (⟨#[]⟩ : ByteArray), .int .u64 0, .int .u64 0] 26 (0, 0)) (by (with_reducible repeat (first | refine blk_drewN ?_ _ | refine blk_drew ?_ | refine blk_alloc ?_ _)); exact BK158.out) hb)
     have n3_ := Aside0.mk (blk_below (g := gb164) (o := .cells #[.int .u64 t161, .int .u64 t162] 24 (0, 0)) (by (with_reducible repeat (first | refine blk_drewN ?_ _ | refine blk_drew ?_ | refine blk_alloc ?_ _)); exact BK164.out) hb)
     have n4_ := Aside0.mk (below_step (by repeat (first | (with_reducible first | exact HB.out | apply below_alloc | apply pw_below_drewN | apply below_drew1 | refine below_set ?_ GE156.out | refine below_set ?_ GE157.out | refine below_set ?_ GE158.out | refine below_set ?_ GE164.out) | exact HB.out)) hb)
     clear BK156
     clear BK157
     clear BK158
     clear BK164
     clear HB
     have BK156 := n0_
     have BK157 := n1_
     have BK158 := n2_
     have BK164 := n3_
     have HB := n4_
     clear n0_ n1_ n2_ n3_ n4_
     (try clear hb)
     (try clear hb2)
     (try clear hk)
     (try clear hi)
     refine hK.out _ _ ⟨(blk_cell BK156.out 0).trans rfl, (blk_cell BK156.out 1).trans rfl, (blk_cell BK156.out 2).trans rfl, (blk_cell BK157.out 0).trans rfl, (blk_cell BK157.out 1).trans rfl, (blk_cell BK157.out 2).trans rfl, (blk_cell BK164.out 0).trans rfl, (blk_cell BK164.out 1).trans rfl⟩ (fun hHeld => ?_)
     clear hK K
     refine norm_ (a' := ?_) ?_ ?_
     rotate_left
     ·
      show Act.put _ (some 36) _ = _
      simp only [Act.put, List.setIfInBounds_toArray, List.set_cons_zero, List.set_cons_succ, i64_w, i32_w]
      rfl
     refine pure_ (i := 6) (N := some 38) (v := ?_) (a' := ?_) #[true, true, true, true, true, true, true, false, false] rfl rfl (any_of HT_.out (by kernel_rfl)) (fun _ _ _ h => h) (Or.inl ⟨by rfl, ?_⟩) ?_ ?_
     rotate_left
     ·
      intro w'
      go_simp
      with_reducible rfl
     rotate_left
     ·
      simp only [Act.put, List.setIfInBounds_toArray, List.set_cons_zero, List.set_cons_succ, i64_w, i32_w]
      rfl
     refine one_ (i := 7) (N := none) #[true, true, true, true, true, true, true, true, false] rfl rfl (one_of HT_.out (by kernel_rfl)) (by decide) (fun K hK => ?_)
     have hs45 : w44.cell? ⟨gb158, 0, none⟩ = some (.string (⟨#[]⟩ : ByteArray)) := (blk_cell BK158.out 0).trans rfl
     have hfs45 := blk_frozen BK158.out 0
     have hns45_0 := NB156_158.out
     have hns45_1 := NB157_158.out
     have hns45_3 := NB164_158.out
     have hms45_0 := NB158_156.out
     have hms45_1 := NB158_157.out
     have hms45_3 := NB158_164.out
     have hs46 : w44.cell? ⟨gb158, 1, none⟩ = some (.int .u64 0) := (blk_cell BK158.out 1).trans rfl
     have hfs46 := blk_frozen BK158.out 1
     have hns46_0 := NB156_158.out
     have hns46_1 := NB157_158.out
     have hns46_3 := NB164_158.out
     have hms46_0 := NB158_156.out
     have hms46_1 := NB158_157.out
     have hms46_3 := NB158_164.out
     have hs47 : w44.cell? ⟨gb158, 2, none⟩ = some (.int .u64 0) := (blk_cell BK158.out 2).trans rfl
     have hfs47 := blk_frozen BK158.out 2
     have hns47_0 := NB156_158.out
     have hns47_1 := NB157_158.out
     have hns47_3 := NB164_158.out
     have hms47_0 := NB158_156.out
     have hms47_1 := NB158_157.out
     have hms47_3 := NB158_164.out
     refine skip_ (w1 := ?_) (by rfl) rfl ?_ ?_
     rotate_left
     ·
      go_simp
      rfl
     refine hK.out _ _ ⟨((cell_far (p := ⟨gb158, _, none⟩) NB156_158.out _).trans (((cell_far (p := ⟨gb158, _, none⟩) NB156_158.out _).trans (((cell_far (p := ⟨gb158, _, none⟩) NB156_158.out _).trans (hHeld.1)))))), ((cell_far (p := ⟨gb158, _, none⟩) NB156_158.out _).trans (((cell_far (p := ⟨gb158, _, none⟩) NB156_158.out _).trans (((cell_far (p := ⟨gb158, _, none⟩) NB156_158.out _).trans (hHeld.2.1)))))), ((cell_far (p := ⟨gb158, _, none⟩) NB156_158.out _).trans (((cell_far (p := ⟨gb158, _, none⟩) NB156_158.out _).trans (((cell_far (p := ⟨gb158, _, none⟩) NB156_158.out _).trans (hHeld.2.2.1)))))), ((cell_far (p := ⟨gb158, _, none⟩) NB157_158.out _).trans (((cell_far (p := ⟨gb158, _, none⟩) NB157_158.out _).trans (((cell_far (p := ⟨gb158, _, none⟩) NB157_158.out _).trans (hHeld.2.2.2.1)))))), ((cell_far (p := ⟨gb158, _, none⟩) NB157_158.out _).trans (((cell_far (p := ⟨gb158, _, none⟩) NB157_158.out _).trans (((cell_far (p := ⟨gb158, _, none⟩) NB157_158.out _).trans (hHeld.2.2.2.2.1)))))), ((cell_far (p := ⟨gb158, _, none⟩) NB157_158.out _).trans (((cell_far (p := ⟨gb158, _, none⟩) NB157_158.out _).trans (((cell_far (p := ⟨gb158, _, none⟩) NB157_158.out _).trans (hHeld.2.2.2.2.2.1)))))), ((cell_far (p := ⟨gb158, _, none⟩) NB164_158.out _).trans (((cell_far (p := ⟨gb158, _, none⟩) NB164_158.out _).trans (((cell_far (p := ⟨gb158, _, none⟩) NB164_158.out _).trans (hHeld.2.2.2.2.2.2.1)))))), ((cell_far (p := ⟨gb158, _, none⟩) NB164_158.out _).trans (((cell_far (p := ⟨gb158, _, none⟩) NB164_158.out _).trans (((cell_far (p := ⟨gb158, _, none⟩) NB164_158.out _).trans (hHeld.2.2.2.2.2.2.2))))))⟩ (fun hHeld => ?_)
     clear hK K
     refine pure_ (i := 8) (N := some 7) (v := ?_) (a' := ?_) #[true, true, true, true, true, true, true, true, true] rfl rfl (any_of HT_.out (by kernel_rfl)) (fun _ _ _ h => h) (Or.inl ⟨by rfl, ?_⟩) ?_ ?_
     rotate_left
     ·
      intro w'
      go_simp
      with_reducible rfl
     rotate_left
     ·
      simp only [Act.put, List.setIfInBounds_toArray, List.set_cons_zero, List.set_cons_succ, i64_w, i32_w]
      rfl
     refine done_ (done_of HT_.out (by kernel_rfl)) ?_
     try go_wp2
     refine bodyPost_ret (results_ct rfl _ _ gb158 26 #[.string t166, .int .u64 t161, .int .u64 t162] (0, 0) _ rfl (by (with_reducible repeat (first | refine blk_drewN ?_ _ | refine blk_drew ?_ | refine blk_alloc ?_ _)); refine blk_put (cs := #[.string t166, .int .u64 t161, .int .u64 0]) ?_ 2 _ rfl; (with_reducible repeat (first | refine blk_drewN ?_ _ | refine blk_drew ?_ | refine blk_alloc ?_ _)); refine blk_put (cs := #[.string t166, .int .u64 0, .int .u64 0]) ?_ 1 _ rfl; (with_reducible repeat (first | refine blk_drewN ?_ _ | refine blk_drew ?_ | refine blk_alloc ?_ _)); refine blk_put (cs := #[.string (⟨#[]⟩ : ByteArray), .int .u64 0, .int .u64 0]) ?_ 0 _ rfl; (with_reducible repeat (first | refine blk_drewN ?_ _ | refine blk_drew ?_ | refine blk_alloc ?_ _)); exact BK158.out) Tryd.underlying26 rfl (by kernel_rfl)) rfl ?_
     exact ⟨by first | rfl | (simp [errW_none, errW_some] <;> rfl) | (simp [*, errW_none, errW_some] <;> rfl), by repeat (first | (with_reducible first | exact HB.out | apply below_alloc | apply pw_below_drewN | apply below_drew1 | refine below_set ?_ GE156.out | refine below_set ?_ GE157.out | refine below_set ?_ GE158.out | refine below_set ?_ GE164.out) | exact HB.out)⟩
    ·
     rw [if_neg c27] at H
     have c27b0 : (t163 == 0) = false := beq_eq_false_iff_ne.mpr c27
     have c27b1 : (t163 != 0) = true := bne_iff_ne.mpr c27
     simp only [Option.some.injEq, Prod.mk.injEq] at H
     obtain ⟨rfl, rfl, rfl, rfl⟩ := H
     have hnb48 := NB156_157.out
     have hnc48 := NB157_156.out
     have hnb49 := NB156_158.out
     have hnc49 := NB158_156.out
     have hcz50_0 : wc.cell? ⟨gb156, 0, none⟩ = some (.string a1_0) := (blk_cell BK156.out 0).trans rfl
     have hcz50_1 : wc.cell? ⟨gb156, 1, none⟩ = some (.int .u64 a1_1) := (blk_cell BK156.out 1).trans rfl
     have hcz50_2 : wc.cell? ⟨gb156, 2, none⟩ = some (.int .u64 a1_2) := (blk_cell BK156.out 2).trans rfl
     have hfz50_0 := blk_frozen BK156.out 0
     have hfz50_1 := blk_frozen BK156.out 1
     have hfz50_2 := blk_frozen BK156.out 2
     have hnb51 := NB157_158.out
     have hnc51 := NB158_157.out
     have hcz52_0 : wc.cell? ⟨gb157, 0, none⟩ = some (.string a2_0) := (blk_cell BK157.out 0).trans rfl
     have hcz52_1 : wc.cell? ⟨gb157, 1, none⟩ = some (.int .u64 a2_1) := (blk_cell BK157.out 1).trans rfl
     have hcz52_2 : wc.cell? ⟨gb157, 2, none⟩ = some (.int .u64 a2_2) := (blk_cell BK157.out 2).trans rfl
     have hfz52_0 := blk_frozen BK157.out 0
     have hfz52_1 := blk_frozen BK157.out 1
     have hfz52_2 := blk_frozen BK157.out 2
     go_wp2_with (first | ((with_reducible refine gate_callee (f := 48) rfl ?_); refine goesL_ (some 26) rfl rfl Tryd.func48 (by kernel_rfl) rfl #[.agg #[.int .u64 a1_1, .int .u64 a1_2], .agg #[.int .u64 a2_1, .int .u64 a2_2]] rfl (by (try simp only [List.map_toArray, List.map_cons, List.map_nil]); first | done | rfl | (simp only [List.length_drop, List.length_take]; rfl)) ?_; (with_reducible refine (paymasterref01_Add.calls kj3 a1_1 a1_2 a2_1 a2_2 t161 t162 t163 _ A26.out).mono ?_); rintro e w53 ⟨rfl, hb⟩; refine ⟨_, rfl, ?_⟩; have n0_ := Aside0.mk (blk_below (g := gb156) (o := .cells #[.string a1_0, .int .u64 a1_1, .int .u64 a1_2] 26 (0, 0)) (by (with_reducible repeat (first | refine blk_drewN ?_ _ | refine blk_drew ?_ | refine blk_alloc ?_ _)); exact BK156.out) hb); have n1_ := Aside0.mk (blk_below (g := gb157) (o := .cells #[.string a2_0, .int .u64 a2_1, .int .u64 a2_2] 26 (0, 0)) (by (with_reducible repeat (first | refine blk_drewN ?_ _ | refine blk_drew ?_ | refine blk_alloc ?_ _)); exact BK157.out) hb); have n2_ := Aside0.mk (blk_below (g := gb158) (o := .cells #[.string (⟨#[]⟩ : ByteArray), .int .u64 0, .int .u64 0] 26 (0, 0)) (by (with_reducible repeat (first | refine blk_drewN ?_ _ | refine blk_drew ?_ | refine blk_alloc ?_ _)); exact BK158.out) hb); have n3_ := Aside0.mk (below_step (by repeat (first | (with_reducible first | exact HB.out | apply below_alloc | apply pw_below_drewN | apply below_drew1 | refine below_set ?_ GE156.out | refine below_set ?_ GE157.out | refine below_set ?_ GE158.out) | exact HB.out)) hb); clear BK156; clear BK157; clear BK158; clear HB; have BK156 := n0_; have BK157 := n1_; have BK158 := n2_; have HB := n3_; clear n0_ n1_ n2_ n3_; (try clear hb); (try clear hb2); (try clear hk); (try clear hi)) | ((with_reducible refine gate_dst (N := 8) rfl ?_); refine box_event ?hg (N := 8) ?hd (cs := #[.int .u64 0, .int .u64 0]) (t := 24) ?hr ?_; (case hd => rfl); (case hg => rfl); (case hr => first | (go_simp; done) | (go_simp; rfl)); intro gb164 hg w54 hbox hb; have n0_ := Aside0.mk (blk_below (g := gb156) (o := .cells #[.string a1_0, .int .u64 a1_1, .int .u64 a1_2] 26 (0, 0)) (by (with_reducible repeat (first | refine blk_drewN ?_ _ | refine blk_drew ?_ | refine blk_alloc ?_ _)); exact BK156.out) hb); have n1_ := Aside0.mk (blk_below (g := gb157) (o := .cells #[.string a2_0, .int .u64 a2_1, .int .u64 a2_2] 26 (0, 0)) (by (with_reducible repeat (first | refine blk_drewN ?_ _ | refine blk_drew ?_ | refine blk_alloc ?_ _)); exact BK157.out) hb); have n2_ := Aside0.mk (blk_below (g := gb158) (o := .cells #[.string (⟨#[]⟩ : ByteArray), .int .u64 0, .int .u64 0] 26 (0, 0)) (by (with_reducible repeat (first | refine blk_drewN ?_ _ | refine blk_drew ?_ | refine blk_alloc ?_ _)); exact BK158.out) hb); have n3_ := Aside0.mk (below_step (by repeat (first | (with_reducible first | exact HB.out | apply below_alloc | apply pw_below_drewN | apply below_drew1 | refine below_set ?_ GE156.out | refine below_set ?_ GE157.out | refine below_set ?_ GE158.out) | exact HB.out)) hb); have n4_ := Aside0.mk (hbox); have n5_ := Aside0.mk ((by rw [hg]; exact (below_size (by repeat (first | (with_reducible first | exact HB.out | apply below_alloc | apply pw_below_drewN | apply below_drew1 | refine below_set ?_ GE156.out | refine below_set ?_ GE157.out | refine below_set ?_ GE158.out) | exact HB.out))) : w.heap.size ≤ gb164)); have n6_ := Aside0.mk ((by rw [hg]; exact (below_size (by repeat (first | (with_reducible first | exact HB.out | apply below_alloc | apply pw_below_drewN | apply below_drew1 | refine below_set ?_ GE156.out | refine below_set ?_ GE157.out | refine below_set ?_ GE158.out) | exact HB.out))) : w.heap.size ≤ gb164)); have n7_ := Aside0.mk ((by rw [hg]; exact Nat.ne_of_lt (blk_lt (g := gb156) (o := .cells #[.string a1_0, .int .u64 a1_1, .int .u64 a1_2] 26 (0, 0)) (by (with_reducible repeat (first | refine blk_drewN ?_ _ | refine blk_drew ?_ | refine blk_alloc ?_ _)); exact BK156.out)) : gb156 ≠ gb164)); have n8_ := Aside0.mk ((by rw [hg]; exact Nat.ne_of_gt (blk_lt (g := gb156) (o := .cells #[.string a1_0, .int .u64 a1_1, .int .u64 a1_2] 26 (0, 0)) (by (with_reducible repeat (first | refine blk_drewN ?_ _ | refine blk_drew ?_ | refine blk_alloc ?_ _)); exact BK156.out)) : gb164 ≠ gb156)); have n9_ := Aside0.mk ((by rw [hg]; exact Nat.ne_of_lt (blk_lt (g := gb157) (o := .cells #[.string a2_0, .int .u64 a2_1, .int .u64 a2_2] 26 (0, 0)) (by (with_reducible repeat (first | refine blk_drewN ?_ _ | refine blk_drew ?_ | refine blk_alloc ?_ _)); exact BK157.out)) : gb157 ≠ gb164)); have n10_ := Aside0.mk ((by rw [hg]; exact Nat.ne_of_gt (blk_lt (g := gb157) (o := .cells #[.string a2_0, .int .u64 a2_1, .int .u64 a2_2] 26 (0, 0)) (by (with_reducible repeat (first | refine blk_drewN ?_ _ | refine blk_drew ?_ | refine blk_alloc ?_ _)); exact BK157.out)) : gb164 ≠ gb157)); have n11_ := Aside0.mk ((by rw [hg]; exact Nat.ne_of_lt (blk_lt (g := gb158) (o := .cells #[.string (⟨#[]⟩ : ByteArray), .int .u64 0, .int .u64 0] 26 (0, 0)) (by (with_reducible repeat (first | refine blk_drewN ?_ _ | refine blk_drew ?_ | refine blk_alloc ?_ _)); exact BK158.out)) : gb158 ≠ gb164)); have n12_ := Aside0.mk ((by rw [hg]; exact Nat.ne_of_gt (blk_lt (g := gb158) (o := .cells #[.string (⟨#[]⟩ : ByteArray), .int .u64 0, .int .u64 0] 26 (0, 0)) (by (with_reducible repeat (first | refine blk_drewN ?_ _ | refine blk_drew ?_ | refine blk_alloc ?_ _)); exact BK158.out)) : gb164 ≠ gb158)); clear BK156; clear BK157; clear BK158; clear HB; have BK156 := n0_; have BK157 := n1_; have BK158 := n2_; have HB := n3_; have BK164 := n4_; have GW164 := n5_; have GE164 := n6_; have NB156_164 := n7_; have NB164_156 := n8_; have NB157_164 := n9_; have NB164_157 := n10_; have NB158_164 := n11_; have NB164_158 := n12_; clear n0_ n1_ n2_ n3_ n4_ n5_ n6_ n7_ n8_ n9_ n10_ n11_ n12_; clear hb hbox hg; have hnb55 := NB164_156.out; have hnc55 := NB156_164.out; have hnb56 := NB164_157.out; have hnc56 := NB157_164.out; have hnb57 := NB164_158.out; have hnc57 := NB158_164.out; have hcz58_0 : w54.cell? ⟨gb164, 0, none⟩ = some (.int .u64 0) := (blk_cell BK164.out 0).trans rfl; have hcz58_1 : w54.cell? ⟨gb164, 1, none⟩ = some (.int .u64 0) := (blk_cell BK164.out 1).trans rfl; have hfz58_0 := blk_frozen BK164.out 0; have hfz58_1 := blk_frozen BK164.out 1; have hcz59_0 : w54.cell? ⟨gb158, 0, none⟩ = some (.string (⟨#[]⟩ : ByteArray)) := (blk_cell BK158.out 0).trans rfl; have hcz59_1 : w54.cell? ⟨gb158, 1, none⟩ = some (.int .u64 0) := (blk_cell BK158.out 1).trans rfl; have hcz59_2 : w54.cell? ⟨gb158, 2, none⟩ = some (.int .u64 0) := (blk_cell BK158.out 2).trans rfl; have hfz59_0 := blk_frozen BK158.out 0; have hfz59_1 := blk_frozen BK158.out 1; have hfz59_2 := blk_frozen BK158.out 2))
     refine bodyPost_ret (results_ct rfl _ _ gb158 26 #[.string (⟨#[]⟩ : ByteArray), .int .u64 0, .int .u64 0] (0, 0) _ rfl (by (with_reducible repeat (first | refine blk_drewN ?_ _ | refine blk_drew ?_ | refine blk_alloc ?_ _)); refine blk_put (cs := #[.string (⟨#[]⟩ : ByteArray), .int .u64 0, .int .u64 0]) ?_ 2 _ rfl; (with_reducible repeat (first | refine blk_drewN ?_ _ | refine blk_drew ?_ | refine blk_alloc ?_ _)); refine blk_put (cs := #[.string (⟨#[]⟩ : ByteArray), .int .u64 0, .int .u64 0]) ?_ 1 _ rfl; (with_reducible repeat (first | refine blk_drewN ?_ _ | refine blk_drew ?_ | refine blk_alloc ?_ _)); refine blk_put (cs := #[.string (⟨#[]⟩ : ByteArray), .int .u64 0, .int .u64 0]) ?_ 0 _ rfl; (with_reducible repeat (first | refine blk_drewN ?_ _ | refine blk_drew ?_ | refine blk_alloc ?_ _)); refine blk_far ?_ NB158_164.out _; (with_reducible repeat (first | refine blk_drewN ?_ _ | refine blk_drew ?_ | refine blk_alloc ?_ _)); refine blk_far ?_ NB158_164.out _; (with_reducible repeat (first | refine blk_drewN ?_ _ | refine blk_drew ?_ | refine blk_alloc ?_ _)); exact BK158.out) Tryd.underlying26 rfl (by kernel_rfl)) rfl ?_
     exact ⟨by first | rfl | (simp [errW_none, errW_some] <;> rfl) | (simp [*, errW_none, errW_some] <;> rfl), by repeat (first | (with_reducible first | exact HB.out | apply below_alloc | apply pw_below_drewN | apply below_drew1 | refine below_set ?_ GE156.out | refine below_set ?_ GE157.out | refine below_set ?_ GE158.out | refine below_set ?_ GE164.out) | exact HB.out)⟩
/-! ### tag_Digest: function 43 -/
def tag_Digest.f (a0 : Int) (a1 : ByteArray) : Option (ByteArray) := (tag_MayWidth.f a0).bind fun t168 => (if t168 = true then ((sha_Sum.f a1).bind fun t169 => (if 0 ≤ a0 then (if a0 ≤ (t169.size : Int) then (some (t169.extract 0 (a0 : Int).toNat)) else (none)) else (none))) else (some (⟨#[]⟩ : ByteArray)))
set_option maxHeartbeats 8000000 in
set_option maxRecDepth 100000 in
theorem tag_Digest.calls (a0 : Int) (a1 : ByteArray) (r : ByteArray) (w : World) (hK : Laid w) (h : tag_Digest.f a0 a1 = some r) :
  Calls Tryd.prog 43 #[.int .i64 a0, .string a1] w fun e w' => e = .returned (.string r) ∧ Below w.heap.size w w' := by
 have HB := Aside0.mk (Below.refl w.heap.size w)
 have HLD := Aside0.mk hK
 clear hK
 have H : ((tag_MayWidth.f a0).bind fun t168 => (if t168 = true then ((sha_Sum.f a1).bind fun t169 => (if 0 ≤ a0 then (if a0 ≤ (t169.size : Int) then (some (t169.extract 0 (a0 : Int).toNat)) else (none)) else (none))) else (some (⟨#[]⟩ : ByteArray)))) = some r := h
 clear h
 replace H := Option.bind_eq_some_iff.mp H
 obtain ⟨t168, A30, H⟩ := H
 replace H : (if t168 = true then ((sha_Sum.f a1).bind fun t169 => (if 0 ≤ a0 then (if a0 ≤ (t169.size : Int) then (some (t169.extract 0 (a0 : Int).toNat)) else (none)) else (none))) else (some (⟨#[]⟩ : ByteArray))) = some r := H
 have A3 := Aside0.mk A30
 clear A30
 by_cases c4 : t168 = true
 ·
  subst c4
  have H1 : ((sha_Sum.f a1).bind fun t169 => (if 0 ≤ a0 then (if a0 ≤ (t169.size : Int) then (some (t169.extract 0 (a0 : Int).toNat)) else (none)) else (none))) = some r := by rw [if_pos rfl] at H; exact H
  clear H
  have H := H1
  clear H1
  replace H := Option.bind_eq_some_iff.mp H
  obtain ⟨t169, A50, H⟩ := H
  replace H : (if 0 ≤ a0 then (if a0 ≤ (t169.size : Int) then (some (t169.extract 0 (a0 : Int).toNat)) else (none)) else (none)) = some r := H
  have A5 := Aside0.mk A50
  clear A50
  by_cases c6 : 0 ≤ a0
  ·
   rw [if_pos c6] at H
   have c6b0 := eq_true c6
   have c6b1 : decide (0 ≤ a0) = true := decide_eq_true c6
   clear c6
   by_cases c7 : a0 ≤ (t169.size : Int)
   ·
    rw [if_pos c7] at H
    have c7b0 := eq_true c7
    have c7b1 : decide (a0 ≤ (t169.size : Int)) = true := decide_eq_true c7
    clear c7
    obtain rfl := Option.some.inj H
    go_enter Tryd.func43, Tryd.ntmps43
    go_wp2_with (first | ((with_reducible refine gate_callee (f := 74) rfl ?_); refine goesL_ (some 6) rfl rfl Tryd.func74 (by kernel_rfl) rfl #[.int .i64 a0] rfl (by (try simp only [List.map_toArray, List.map_cons, List.map_nil]); first | done | rfl | (simp only [List.length_drop, List.length_take]; rfl)) ?_; (with_reducible refine (tag_MayWidth.calls a0 true _ A3.out).mono ?_); rintro e w' ⟨rfl, ⟨nd, rfl⟩⟩; refine ⟨_, rfl, ?_⟩) | ((with_reducible refine gate_callee (f := 75) rfl ?_); refine goesL_ (some 9) rfl rfl Tryd.func75 (by kernel_rfl) rfl #[.string a1] rfl (by (try simp only [List.map_toArray, List.map_cons, List.map_nil]); first | done | rfl | (simp only [List.length_drop, List.length_take]; rfl)) ?_; (with_reducible refine (sha_Sum.calls a1 t169 _ ?side1 A5.out).mono ?_); (case side1 => exact Laid.below HLD.out (by repeat (first | (with_reducible first | exact HB.out | apply below_alloc | apply pw_below_drewN | apply below_drew1) | exact HB.out))); rintro e w8 ⟨rfl, hb⟩; refine ⟨_, rfl, ?_⟩; have n0_ := Aside0.mk (below_step (by repeat (first | (with_reducible first | exact HB.out | apply below_alloc | apply pw_below_drewN | apply below_drew1) | exact HB.out)) hb); clear HB; have HB := n0_; clear n0_; (try clear hb); (try clear hb2); (try clear hk); (try clear hi)))
    go_ret
    exact ⟨by first | rfl | (simp [errW_none, errW_some] <;> rfl) | (simp [*, errW_none, errW_some] <;> rfl), by repeat (first | (with_reducible first | exact HB.out | apply below_alloc | apply pw_below_drewN | apply below_drew1) | exact HB.out)⟩
   ·
    rw [if_neg c7] at H
    exact absurd H (by simp)
  ·
   rw [if_neg c6] at H
   exact absurd H (by simp)
 ·
  replace c4 := Bool.eq_false_iff.mpr c4
  subst c4
  have H1 : (some (⟨#[]⟩ : ByteArray)) = some r := by rw [if_neg (show ¬ (false = true) by decide)] at H; exact H
  clear H
  have H := H1
  clear H1
  obtain rfl := Option.some.inj H
  go_enter Tryd.func43, Tryd.ntmps43
  go_wp2_with (first | ((with_reducible refine gate_callee (f := 74) rfl ?_); refine goesL_ (some 6) rfl rfl Tryd.func74 (by kernel_rfl) rfl #[.int .i64 a0] rfl (by (try simp only [List.map_toArray, List.map_cons, List.map_nil]); first | done | rfl | (simp only [List.length_drop, List.length_take]; rfl)) ?_; (with_reducible refine (tag_MayWidth.calls a0 false _ A3.out).mono ?_); rintro e w' ⟨rfl, ⟨nd, rfl⟩⟩; refine ⟨_, rfl, ?_⟩))
  go_ret
  exact ⟨by first | rfl | (simp [errW_none, errW_some] <;> rfl) | (simp [*, errW_none, errW_some] <;> rfl), by repeat (first | (with_reducible first | exact HB.out | apply below_alloc | apply pw_below_drewN | apply below_drew1) | exact HB.out)⟩
end Go.Proofs.YtlmmpncdemblbaaDoor.P
