-- Several texts of this workplace as one.
import Derived.Test.YtijfifphcchbbaaDoorZTraceCuts2
import Derived.Test.YtijfifphcchbbaaDoorProg
import Derived.Deep.OwnRows
import Derived.Laws.Rows
import Derived.Test.YtijfifphcchbbaaDoorRows
import Derived.Test.YtijfifphcchbbaaDoorCards
import Derived.Test.YtijfifphcchbbaaDoorTie
namespace Go.Proofs.YtijfifphcchbbaaDoor.P
open Go.RowKit Go.Proofs.YtijfifphcchbbaaDoorW.PrintWords Go.Proofs.YtijfifphcchbbaaDoorW.PrintLast Go.Proofs.YtijfifphcchbbaaDoorW.PrintMore
attribute [local go_sem] max2_int min2_int max_two min_two max_three min_three max_four min_four-- for this text's walks alone
set_option linter.unusedVariables false
set_option linter.unusedSimpArgs false
def tag_within.f (a0 : Int) : Option (Bool) := if a0 ≥ 97 then (if a0 ≤ 122 then (some true) else (if a0 ≥ 65 then (if a0 ≤ 90 then (some true) else (if a0 ≥ 48 then (if a0 ≤ 57 then (some true) else ((strings_ContainsRune.f (⟨#[46, 95, 45]⟩ : ByteArray) a0).bind fun t101 => (if t101 = true then (some true) else (some (decide (a0 ≥ 161)))))) else ((strings_ContainsRune.f (⟨#[46, 95, 45]⟩ : ByteArray) a0).bind fun t102 => (if t102 = true then (some true) else (some (decide (a0 ≥ 161))))))) else (if a0 ≥ 48 then (if a0 ≤ 57 then (some true) else ((strings_ContainsRune.f (⟨#[46, 95, 45]⟩ : ByteArray) a0).bind fun t103 => (if t103 = true then (some true) else (some (decide (a0 ≥ 161)))))) else ((strings_ContainsRune.f (⟨#[46, 95, 45]⟩ : ByteArray) a0).bind fun t104 => (if t104 = true then (some true) else (some (decide (a0 ≥ 161)))))))) else (if a0 ≥ 65 then (if a0 ≤ 90 then (some true) else (if a0 ≥ 48 then (if a0 ≤ 57 then (some true) else ((strings_ContainsRune.f (⟨#[46, 95, 45]⟩ : ByteArray) a0).bind fun t105 => (if t105 = true then (some true) else (some (decide (a0 ≥ 161)))))) else ((strings_ContainsRune.f (⟨#[46, 95, 45]⟩ : ByteArray) a0).bind fun t106 => (if t106 = true then (some true) else (some (decide (a0 ≥ 161))))))) else (if a0 ≥ 48 then (if a0 ≤ 57 then (some true) else ((strings_ContainsRune.f (⟨#[46, 95, 45]⟩ : ByteArray) a0).bind fun t107 => (if t107 = true then (some true) else (some (decide (a0 ≥ 161)))))) else ((strings_ContainsRune.f (⟨#[46, 95, 45]⟩ : ByteArray) a0).bind fun t108 => (if t108 = true then (some true) else (some (decide (a0 ≥ 161)))))))
set_option maxHeartbeats 8000000 in
set_option maxRecDepth 100000 in
theorem tag_within.calls (a0 : Int) (r : Bool) (w : World) (h : tag_within.f a0 = some r) :
  Calls Tryd.prog 148 #[.int .i32 a0] w fun e w' => e = .returned (.bool r) ∧ Below w.heap.size w w' := by
 have HB := aM' (Below.refl w.heap.size w)
 have H : (if a0 ≥ 97 then (if a0 ≤ 122 then (some true) else (if a0 ≥ 65 then (if a0 ≤ 90 then (some true) else (if a0 ≥ 48 then (if a0 ≤ 57 then (some true) else ((strings_ContainsRune.f (⟨#[46, 95, 45]⟩ : ByteArray) a0).bind fun t101 => (if t101 = true then (some true) else (some (decide (a0 ≥ 161)))))) else ((strings_ContainsRune.f (⟨#[46, 95, 45]⟩ : ByteArray) a0).bind fun t102 => (if t102 = true then (some true) else (some (decide (a0 ≥ 161))))))) else (if a0 ≥ 48 then (if a0 ≤ 57 then (some true) else ((strings_ContainsRune.f (⟨#[46, 95, 45]⟩ : ByteArray) a0).bind fun t103 => (if t103 = true then (some true) else (some (decide (a0 ≥ 161)))))) else ((strings_ContainsRune.f (⟨#[46, 95, 45]⟩ : ByteArray) a0).bind fun t104 => (if t104 = true then (some true) else (some (decide (a0 ≥ 161)))))))) else (if a0 ≥ 65 then (if a0 ≤ 90 then (some true) else (if a0 ≥ 48 then (if a0 ≤ 57 then (some true) else ((strings_ContainsRune.f (⟨#[46, 95, 45]⟩ : ByteArray) a0).bind fun t105 => (if t105 = true then (some true) else (some (decide (a0 ≥ 161)))))) else ((strings_ContainsRune.f (⟨#[46, 95, 45]⟩ : ByteArray) a0).bind fun t106 => (if t106 = true then (some true) else (some (decide (a0 ≥ 161))))))) else (if a0 ≥ 48 then (if a0 ≤ 57 then (some true) else ((strings_ContainsRune.f (⟨#[46, 95, 45]⟩ : ByteArray) a0).bind fun t107 => (if t107 = true then (some true) else (some (decide (a0 ≥ 161)))))) else ((strings_ContainsRune.f (⟨#[46, 95, 45]⟩ : ByteArray) a0).bind fun t108 => (if t108 = true then (some true) else (some (decide (a0 ≥ 161)))))))) = some r := h
 clear h
 by_cases c2 : a0 ≥ 97
 ·
  rw [if_pos c2] at H
  have c2b0 : decide (97 ≤ a0) = true := decide_eq_true c2
  clear c2
  by_cases c3 : a0 ≤ 122
  ·
   rw [if_pos c3] at H
   have c3b0 : decide (a0 ≤ 122) = true := decide_eq_true c3
   clear c3
   obtain rfl := Option.some.inj H
   go_enter Tryd.func148, Tryd.ntmps148
   go_wp2
   go_ret
   exact ⟨by first | rfl | (simp [errW_none, errW_some] <;> rfl) | (simp [*, errW_none, errW_some] <;> rfl), by repeat (first | (with_reducible first | exact HB.out | apply below_alloc | apply pw_below_drewN | apply below_drew1) | exact HB.out)⟩
  ·
   rw [if_neg c3] at H
   have c3b0 : decide (a0 ≤ 122) = false := decide_eq_false c3
   clear c3
   by_cases c4 : a0 ≥ 65
   ·
    rw [if_pos c4] at H
    have c4b0 : decide (65 ≤ a0) = true := decide_eq_true c4
    clear c4
    by_cases c5 : a0 ≤ 90
    ·
     rw [if_pos c5] at H
     have c5b0 : decide (a0 ≤ 90) = true := decide_eq_true c5
     clear c5
     obtain rfl := Option.some.inj H
     go_enter Tryd.func148, Tryd.ntmps148
     go_wp2
     go_ret
     exact ⟨by first | rfl | (simp [errW_none, errW_some] <;> rfl) | (simp [*, errW_none, errW_some] <;> rfl), by repeat (first | (with_reducible first | exact HB.out | apply below_alloc | apply pw_below_drewN | apply below_drew1) | exact HB.out)⟩
    ·
     rw [if_neg c5] at H
     have c5b0 : decide (a0 ≤ 90) = false := decide_eq_false c5
     clear c5
     by_cases c6 : a0 ≥ 48
     ·
      rw [if_pos c6] at H
      have c6b0 : decide (48 ≤ a0) = true := decide_eq_true c6
      clear c6
      by_cases c7 : a0 ≤ 57
      ·
       rw [if_pos c7] at H
       have c7b0 : decide (a0 ≤ 57) = true := decide_eq_true c7
       clear c7
       obtain rfl := Option.some.inj H
       go_enter Tryd.func148, Tryd.ntmps148
       go_wp2
       go_ret
       exact ⟨by first | rfl | (simp [errW_none, errW_some] <;> rfl) | (simp [*, errW_none, errW_some] <;> rfl), by repeat (first | (with_reducible first | exact HB.out | apply below_alloc | apply pw_below_drewN | apply below_drew1) | exact HB.out)⟩
      ·
       rw [if_neg c7] at H
       have c7b0 : decide (a0 ≤ 57) = false := decide_eq_false c7
       clear c7
       replace H := Option.bind_eq_some_iff.mp H
       obtain ⟨t101, A80, H⟩ := H
       replace H : (if t101 = true then (some true) else (some (decide (a0 ≥ 161)))) = some r := H
       have A8 := aM' A80
       clear A80
       by_cases c9 : t101 = true
       ·
        subst c9
        have H1 : (some true) = some r := by rw [if_pos rfl] at H; exact H
        clear H
        have H := H1
        clear H1
        obtain rfl := Option.some.inj H
        go_enter Tryd.func148, Tryd.ntmps148
        go_wp2_with (first | (go_at_call 174; (with_reducible refine (strings_ContainsRune.calls (⟨#[46, 95, 45]⟩ : ByteArray) a0 true _ A8.out).mono ?_); rintro e w10 ⟨rfl, hb⟩; have n0_ := aM' (below_step (by repeat (first | (with_reducible first | exact HB.out | apply below_alloc | apply pw_below_drewN | apply below_drew1) | exact HB.out)) hb); clear HB; have HB := n0_; clear n0_; (try clear hb); (try clear hb2); (try clear hk); (try clear hi)))
        go_ret
        exact ⟨by first | rfl | (simp [errW_none, errW_some] <;> rfl) | (simp [*, errW_none, errW_some] <;> rfl), by repeat (first | (with_reducible first | exact HB.out | apply below_alloc | apply pw_below_drewN | apply below_drew1) | exact HB.out)⟩
       ·
        replace c9 := Bool.eq_false_iff.mpr c9
        subst c9
        have H1 : (some (decide (a0 ≥ 161))) = some r := by rw [if_neg (show ¬ (false = true) by decide)] at H; exact H
        clear H
        have H := H1
        clear H1
        obtain rfl := Option.some.inj H
        go_enter Tryd.func148, Tryd.ntmps148
        go_wp2_with (first | (go_at_call 174; (with_reducible refine (strings_ContainsRune.calls (⟨#[46, 95, 45]⟩ : ByteArray) a0 false _ A8.out).mono ?_); rintro e w11 ⟨rfl, hb⟩; have n0_ := aM' (below_step (by repeat (first | (with_reducible first | exact HB.out | apply below_alloc | apply pw_below_drewN | apply below_drew1) | exact HB.out)) hb); clear HB; have HB := n0_; clear n0_; (try clear hb); (try clear hb2); (try clear hk); (try clear hi)))
        go_ret
        exact ⟨by first | rfl | (simp [errW_none, errW_some] <;> rfl) | (simp [*, errW_none, errW_some] <;> rfl), by repeat (first | (with_reducible first | exact HB.out | apply below_alloc | apply pw_below_drewN | apply below_drew1) | exact HB.out)⟩
     ·
      rw [if_neg c6] at H
      have c6b0 : decide (48 ≤ a0) = false := decide_eq_false c6
      clear c6
      replace H := Option.bind_eq_some_iff.mp H
      obtain ⟨t102, A120, H⟩ := H
      replace H : (if t102 = true then (some true) else (some (decide (a0 ≥ 161)))) = some r := H
      have A12 := aM' A120
      clear A120
      by_cases c13 : t102 = true
      ·
       subst c13
       have H1 : (some true) = some r := by rw [if_pos rfl] at H; exact H
       clear H
       have H := H1
       clear H1
       obtain rfl := Option.some.inj H
       go_enter Tryd.func148, Tryd.ntmps148
       go_wp2_with (first | (go_at_call 174; (with_reducible refine (strings_ContainsRune.calls (⟨#[46, 95, 45]⟩ : ByteArray) a0 true _ A12.out).mono ?_); rintro e w14 ⟨rfl, hb⟩; have n0_ := aM' (below_step (by repeat (first | (with_reducible first | exact HB.out | apply below_alloc | apply pw_below_drewN | apply below_drew1) | exact HB.out)) hb); clear HB; have HB := n0_; clear n0_; (try clear hb); (try clear hb2); (try clear hk); (try clear hi)))
       go_ret
       exact ⟨by first | rfl | (simp [errW_none, errW_some] <;> rfl) | (simp [*, errW_none, errW_some] <;> rfl), by repeat (first | (with_reducible first | exact HB.out | apply below_alloc | apply pw_below_drewN | apply below_drew1) | exact HB.out)⟩
      ·
       replace c13 := Bool.eq_false_iff.mpr c13
       subst c13
       have H1 : (some (decide (a0 ≥ 161))) = some r := by rw [if_neg (show ¬ (false = true) by decide)] at H; exact H
       clear H
       have H := H1
       clear H1
       obtain rfl := Option.some.inj H
       go_enter Tryd.func148, Tryd.ntmps148
       go_wp2_with (first | (go_at_call 174; (with_reducible refine (strings_ContainsRune.calls (⟨#[46, 95, 45]⟩ : ByteArray) a0 false _ A12.out).mono ?_); rintro e w15 ⟨rfl, hb⟩; have n0_ := aM' (below_step (by repeat (first | (with_reducible first | exact HB.out | apply below_alloc | apply pw_below_drewN | apply below_drew1) | exact HB.out)) hb); clear HB; have HB := n0_; clear n0_; (try clear hb); (try clear hb2); (try clear hk); (try clear hi)))
       go_ret
       exact ⟨by first | rfl | (simp [errW_none, errW_some] <;> rfl) | (simp [*, errW_none, errW_some] <;> rfl), by repeat (first | (with_reducible first | exact HB.out | apply below_alloc | apply pw_below_drewN | apply below_drew1) | exact HB.out)⟩
   ·
    rw [if_neg c4] at H
    have c4b0 : decide (65 ≤ a0) = false := decide_eq_false c4
    clear c4
    by_cases c16 : a0 ≥ 48
    ·
     rw [if_pos c16] at H
     have c16b0 : decide (48 ≤ a0) = true := decide_eq_true c16
     clear c16
     by_cases c17 : a0 ≤ 57
     ·
      rw [if_pos c17] at H
      have c17b0 : decide (a0 ≤ 57) = true := decide_eq_true c17
      clear c17
      obtain rfl := Option.some.inj H
      go_enter Tryd.func148, Tryd.ntmps148
      go_wp2
      go_ret
      exact ⟨by first | rfl | (simp [errW_none, errW_some] <;> rfl) | (simp [*, errW_none, errW_some] <;> rfl), by repeat (first | (with_reducible first | exact HB.out | apply below_alloc | apply pw_below_drewN | apply below_drew1) | exact HB.out)⟩
     ·
      rw [if_neg c17] at H
      have c17b0 : decide (a0 ≤ 57) = false := decide_eq_false c17
      clear c17
      replace H := Option.bind_eq_some_iff.mp H
      obtain ⟨t103, A180, H⟩ := H
      replace H : (if t103 = true then (some true) else (some (decide (a0 ≥ 161)))) = some r := H
      have A18 := aM' A180
      clear A180
      by_cases c19 : t103 = true
      ·
       subst c19
       have H1 : (some true) = some r := by rw [if_pos rfl] at H; exact H
       clear H
       have H := H1
       clear H1
       obtain rfl := Option.some.inj H
       go_enter Tryd.func148, Tryd.ntmps148
       go_wp2_with (first | (go_at_call 174; (with_reducible refine (strings_ContainsRune.calls (⟨#[46, 95, 45]⟩ : ByteArray) a0 true _ A18.out).mono ?_); rintro e w20 ⟨rfl, hb⟩; have n0_ := aM' (below_step (by repeat (first | (with_reducible first | exact HB.out | apply below_alloc | apply pw_below_drewN | apply below_drew1) | exact HB.out)) hb); clear HB; have HB := n0_; clear n0_; (try clear hb); (try clear hb2); (try clear hk); (try clear hi)))
       go_ret
       exact ⟨by first | rfl | (simp [errW_none, errW_some] <;> rfl) | (simp [*, errW_none, errW_some] <;> rfl), by repeat (first | (with_reducible first | exact HB.out | apply below_alloc | apply pw_below_drewN | apply below_drew1) | exact HB.out)⟩
      ·
       replace c19 := Bool.eq_false_iff.mpr c19
       subst c19
       have H1 : (some (decide (a0 ≥ 161))) = some r := by rw [if_neg (show ¬ (false = true) by decide)] at H; exact H
       clear H
       have H := H1
       clear H1
       obtain rfl := Option.some.inj H
       go_enter Tryd.func148, Tryd.ntmps148
       go_wp2_with (first | (go_at_call 174; (with_reducible refine (strings_ContainsRune.calls (⟨#[46, 95, 45]⟩ : ByteArray) a0 false _ A18.out).mono ?_); rintro e w21 ⟨rfl, hb⟩; have n0_ := aM' (below_step (by repeat (first | (with_reducible first | exact HB.out | apply below_alloc | apply pw_below_drewN | apply below_drew1) | exact HB.out)) hb); clear HB; have HB := n0_; clear n0_; (try clear hb); (try clear hb2); (try clear hk); (try clear hi)))
       go_ret
       exact ⟨by first | rfl | (simp [errW_none, errW_some] <;> rfl) | (simp [*, errW_none, errW_some] <;> rfl), by repeat (first | (with_reducible first | exact HB.out | apply below_alloc | apply pw_below_drewN | apply below_drew1) | exact HB.out)⟩
    ·
     rw [if_neg c16] at H
     have c16b0 : decide (48 ≤ a0) = false := decide_eq_false c16
     clear c16
     replace H := Option.bind_eq_some_iff.mp H
     obtain ⟨t104, A220, H⟩ := H
     replace H : (if t104 = true then (some true) else (some (decide (a0 ≥ 161)))) = some r := H
     have A22 := aM' A220
     clear A220
     by_cases c23 : t104 = true
     ·
      subst c23
      have H1 : (some true) = some r := by rw [if_pos rfl] at H; exact H
      clear H
      have H := H1
      clear H1
      obtain rfl := Option.some.inj H
      go_enter Tryd.func148, Tryd.ntmps148
      go_wp2_with (first | (go_at_call 174; (with_reducible refine (strings_ContainsRune.calls (⟨#[46, 95, 45]⟩ : ByteArray) a0 true _ A22.out).mono ?_); rintro e w24 ⟨rfl, hb⟩; have n0_ := aM' (below_step (by repeat (first | (with_reducible first | exact HB.out | apply below_alloc | apply pw_below_drewN | apply below_drew1) | exact HB.out)) hb); clear HB; have HB := n0_; clear n0_; (try clear hb); (try clear hb2); (try clear hk); (try clear hi)))
      go_ret
      exact ⟨by first | rfl | (simp [errW_none, errW_some] <;> rfl) | (simp [*, errW_none, errW_some] <;> rfl), by repeat (first | (with_reducible first | exact HB.out | apply below_alloc | apply pw_below_drewN | apply below_drew1) | exact HB.out)⟩
     ·
      replace c23 := Bool.eq_false_iff.mpr c23
      subst c23
      have H1 : (some (decide (a0 ≥ 161))) = some r := by rw [if_neg (show ¬ (false = true) by decide)] at H; exact H
      clear H
      have H := H1
      clear H1
      obtain rfl := Option.some.inj H
      go_enter Tryd.func148, Tryd.ntmps148
      go_wp2_with (first | (go_at_call 174; (with_reducible refine (strings_ContainsRune.calls (⟨#[46, 95, 45]⟩ : ByteArray) a0 false _ A22.out).mono ?_); rintro e w25 ⟨rfl, hb⟩; have n0_ := aM' (below_step (by repeat (first | (with_reducible first | exact HB.out | apply below_alloc | apply pw_below_drewN | apply below_drew1) | exact HB.out)) hb); clear HB; have HB := n0_; clear n0_; (try clear hb); (try clear hb2); (try clear hk); (try clear hi)))
      go_ret
      exact ⟨by first | rfl | (simp [errW_none, errW_some] <;> rfl) | (simp [*, errW_none, errW_some] <;> rfl), by repeat (first | (with_reducible first | exact HB.out | apply below_alloc | apply pw_below_drewN | apply below_drew1) | exact HB.out)⟩
 ·
  rw [if_neg c2] at H
  have c2b0 : decide (97 ≤ a0) = false := decide_eq_false c2
  clear c2
  by_cases c26 : a0 ≥ 65
  ·
   rw [if_pos c26] at H
   have c26b0 : decide (65 ≤ a0) = true := decide_eq_true c26
   clear c26
   by_cases c27 : a0 ≤ 90
   ·
    rw [if_pos c27] at H
    have c27b0 : decide (a0 ≤ 90) = true := decide_eq_true c27
    clear c27
    obtain rfl := Option.some.inj H
    go_enter Tryd.func148, Tryd.ntmps148
    go_wp2
    go_ret
    exact ⟨by first | rfl | (simp [errW_none, errW_some] <;> rfl) | (simp [*, errW_none, errW_some] <;> rfl), by repeat (first | (with_reducible first | exact HB.out | apply below_alloc | apply pw_below_drewN | apply below_drew1) | exact HB.out)⟩
   ·
    rw [if_neg c27] at H
    have c27b0 : decide (a0 ≤ 90) = false := decide_eq_false c27
    clear c27
    by_cases c28 : a0 ≥ 48
    ·
     rw [if_pos c28] at H
     have c28b0 : decide (48 ≤ a0) = true := decide_eq_true c28
     clear c28
     by_cases c29 : a0 ≤ 57
     ·
      rw [if_pos c29] at H
      have c29b0 : decide (a0 ≤ 57) = true := decide_eq_true c29
      clear c29
      obtain rfl := Option.some.inj H
      go_enter Tryd.func148, Tryd.ntmps148
      go_wp2
      go_ret
      exact ⟨by first | rfl | (simp [errW_none, errW_some] <;> rfl) | (simp [*, errW_none, errW_some] <;> rfl), by repeat (first | (with_reducible first | exact HB.out | apply below_alloc | apply pw_below_drewN | apply below_drew1) | exact HB.out)⟩
     ·
      rw [if_neg c29] at H
      have c29b0 : decide (a0 ≤ 57) = false := decide_eq_false c29
      clear c29
      replace H := Option.bind_eq_some_iff.mp H
      obtain ⟨t105, A300, H⟩ := H
      replace H : (if t105 = true then (some true) else (some (decide (a0 ≥ 161)))) = some r := H
      have A30 := aM' A300
      clear A300
      by_cases c31 : t105 = true
      ·
       subst c31
       have H1 : (some true) = some r := by rw [if_pos rfl] at H; exact H
       clear H
       have H := H1
       clear H1
       obtain rfl := Option.some.inj H
       go_enter Tryd.func148, Tryd.ntmps148
       go_wp2_with (first | (go_at_call 174; (with_reducible refine (strings_ContainsRune.calls (⟨#[46, 95, 45]⟩ : ByteArray) a0 true _ A30.out).mono ?_); rintro e w32 ⟨rfl, hb⟩; have n0_ := aM' (below_step (by repeat (first | (with_reducible first | exact HB.out | apply below_alloc | apply pw_below_drewN | apply below_drew1) | exact HB.out)) hb); clear HB; have HB := n0_; clear n0_; (try clear hb); (try clear hb2); (try clear hk); (try clear hi)))
       go_ret
       exact ⟨by first | rfl | (simp [errW_none, errW_some] <;> rfl) | (simp [*, errW_none, errW_some] <;> rfl), by repeat (first | (with_reducible first | exact HB.out | apply below_alloc | apply pw_below_drewN | apply below_drew1) | exact HB.out)⟩
      ·
       replace c31 := Bool.eq_false_iff.mpr c31
       subst c31
       have H1 : (some (decide (a0 ≥ 161))) = some r := by rw [if_neg (show ¬ (false = true) by decide)] at H; exact H
       clear H
       have H := H1
       clear H1
       obtain rfl := Option.some.inj H
       go_enter Tryd.func148, Tryd.ntmps148
       go_wp2_with (first | (go_at_call 174; (with_reducible refine (strings_ContainsRune.calls (⟨#[46, 95, 45]⟩ : ByteArray) a0 false _ A30.out).mono ?_); rintro e w33 ⟨rfl, hb⟩; have n0_ := aM' (below_step (by repeat (first | (with_reducible first | exact HB.out | apply below_alloc | apply pw_below_drewN | apply below_drew1) | exact HB.out)) hb); clear HB; have HB := n0_; clear n0_; (try clear hb); (try clear hb2); (try clear hk); (try clear hi)))
       go_ret
       exact ⟨by first | rfl | (simp [errW_none, errW_some] <;> rfl) | (simp [*, errW_none, errW_some] <;> rfl), by repeat (first | (with_reducible first | exact HB.out | apply below_alloc | apply pw_below_drewN | apply below_drew1) | exact HB.out)⟩
    ·
     rw [if_neg c28] at H
     have c28b0 : decide (48 ≤ a0) = false := decide_eq_false c28
     clear c28
     replace H := Option.bind_eq_some_iff.mp H
     obtain ⟨t106, A340, H⟩ := H
     replace H : (if t106 = true then (some true) else (some (decide (a0 ≥ 161)))) = some r := H
     have A34 := aM' A340
     clear A340
     by_cases c35 : t106 = true
     ·
      subst c35
      have H1 : (some true) = some r := by rw [if_pos rfl] at H; exact H
      clear H
      have H := H1
      clear H1
      obtain rfl := Option.some.inj H
      go_enter Tryd.func148, Tryd.ntmps148
      go_wp2_with (first | (go_at_call 174; (with_reducible refine (strings_ContainsRune.calls (⟨#[46, 95, 45]⟩ : ByteArray) a0 true _ A34.out).mono ?_); rintro e w36 ⟨rfl, hb⟩; have n0_ := aM' (below_step (by repeat (first | (with_reducible first | exact HB.out | apply below_alloc | apply pw_below_drewN | apply below_drew1) | exact HB.out)) hb); clear HB; have HB := n0_; clear n0_; (try clear hb); (try clear hb2); (try clear hk); (try clear hi)))
      go_ret
      exact ⟨by first | rfl | (simp [errW_none, errW_some] <;> rfl) | (simp [*, errW_none, errW_some] <;> rfl), by repeat (first | (with_reducible first | exact HB.out | apply below_alloc | apply pw_below_drewN | apply below_drew1) | exact HB.out)⟩
     ·
      replace c35 := Bool.eq_false_iff.mpr c35
      subst c35
      have H1 : (some (decide (a0 ≥ 161))) = some r := by rw [if_neg (show ¬ (false = true) by decide)] at H; exact H
      clear H
      have H := H1
      clear H1
      obtain rfl := Option.some.inj H
      go_enter Tryd.func148, Tryd.ntmps148
      go_wp2_with (first | (go_at_call 174; (with_reducible refine (strings_ContainsRune.calls (⟨#[46, 95, 45]⟩ : ByteArray) a0 false _ A34.out).mono ?_); rintro e w37 ⟨rfl, hb⟩; have n0_ := aM' (below_step (by repeat (first | (with_reducible first | exact HB.out | apply below_alloc | apply pw_below_drewN | apply below_drew1) | exact HB.out)) hb); clear HB; have HB := n0_; clear n0_; (try clear hb); (try clear hb2); (try clear hk); (try clear hi)))
      go_ret
      exact ⟨by first | rfl | (simp [errW_none, errW_some] <;> rfl) | (simp [*, errW_none, errW_some] <;> rfl), by repeat (first | (with_reducible first | exact HB.out | apply below_alloc | apply pw_below_drewN | apply below_drew1) | exact HB.out)⟩
  ·
   rw [if_neg c26] at H
   have c26b0 : decide (65 ≤ a0) = false := decide_eq_false c26
   clear c26
   by_cases c38 : a0 ≥ 48
   ·
    rw [if_pos c38] at H
    have c38b0 : decide (48 ≤ a0) = true := decide_eq_true c38
    clear c38
    by_cases c39 : a0 ≤ 57
    ·
     rw [if_pos c39] at H
     have c39b0 : decide (a0 ≤ 57) = true := decide_eq_true c39
     clear c39
     obtain rfl := Option.some.inj H
     go_enter Tryd.func148, Tryd.ntmps148
     go_wp2
     go_ret
     exact ⟨by first | rfl | (simp [errW_none, errW_some] <;> rfl) | (simp [*, errW_none, errW_some] <;> rfl), by repeat (first | (with_reducible first | exact HB.out | apply below_alloc | apply pw_below_drewN | apply below_drew1) | exact HB.out)⟩
    ·
     rw [if_neg c39] at H
     have c39b0 : decide (a0 ≤ 57) = false := decide_eq_false c39
     clear c39
     replace H := Option.bind_eq_some_iff.mp H
     obtain ⟨t107, A400, H⟩ := H
     replace H : (if t107 = true then (some true) else (some (decide (a0 ≥ 161)))) = some r := H
     have A40 := aM' A400
     clear A400
     by_cases c41 : t107 = true
     ·
      subst c41
      have H1 : (some true) = some r := by rw [if_pos rfl] at H; exact H
      clear H
      have H := H1
      clear H1
      obtain rfl := Option.some.inj H
      go_enter Tryd.func148, Tryd.ntmps148
      go_wp2_with (first | (go_at_call 174; (with_reducible refine (strings_ContainsRune.calls (⟨#[46, 95, 45]⟩ : ByteArray) a0 true _ A40.out).mono ?_); rintro e w42 ⟨rfl, hb⟩; have n0_ := aM' (below_step (by repeat (first | (with_reducible first | exact HB.out | apply below_alloc | apply pw_below_drewN | apply below_drew1) | exact HB.out)) hb); clear HB; have HB := n0_; clear n0_; (try clear hb); (try clear hb2); (try clear hk); (try clear hi)))
      go_ret
      exact ⟨by first | rfl | (simp [errW_none, errW_some] <;> rfl) | (simp [*, errW_none, errW_some] <;> rfl), by repeat (first | (with_reducible first | exact HB.out | apply below_alloc | apply pw_below_drewN | apply below_drew1) | exact HB.out)⟩
     ·
      replace c41 := Bool.eq_false_iff.mpr c41
      subst c41
      have H1 : (some (decide (a0 ≥ 161))) = some r := by rw [if_neg (show ¬ (false = true) by decide)] at H; exact H
      clear H
      have H := H1
      clear H1
      obtain rfl := Option.some.inj H
      go_enter Tryd.func148, Tryd.ntmps148
      go_wp2_with (first | (go_at_call 174; (with_reducible refine (strings_ContainsRune.calls (⟨#[46, 95, 45]⟩ : ByteArray) a0 false _ A40.out).mono ?_); rintro e w43 ⟨rfl, hb⟩; have n0_ := aM' (below_step (by repeat (first | (with_reducible first | exact HB.out | apply below_alloc | apply pw_below_drewN | apply below_drew1) | exact HB.out)) hb); clear HB; have HB := n0_; clear n0_; (try clear hb); (try clear hb2); (try clear hk); (try clear hi)))
      go_ret
      exact ⟨by first | rfl | (simp [errW_none, errW_some] <;> rfl) | (simp [*, errW_none, errW_some] <;> rfl), by repeat (first | (with_reducible first | exact HB.out | apply below_alloc | apply pw_below_drewN | apply below_drew1) | exact HB.out)⟩
   ·
    rw [if_neg c38] at H
    have c38b0 : decide (48 ≤ a0) = false := decide_eq_false c38
    clear c38
    replace H := Option.bind_eq_some_iff.mp H
    obtain ⟨t108, A440, H⟩ := H
    replace H : (if t108 = true then (some true) else (some (decide (a0 ≥ 161)))) = some r := H
    have A44 := aM' A440
    clear A440
    by_cases c45 : t108 = true
    ·
     subst c45
     have H1 : (some true) = some r := by rw [if_pos rfl] at H; exact H
     clear H
     have H := H1
     clear H1
     obtain rfl := Option.some.inj H
     go_enter Tryd.func148, Tryd.ntmps148
     go_wp2_with (first | (go_at_call 174; (with_reducible refine (strings_ContainsRune.calls (⟨#[46, 95, 45]⟩ : ByteArray) a0 true _ A44.out).mono ?_); rintro e w46 ⟨rfl, hb⟩; have n0_ := aM' (below_step (by repeat (first | (with_reducible first | exact HB.out | apply below_alloc | apply pw_below_drewN | apply below_drew1) | exact HB.out)) hb); clear HB; have HB := n0_; clear n0_; (try clear hb); (try clear hb2); (try clear hk); (try clear hi)))
     go_ret
     exact ⟨by first | rfl | (simp [errW_none, errW_some] <;> rfl) | (simp [*, errW_none, errW_some] <;> rfl), by repeat (first | (with_reducible first | exact HB.out | apply below_alloc | apply pw_below_drewN | apply below_drew1) | exact HB.out)⟩
    ·
     replace c45 := Bool.eq_false_iff.mpr c45
     subst c45
     have H1 : (some (decide (a0 ≥ 161))) = some r := by rw [if_neg (show ¬ (false = true) by decide)] at H; exact H
     clear H
     have H := H1
     clear H1
     obtain rfl := Option.some.inj H
     go_enter Tryd.func148, Tryd.ntmps148
     go_wp2_with (first | (go_at_call 174; (with_reducible refine (strings_ContainsRune.calls (⟨#[46, 95, 45]⟩ : ByteArray) a0 false _ A44.out).mono ?_); rintro e w47 ⟨rfl, hb⟩; have n0_ := aM' (below_step (by repeat (first | (with_reducible first | exact HB.out | apply below_alloc | apply pw_below_drewN | apply below_drew1) | exact HB.out)) hb); clear HB; have HB := n0_; clear n0_; (try clear hb); (try clear hb2); (try clear hk); (try clear hi)))
     go_ret
     exact ⟨by first | rfl | (simp [errW_none, errW_some] <;> rfl) | (simp [*, errW_none, errW_some] <;> rfl), by repeat (first | (with_reducible first | exact HB.out | apply below_alloc | apply pw_below_drewN | apply below_drew1) | exact HB.out)⟩
end Go.Proofs.YtijfifphcchbbaaDoor.P
namespace Go.Proofs
open Go.Shelf
def Tryd.laysValid_ren : Go.Shelf.Ren := ⟨fun | 196 => 147 | 259 => 173 | n => n, fun | 9 => 9 | 4 => 4 | 3 => 3 | 5 => 5 | 12 => 12 | 119 => 241 | 0 => 0 | 46 => 45 | 139 => 244 | 138 => 243 | 53 => 24 | n => n, fun | 3 => 0 | 4 => 1 | n => n⟩
theorem Tryd.laysValid : Go.Proofs.Lays.n196 Tryd.prog Tryd.laysValid_ren := {
 mixed := by kernel_rfl
 f196 := Tryd.func147.trans (congrArg some (by kernel_rfl))
 f259 := Tryd.func173.trans (congrArg some (by kernel_rfl))
 t0 := Tryd.underlying0
 a0 := Tryd.isAgg0
 z0 := Tryd.sizeOf0
 v0 := Tryd.zeroValue0
 t3 := Tryd.underlying3
 a3 := Tryd.isAgg3
 z3 := Tryd.sizeOf3
 v3 := Tryd.zeroValue3
 t4 := Tryd.underlying4
 a4 := Tryd.isAgg4
 z4 := Tryd.sizeOf4
 v4 := Tryd.zeroValue4
 t5 := Tryd.underlying5
 a5 := Tryd.isAgg5
 z5 := Tryd.sizeOf5
 v5 := Tryd.zeroValue5
 t9 := Tryd.underlying9
 a9 := Tryd.isAgg9
 z9 := Tryd.sizeOf9
 v9 := Tryd.zeroValue9
 t12 := Tryd.underlying12
 a12 := Tryd.isAgg12
 z12 := Tryd.sizeOf12
 v12 := Tryd.zeroValue12
 t46 := Tryd.underlying45
 a46 := Tryd.isAgg45
 z46 := Tryd.sizeOf45
 v46 := Tryd.zeroValue45
 t53 := Tryd.underlying24
 a53 := Tryd.isAgg24
 z53 := Tryd.sizeOf24
 v53 := Tryd.zeroValue24
 t119 := Tryd.underlying241
 a119 := Tryd.isAgg241
 z119 := Tryd.sizeOf241
 t138 := Tryd.underlying243
 a138 := Tryd.isAgg243
 z138 := Tryd.sizeOf243
 v138 := Tryd.zeroValue243
 t139 := Tryd.underlying244
 a139 := Tryd.isAgg244
 z139 := Tryd.sizeOf244
 v139 := Tryd.zeroValue244
 g3 := by kernel_rfl
 g4 := by kernel_rfl }
open Go.RowKit in
theorem Tryd.utf8_ValidString (s : ByteArray) (w : World) (hs : s.size ≤ 9223372036854775807) (hT : Lib.Utf8Tabs (Tryd.laysValid_ren.g 3) (Tryd.laysValid_ren.g 4) w) :
  Calls Tryd.prog 147 #[.string s] w fun e w' => e = .returned (.bool (Lib.validD s.data.toList)) ∧ Below w.heap.size w w' := Any.utf8_ValidString Tryd.laysValid s w hs hT
end Go.Proofs
namespace Go.Proofs.YtijfifphcchbbaaDoor.P
open Go.RowKit Go.Proofs.YtijfifphcchbbaaDoorW.PrintWords Go.Proofs.YtijfifphcchbbaaDoorW.PrintLast Go.Proofs.YtijfifphcchbbaaDoorW.PrintMore
set_option linter.unusedVariables false
set_option linter.unusedSimpArgs false
set_option linter.unnecessarySimpa false
def Tabs (w : World) : Prop := Lib.Utf8Tabs (Tryd.laysValid_ren.g 3) (Tryd.laysValid_ren.g 4) w
def LaidT (w : World) : Prop := Laid w ∧ Tabs w
theorem LaidT.below {w w1 : World} (h : LaidT w) (hb : Below w.heap.size w w1) : LaidT w1 := ⟨h.1.below hb, Utf8Tabs_below h.2 hb⟩
abbrev laid3 : List (String × DataW Unit) := [("paymaster/block.constants", Rows.laid_paymaster_block_constants), ("unicode/utf8.acceptRanges", Rows.laid_unicode_utf8_acceptRanges), ("unicode/utf8.first", Rows.laid_unicode_utf8_first)]
theorem kConst_of_reads {w : World} (h : Lib.VarReads Tryd.prog w "paymaster/block.constants" Rows.laid_paymaster_block_constants) : Laid w := by
 obtain ⟨g, t, cs, fuel, p, hg, ht, hv, htr⟩ := h
 obtain rfl : g = 3 := Option.some.inj (hg.symm.trans kGlobal)
 obtain rfl : t = 238 := Option.some.inj (ht.symm.trans kGlobalType)
 have e : Rows.laid_paymaster_block_constants = Lib.tabData (H := Unit) .u32 kConst := by rfl
 rw [e] at htr
 have hc := Lib.cells_of_tab Tryd.underlying238 Tryd.underlying163 (by kernel_rfl) (by kernel_rfl) htr
 intro i hi
 rw [World.var?_cell kGlobal hv i]
 have hl : i < kConst.length := hi
 rw [← Array.getElem?_toList, hc, List.getElem?_map, List.getElem?_eq_getElem hl]
 simp [List.getD, List.getElem?_eq_getElem hl]
theorem accept_data : Rows.laid_unicode_utf8_acceptRanges = Lib.acceptData := by kernel_rfl
theorem first_data : Rows.laid_unicode_utf8_first = Lib.firstData := by kernel_rfl
theorem laidT_of_met {w : World} (h : laidMetH Tryd.prog laid3 w) : LaidT w := by
 have h : laidMet Tryd.prog laid3 w := h
 refine ⟨kConst_of_reads (Lib.laidMet.reads h (.head _)), ?_⟩
 have h1 := Lib.laidMet.reads h (.tail _ (.head _))
 have h2 := Lib.laidMet.reads h (.tail _ (.tail _ (.head _)))
 rw [accept_data] at h1
 rw [first_data] at h2
 exact utf8Tabs_of_readsT (U8Types.of196 Tryd.laysValid) ⟨by kernel_rfl, by kernel_rfl, by kernel_rfl, by kernel_rfl, by kernel_rfl, by kernel_rfl, by kernel_rfl⟩ h2 h1
noncomputable def laidWorldT (os : Os) : World := World.laidAll Tryd.prog os laid3
theorem laidWorldT_met (os : Os) (args : Array Value) : laidMetH Tryd.prog laid3 ((laidWorldT os).forCall (fun _ _ => 0) ⟨#[], args, []⟩).memory := laidMet_laidAll args (by kernel_rfl) (by kernel_rfl)
end Go.Proofs.YtijfifphcchbbaaDoor.P
namespace Go.Proofs.YtijfifphcchbbaaDoor.P
open Go.RowKit Go.Proofs.YtijfifphcchbbaaDoorW.PrintWords Go.Proofs.YtijfifphcchbbaaDoorW.PrintLast Go.Proofs.YtijfifphcchbbaaDoorW.PrintMore
attribute [local go_sem] max2_int min2_int max_two min_two max_three min_three max_four min_four-- for this text's walks alone
set_option linter.unusedVariables false
set_option linter.unusedSimpArgs false
mutual
def paymasterref07_Rune.j0 : Nat → ByteArray → Int → Bool → Option (Int × Int)
 | 0, _, _, _ => none
 | k + 1, x0, x1, x18 => if x18 = true then (some (0, 0)) else (if 0 ≤ x1 then (if x1 < (x0.size : Int) then (if (wrap64 (bt x0 x1)) < 128 then (some (wrap64 (bt x0 x1), 1)) else (if (wrap64 (bt x0 x1)) ≥ 192 then (paymasterref07_Rune.j1 k x0 x1 (wrap64 (bt x0 x1)) (decide ((wrap64 (bt x0 x1)) < 224))) else (paymasterref07_Rune.j1 k x0 x1 (wrap64 (bt x0 x1)) false))) else (none)) else (none))
def paymasterref07_Rune.j3 : Nat → ByteArray → Int → Int → Int → Int → Option (Int × Int)
 | 0, _, _, _, _, _ => none
 | k + 1, x0, x1, x7, x8, x9 => paymasterref07_Rune.l0 k x0 x1 x7 x8 x9 1
def paymasterref07_Rune.l0 : Nat → ByteArray → Int → Int → Int → Int → Int → Option (Int × Int)
 | 0, _, _, _, _, _, _ => none
 | k + 1, x0, x1, x7, x8, x9, x10 => if x10 < x7 then (if (wrap64 (x1 + x10)) ≥ (x0.size : Int) then (some (0, 0)) else (if 0 ≤ (wrap64 (x1 + x10)) then (if (wrap64 (x1 + x10)) < (x0.size : Int) then (if (bt x0 (wrap64 (x1 + x10))) < 128 then (some (0, 0)) else (if (bt x0 (wrap64 (x1 + x10))) ≥ 192 then (some (0, 0)) else (paymasterref07_Rune.l0 k x0 x1 x7 (wrap64 ((wrap64 ((wrap64 (64 * x8)) + (wrap64 (bt x0 (wrap64 (x1 + x10)))))) - 128)) x9 (wrap64 (x10 + 1))))) else (none)) else (none))) else (if x8 < x9 then (some (0, 0)) else (if x8 > 1114111 then (some (0, 0)) else (if x8 ≥ 55296 then (if x8 < 57344 then (some (0, 0)) else (some (x8, x7))) else (some (x8, x7)))))
def paymasterref07_Rune.j1 : Nat → ByteArray → Int → Int → Bool → Option (Int × Int)
 | 0, _, _, _, _ => none
 | k + 1, x0, x1, x6, x27 => if x27 = true then (paymasterref07_Rune.j3 k x0 x1 2 (wrap64 (x6 - 192)) 128) else (if x6 ≥ 224 then (paymasterref07_Rune.j2 k x0 x1 x6 (decide (x6 < 240))) else (paymasterref07_Rune.j2 k x0 x1 x6 false))
def paymasterref07_Rune.j2 : Nat → ByteArray → Int → Int → Bool → Option (Int × Int)
 | 0, _, _, _, _ => none
 | k + 1, x0, x1, x6, x36 => if x36 = true then (paymasterref07_Rune.j3 k x0 x1 3 (wrap64 (x6 - 224)) 2048) else (if x6 ≥ 240 then (if x6 < 248 then (paymasterref07_Rune.j3 k x0 x1 4 (wrap64 (x6 - 240)) 65536) else (some (0, 0))) else (some (0, 0)))
end
def paymasterref07_Rune.f (k : Nat) (a0 : ByteArray) (a1 : Int) : Option (Int × Int) := if a1 < 0 then (paymasterref07_Rune.j0 k a0 a1 true) else (paymasterref07_Rune.j0 k a0 a1 (decide (a1 ≥ (a0.size : Int))))
set_option maxHeartbeats 8000000 in
set_option maxRecDepth 100000 in
theorem paymasterref07_Rune.calls (k : Nat) (a0 : ByteArray) (a1 : Int) (r1 : Int) (r2 : Int) (w : World) (h : paymasterref07_Rune.f k a0 a1 = some (r1, r2)) :
  Calls Tryd.prog 161 #[.string a0, .int .i64 a1] w fun e w' => e = .returned (.tuple #[.int .i64 r1, .int .i64 r2]) ∧ Drawn0 w w' := by
 have H : (if a1 < 0 then (paymasterref07_Rune.j0 k a0 a1 true) else (paymasterref07_Rune.j0 k a0 a1 (decide (a1 ≥ (a0.size : Int))))) = some (r1, r2) := h
 clear h
 have HC3 := aM' H
 clear H
 go_enter Tryd.func161, Tryd.ntmps161
 go_upto_region 1 with (fail)
 go_cut [18] (fun v18 wc => ∃ (kq : Nat) (x18_2 : Bool), v18 = .bool x18_2 ∧ Aside0 (paymasterref07_Rune.j0 kq a0 a1 x18_2 = some (r1, r2)) ∧ Aside0 (kq ≤ k) ∧ Drawn0 w wc)
 case first =>
  have H := HC3.out
  clear HC3
  by_cases c4 : a1 < 0
  ·
   rw [if_pos c4] at H
   have c4b0 : decide (a1 < 0) = true := decide_eq_true c4
   clear c4
   (first | rw [c4b0] | (simp only [i64_w, i32_w]; rw [c4b0]) | skip)
   have H' := aM' H
   clear H
   go_wp2
   go_meet
   case rel => exact ⟨_, (true), (by first | rfl | (simp; done) | (simp [*]; done)), H', ⟨by first | omega | exact Nat.le_refl _⟩, by repeat (first | exact Drawn0.refl _ | apply Drawn0.step)⟩
  ·
   rw [if_neg c4] at H
   have c4b0 : decide (a1 < 0) = false := decide_eq_false c4
   clear c4
   (first | rw [c4b0] | (simp only [i64_w, i32_w]; rw [c4b0]) | skip)
   have H' := aM' H
   clear H
   go_wp2
   go_meet
   case rel => exact ⟨_, (decide (a1 ≥ (a0.size : Int))), (by first | rfl | (simp; done) | (simp [*]; done)), H', ⟨by first | omega | exact Nat.le_refl _⟩, by repeat (first | exact Drawn0.refl _ | apply Drawn0.step)⟩
 case rest =>
  clear HC3
  try clear c1
  try clear p2
  try clear c4
  try clear c4b0
  obtain ⟨kq, x18_2, rfl, HA, HJ2, ⟨mc2, rfl⟩⟩ := hcut
  cases kq with
  | zero => exact absurd HA.out (by simp [paymasterref07_Rune.j0])
  | succ kj2 =>
   have H := HA.out
   clear HA
   simp only [paymasterref07_Rune.j0] at H
   by_cases c5 : x18_2 = true
   ·
    subst c5
    have H1 : (some (0, 0)) = some (r1, r2) := by rw [if_pos rfl] at H; exact H
    clear H
    have H := H1
    clear H1
    simp only [Option.some.injEq, Prod.mk.injEq] at H
    obtain ⟨rfl, rfl⟩ := H
    go_wp2
    go_ret2
    exact ⟨by first | rfl | (simp; done) | (simp [*]; done), by repeat (first | exact Drawn0.refl _ | apply Drawn0.step)⟩
   ·
    replace c5 := Bool.eq_false_iff.mpr c5
    subst c5
    have H1 : (if 0 ≤ a1 then (if a1 < (a0.size : Int) then (if (wrap64 (bt a0 a1)) < 128 then (some (wrap64 (bt a0 a1), 1)) else (if (wrap64 (bt a0 a1)) ≥ 192 then (paymasterref07_Rune.j1 kj2 a0 a1 (wrap64 (bt a0 a1)) (decide ((wrap64 (bt a0 a1)) < 224))) else (paymasterref07_Rune.j1 kj2 a0 a1 (wrap64 (bt a0 a1)) false))) else (none)) else (none)) = some (r1, r2) := by rw [if_neg (show ¬ (false = true) by decide)] at H; exact H
    clear H
    have H := H1
    clear H1
    by_cases c6 : 0 ≤ a1
    ·
     rw [if_pos c6] at H
     have c6b0 : decide (0 ≤ a1) = true := decide_eq_true c6
     clear c6
     by_cases c7 : a1 < (a0.size : Int)
     ·
      rw [if_pos c7] at H
      have c7b0 : decide (a1 < (a0.size : Int)) = true := decide_eq_true c7
      clear c7
      have HC9 := aM' H
      clear H
      have p8 : 0 ≤ (a1 : Int) := of_decide_eq_true (by first | (with_reducible assumption) | assumption)
      have q8 : a1 < (a0.size : Int) := of_decide_eq_true (by first | (with_reducible assumption) | assumption)
      have hx8 := bt_at a0 a1
      replace p8 := eq_true p8
      replace q8 := eq_true q8
      go_upto_block 0 with (fail)
      go_cut [7, 8, 9] (fun v7 v8 v9 wc => ∃ (kq : Nat) (x7_8 : Int) (x8_8 : Int) (x9_8 : Int), v7 = .int .i64 x7_8 ∧ v8 = .int .i64 x8_8 ∧ v9 = .int .i64 x9_8 ∧ Aside0 (paymasterref07_Rune.j3 kq a0 a1 x7_8 x8_8 x9_8 = some (r1, r2)) ∧ Aside0 (kq ≤ kj2) ∧ Drawn0 w wc)
      case first =>
       have H := HC9.out
       clear HC9
       by_cases c10 : (wrap64 (bt a0 a1)) < 128
       ·
        rw [if_pos c10] at H
        have c10b0 : decide ((wrap64 (bt a0 a1)) < 128) = true := decide_eq_true c10
        clear c10
        (first | rw [c10b0] | (simp only [i64_w, i32_w]; rw [c10b0]) | skip)
        simp only [Option.some.injEq, Prod.mk.injEq] at H
        obtain ⟨rfl, rfl⟩ := H
        go_wp2
        go_ret2
        exact ⟨by first | rfl | (simp; done) | (simp [*]; done), by repeat (first | exact Drawn0.refl _ | apply Drawn0.step)⟩
       ·
        rw [if_neg c10] at H
        have c10b0 : decide ((wrap64 (bt a0 a1)) < 128) = false := decide_eq_false c10
        clear c10
        (first | rw [c10b0] | (simp only [i64_w, i32_w]; rw [c10b0]) | skip)
        have HC11 := aM' H
        clear H
        go_upto_region 8 with (fail)
        go_cut [27] (fun v27 wc => ∃ (kq : Nat) (x27_10 : Bool), v27 = .bool x27_10 ∧ Aside0 (paymasterref07_Rune.j1 kq a0 a1 (wrap64 (bt a0 a1)) x27_10 = some (r1, r2)) ∧ Aside0 (kq ≤ kj2) ∧ Drawn0 w wc)
        case first =>
         have H := HC11.out
         clear HC11
         by_cases c12 : (wrap64 (bt a0 a1)) ≥ 192
         ·
          rw [if_pos c12] at H
          have c12b0 : decide (192 ≤ (wrap64 (bt a0 a1))) = true := decide_eq_true c12
          clear c12
          (first | rw [c12b0] | (simp only [i64_w, i32_w]; rw [c12b0]) | skip)
          have H' := aM' H
          clear H
          go_wp2
          go_meet
          case rel => exact ⟨_, (decide ((wrap64 (bt a0 a1)) < 224)), (by first | rfl | (simp; done) | (simp [*]; done)), H', ⟨by have := HJ2.out; first | omega | exact Nat.le_refl _⟩, by repeat (first | exact Drawn0.refl _ | apply Drawn0.step)⟩
         ·
          rw [if_neg c12] at H
          have c12b0 : decide (192 ≤ (wrap64 (bt a0 a1))) = false := decide_eq_false c12
          clear c12
          (first | rw [c12b0] | (simp only [i64_w, i32_w]; rw [c12b0]) | skip)
          have H' := aM' H
          clear H
          go_wp2
          go_meet
          case rel => exact ⟨_, (false), (by first | rfl | (simp; done) | (simp [*]; done)), H', ⟨by have := HJ2.out; first | omega | exact Nat.le_refl _⟩, by repeat (first | exact Drawn0.refl _ | apply Drawn0.step)⟩
        case rest =>
         clear HC11
         try clear c1
         try clear c2
         try clear p2
         try clear c4
         try clear c4b0
         try clear c5
         try clear c6
         try clear c6b0
         try clear p6
         try clear c7
         try clear c7b0
         try clear p8
         try clear q8
         try clear hx8
         try clear c10
         try clear c10b0
         try clear c12
         try clear c12b0
         try clear p2
         try clear p8
         try clear q8
         obtain ⟨kq, x27_10, rfl, HA, HJ10, ⟨mc10, rfl⟩⟩ := hcut
         cases kq with
         | zero => exact absurd HA.out (by simp [paymasterref07_Rune.j1])
         | succ kj10 =>
          have H := HA.out
          clear HA
          simp only [paymasterref07_Rune.j1] at H
          by_cases c13 : x27_10 = true
          ·
           subst c13
           have H1 : (paymasterref07_Rune.j3 kj10 a0 a1 2 (wrap64 ((wrap64 (bt a0 a1)) - 192)) 128) = some (r1, r2) := by rw [if_pos rfl] at H; exact H
           clear H
           have H := H1
           clear H1
           have H' := aM' H
           clear H
           go_wp2
           go_meet
           case rel => exact ⟨_, (2), (wrap64 ((wrap64 (bt a0 a1)) - 192)), (128), (by first | rfl | (simp; done) | (simp [*]; done)), (by first | rfl | (simp; done) | (simp [*]; done)), (by first | rfl | (simp; done) | (simp [*]; done)), H', ⟨by have := HJ2.out; have := HJ10.out; first | omega | exact Nat.le_refl _⟩, by repeat (first | exact Drawn0.refl _ | apply Drawn0.step)⟩
          ·
           replace c13 := Bool.eq_false_iff.mpr c13
           subst c13
           have H1 : (if (wrap64 (bt a0 a1)) ≥ 224 then (paymasterref07_Rune.j2 kj10 a0 a1 (wrap64 (bt a0 a1)) (decide ((wrap64 (bt a0 a1)) < 240))) else (paymasterref07_Rune.j2 kj10 a0 a1 (wrap64 (bt a0 a1)) false)) = some (r1, r2) := by rw [if_neg (show ¬ (false = true) by decide)] at H; exact H
           clear H
           have H := H1
           clear H1
           have HC14 := aM' H
           clear H
           go_upto_region 10 with (fail)
           go_cut [36] (fun v36 wc => ∃ (kq : Nat) (x36_13 : Bool), v36 = .bool x36_13 ∧ Aside0 (paymasterref07_Rune.j2 kq a0 a1 (wrap64 (bt a0 a1)) x36_13 = some (r1, r2)) ∧ Aside0 (kq ≤ kj10) ∧ Drawn0 w wc)
           case first =>
            have H := HC14.out
            clear HC14
            by_cases c15 : (wrap64 (bt a0 a1)) ≥ 224
            ·
             rw [if_pos c15] at H
             have c15b0 : decide (224 ≤ (wrap64 (bt a0 a1))) = true := decide_eq_true c15
             clear c15
             (first | rw [c15b0] | (simp only [i64_w, i32_w]; rw [c15b0]) | skip)
             have H' := aM' H
             clear H
             go_wp2
             go_meet
             case rel => exact ⟨_, (decide ((wrap64 (bt a0 a1)) < 240)), (by first | rfl | (simp; done) | (simp [*]; done)), H', ⟨by have := HJ2.out; have := HJ10.out; first | omega | exact Nat.le_refl _⟩, by repeat (first | exact Drawn0.refl _ | apply Drawn0.step)⟩
            ·
             rw [if_neg c15] at H
             have c15b0 : decide (224 ≤ (wrap64 (bt a0 a1))) = false := decide_eq_false c15
             clear c15
             (first | rw [c15b0] | (simp only [i64_w, i32_w]; rw [c15b0]) | skip)
             have H' := aM' H
             clear H
             go_wp2
             go_meet
             case rel => exact ⟨_, (false), (by first | rfl | (simp; done) | (simp [*]; done)), H', ⟨by have := HJ2.out; have := HJ10.out; first | omega | exact Nat.le_refl _⟩, by repeat (first | exact Drawn0.refl _ | apply Drawn0.step)⟩
           case rest =>
            clear HC14
            try clear c1
            try clear c2
            try clear p2
            try clear c4
            try clear c4b0
            try clear c5
            try clear c6
            try clear c6b0
            try clear p6
            try clear c7
            try clear c7b0
            try clear p8
            try clear q8
            try clear hx8
            try clear c10
            try clear c10b0
            try clear c12
            try clear c12b0
            try clear c13
            try clear c15
            try clear c15b0
            try clear p2
            try clear p6
            try clear p8
            try clear q8
            obtain ⟨kq, x36_13, rfl, HA, HJ13, ⟨mc13, rfl⟩⟩ := hcut
            cases kq with
            | zero => exact absurd HA.out (by simp [paymasterref07_Rune.j2])
            | succ kj13 =>
             have H := HA.out
             clear HA
             simp only [paymasterref07_Rune.j2] at H
             by_cases c16 : x36_13 = true
             ·
              subst c16
              have H1 : (paymasterref07_Rune.j3 kj13 a0 a1 3 (wrap64 ((wrap64 (bt a0 a1)) - 224)) 2048) = some (r1, r2) := by rw [if_pos rfl] at H; exact H
              clear H
              have H := H1
              clear H1
              have H' := aM' H
              clear H
              go_wp2
              go_meet
              case rel => exact ⟨_, (3), (wrap64 ((wrap64 (bt a0 a1)) - 224)), (2048), (by first | rfl | (simp; done) | (simp [*]; done)), (by first | rfl | (simp; done) | (simp [*]; done)), (by first | rfl | (simp; done) | (simp [*]; done)), H', ⟨by have := HJ2.out; have := HJ10.out; have := HJ13.out; first | omega | exact Nat.le_refl _⟩, by repeat (first | exact Drawn0.refl _ | apply Drawn0.step)⟩
             ·
              replace c16 := Bool.eq_false_iff.mpr c16
              subst c16
              have H1 : (if (wrap64 (bt a0 a1)) ≥ 240 then (if (wrap64 (bt a0 a1)) < 248 then (paymasterref07_Rune.j3 kj13 a0 a1 4 (wrap64 ((wrap64 (bt a0 a1)) - 240)) 65536) else (some (0, 0))) else (some (0, 0))) = some (r1, r2) := by rw [if_neg (show ¬ (false = true) by decide)] at H; exact H
              clear H
              have H := H1
              clear H1
              by_cases c17 : (wrap64 (bt a0 a1)) ≥ 240
              ·
               rw [if_pos c17] at H
               have c17b0 : decide (240 ≤ (wrap64 (bt a0 a1))) = true := decide_eq_true c17
               clear c17
               by_cases c18 : (wrap64 (bt a0 a1)) < 248
               ·
                rw [if_pos c18] at H
                have c18b0 : decide ((wrap64 (bt a0 a1)) < 248) = true := decide_eq_true c18
                clear c18
                have H' := aM' H
                clear H
                go_wp2
                go_meet
                case rel => exact ⟨_, (4), (wrap64 ((wrap64 (bt a0 a1)) - 240)), (65536), (by first | rfl | (simp; done) | (simp [*]; done)), (by first | rfl | (simp; done) | (simp [*]; done)), (by first | rfl | (simp; done) | (simp [*]; done)), H', ⟨by have := HJ2.out; have := HJ10.out; have := HJ13.out; first | omega | exact Nat.le_refl _⟩, by repeat (first | exact Drawn0.refl _ | apply Drawn0.step)⟩
               ·
                rw [if_neg c18] at H
                have c18b0 : decide ((wrap64 (bt a0 a1)) < 248) = false := decide_eq_false c18
                clear c18
                simp only [Option.some.injEq, Prod.mk.injEq] at H
                obtain ⟨rfl, rfl⟩ := H
                go_wp2
                go_ret2
                exact ⟨by first | rfl | (simp; done) | (simp [*]; done), by repeat (first | exact Drawn0.refl _ | apply Drawn0.step)⟩
              ·
               rw [if_neg c17] at H
               have c17b0 : decide (240 ≤ (wrap64 (bt a0 a1))) = false := decide_eq_false c17
               clear c17
               simp only [Option.some.injEq, Prod.mk.injEq] at H
               obtain ⟨rfl, rfl⟩ := H
               go_wp2
               go_ret2
               exact ⟨by first | rfl | (simp; done) | (simp [*]; done), by repeat (first | exact Drawn0.refl _ | apply Drawn0.step)⟩
      case rest =>
       clear HC9
       try clear c1
       try clear c2
       try clear p2
       try clear c4
       try clear c4b0
       try clear c5
       try clear c6
       try clear c6b0
       try clear p6
       try clear c7
       try clear c7b0
       try clear p8
       try clear q8
       try clear hx8
       try clear c10
       try clear c10b0
       try clear c12
       try clear c12b0
       try clear c13
       try clear c15
       try clear c15b0
       try clear c16
       try clear c17
       try clear c17b0
       try clear c18
       try clear c18b0
       try clear p2
       try clear p6
       try clear p8
       try clear q8
       obtain ⟨kq, x7_8, x8_8, x9_8, rfl, rfl, rfl, HA, HJ8, ⟨mc8, rfl⟩⟩ := hcut
       cases kq with
       | zero => exact absurd HA.out (by simp [paymasterref07_Rune.j3])
       | succ kj8 =>
        have H := HA.out
        clear HA
        simp only [paymasterref07_Rune.j3] at H
        have H' := aM' H
        clear H
        go_wp2
        go_loopg [8, 10] kj8 (fun kq v8 v10 w' => ∃ (x8_3 : Int) (x10_3 : Int), v8 = .int .i64 x8_3 ∧ v10 = .int .i64 x10_3 ∧ Aside0 (paymasterref07_Rune.l0 kq a0 a1 x7_8 x8_3 x9_8 x10_3 = some (r1, r2)) ∧ Aside0 (kq ≤ kj8) ∧ Drawn0 w w')
        case atStart => exact ⟨(x8_8), (1), (by first | rfl | (simp; done) | (simp [*]; done)), (by first | rfl | (simp; done) | (simp [*]; done)), H', ⟨Nat.le_refl _⟩, by repeat (first | exact Drawn0.refl _ | apply Drawn0.step)⟩
        case round =>
         clear H'
         try clear c1
         try clear c2
         try clear p2
         try clear c4
         try clear c4b0
         try clear c5
         try clear c6
         try clear c6b0
         try clear p6
         try clear c7
         try clear c7b0
         try clear c8
         try clear p8
         try clear q8
         try clear hx8
         try clear c10
         try clear c10b0
         try clear c12
         try clear c12b0
         try clear c13
         try clear c15
         try clear c15b0
         try clear c16
         try clear c17
         try clear c17b0
         try clear c18
         try clear c18b0
         try clear p2
         try clear p6
         try clear p8
         try clear q8
         obtain ⟨x8_3, x10_3, rfl, rfl, HA, HK3, ⟨m3, rfl⟩⟩ := hrel
         cases gk with
         | zero => exact absurd HA.out (by simp [paymasterref07_Rune.l0])
         | succ k3 =>
          have H := HA.out
          clear HA
          simp only [paymasterref07_Rune.l0] at H
          by_cases c19 : x10_3 < x7_8
          ·
           rw [if_pos c19] at H
           have c19b0 : decide (x10_3 < x7_8) = true := decide_eq_true c19
           clear c19
           by_cases c20 : (wrap64 (a1 + x10_3)) ≥ (a0.size : Int)
           ·
            rw [if_pos c20] at H
            have c20b0 : decide ((a0.size : Int) ≤ (wrap64 (a1 + x10_3))) = true := decide_eq_true c20
            clear c20
            simp only [Option.some.injEq, Prod.mk.injEq] at H
            obtain ⟨rfl, rfl⟩ := H
            go_wp2
            go_ret2
            exact ⟨by first | rfl | (simp; done) | (simp [*]; done), by repeat (first | exact Drawn0.refl _ | apply Drawn0.step)⟩
           ·
            rw [if_neg c20] at H
            have c20b0 : decide ((a0.size : Int) ≤ (wrap64 (a1 + x10_3))) = false := decide_eq_false c20
            clear c20
            obtain ⟨ji21, hji21⟩ : ∃ j_ : Int, (wrap64 (a1 + x10_3)) = j_ := ⟨_, rfl⟩
            replace H : (if 0 ≤ (ji21) then (if (ji21) < (a0.size : Int) then (if (bt a0 (ji21)) < 128 then (some (0, 0)) else (if (bt a0 (ji21)) ≥ 192 then (some (0, 0)) else (paymasterref07_Rune.l0 k3 a0 a1 x7_8 (wrap64 ((wrap64 ((wrap64 (64 * x8_3)) + (wrap64 (bt a0 (ji21))))) - 128)) x9_8 (wrap64 (x10_3 + 1))))) else (none)) else (none)) = some (r1, r2) := by first | (rw [hji21] at H; exact H) | (simp only [hji21] at H ⊢; exact H)
            (try rw [hji21] at c20b0)
            have hji21w : (IntKind.i64.wrap (a1 + x10_3)) = ji21 := (i64_w _).trans hji21
            by_cases c22 : 0 ≤ (ji21)
            ·
             rw [if_pos c22] at H
             have c22b0 : decide (0 ≤ (ji21)) = true := decide_eq_true c22
             clear c22
             by_cases c23 : (ji21) < (a0.size : Int)
             ·
              rw [if_pos c23] at H
              have c23b0 : decide ((ji21) < (a0.size : Int)) = true := decide_eq_true c23
              clear c23
              by_cases c25 : (bt a0 (ji21)) < 128
              ·
               rw [if_pos c25] at H
               have c25b0 : decide ((bt a0 (ji21)) < 128) = true := decide_eq_true c25
               clear c25
               simp only [Option.some.injEq, Prod.mk.injEq] at H
               obtain ⟨rfl, rfl⟩ := H
               have p24 : 0 ≤ ((ji21) : Int) := of_decide_eq_true (by first | (with_reducible assumption) | assumption)
               have q24 : (ji21) < (a0.size : Int) := of_decide_eq_true (by first | (with_reducible assumption) | assumption)
               have hx24 := bt_at a0 (ji21)
               replace p24 := eq_true p24
               replace q24 := eq_true q24
               go_wp2
               go_ret2
               exact ⟨by first | rfl | (simp; done) | (simp only [← hji21] <;> (first | rfl | simp)) | (simp [*]; done), by repeat (first | exact Drawn0.refl _ | apply Drawn0.step)⟩
              ·
               rw [if_neg c25] at H
               have c25b0 : decide ((bt a0 (ji21)) < 128) = false := decide_eq_false c25
               clear c25
               by_cases c27 : (bt a0 (ji21)) ≥ 192
               ·
                rw [if_pos c27] at H
                have c27b0 : decide (192 ≤ (bt a0 (ji21))) = true := decide_eq_true c27
                clear c27
                simp only [Option.some.injEq, Prod.mk.injEq] at H
                obtain ⟨rfl, rfl⟩ := H
                have p24 : 0 ≤ ((ji21) : Int) := of_decide_eq_true (by first | (with_reducible assumption) | assumption)
                have q24 : (ji21) < (a0.size : Int) := of_decide_eq_true (by first | (with_reducible assumption) | assumption)
                have hx24 := bt_at a0 (ji21)
                replace p24 := eq_true p24
                replace q24 := eq_true q24
                have p26 : 0 ≤ ((ji21) : Int) := of_decide_eq_true (by first | (with_reducible assumption) | assumption)
                have q26 : (ji21) < (a0.size : Int) := of_decide_eq_true (by first | (with_reducible assumption) | assumption)
                have hx26 := bt_at a0 (ji21)
                replace p26 := eq_true p26
                replace q26 := eq_true q26
                go_wp2
                go_ret2
                exact ⟨by first | rfl | (simp; done) | (simp only [← hji21] <;> (first | rfl | simp)) | (simp [*]; done), by repeat (first | exact Drawn0.refl _ | apply Drawn0.step)⟩
               ·
                rw [if_neg c27] at H
                have c27b0 : decide (192 ≤ (bt a0 (ji21))) = false := decide_eq_false c27
                clear c27
                have H' := aM' H
                clear H
                have p24 : 0 ≤ ((ji21) : Int) := of_decide_eq_true (by first | (with_reducible assumption) | assumption)
                have q24 : (ji21) < (a0.size : Int) := of_decide_eq_true (by first | (with_reducible assumption) | assumption)
                have hx24 := bt_at a0 (ji21)
                replace p24 := eq_true p24
                replace q24 := eq_true q24
                have p26 : 0 ≤ ((ji21) : Int) := of_decide_eq_true (by first | (with_reducible assumption) | assumption)
                have q26 : (ji21) < (a0.size : Int) := of_decide_eq_true (by first | (with_reducible assumption) | assumption)
                have hx26 := bt_at a0 (ji21)
                replace p26 := eq_true p26
                replace q26 := eq_true q26
                have p28 : 0 ≤ ((ji21) : Int) := of_decide_eq_true (by first | (with_reducible assumption) | assumption)
                have q28 : (ji21) < (a0.size : Int) := of_decide_eq_true (by first | (with_reducible assumption) | assumption)
                have hx28 := bt_at a0 (ji21)
                replace p28 := eq_true p28
                replace q28 := eq_true q28
                go_wp2
                go_roundg k3
                case measure => have := HJ2.out; have := HJ8.out; have := HK3.out; omega
                case rel => exact ⟨(wrap64 ((wrap64 ((wrap64 (64 * x8_3)) + (wrap64 (bt a0 (ji21))))) - 128)), (wrap64 (x10_3 + 1)), (by first | rfl | (simp; done) | (simp only [← hji21] <;> (first | rfl | simp)) | (simp [*]; done)), (by first | rfl | (simp; done) | (simp [*]; done)), H', ⟨by have := HJ2.out; have := HJ8.out; have := HK3.out; omega⟩, by repeat (first | exact Drawn0.refl _ | apply Drawn0.step)⟩
             ·
              rw [if_neg c23] at H
              exact absurd H (by simp)
            ·
             rw [if_neg c22] at H
             exact absurd H (by simp)
          ·
           rw [if_neg c19] at H
           have c19b0 : decide (x10_3 < x7_8) = false := decide_eq_false c19
           clear c19
           by_cases c29 : x8_3 < x9_8
           ·
            rw [if_pos c29] at H
            have c29b0 : decide (x8_3 < x9_8) = true := decide_eq_true c29
            clear c29
            simp only [Option.some.injEq, Prod.mk.injEq] at H
            obtain ⟨rfl, rfl⟩ := H
            go_wp2
            go_ret2
            exact ⟨by first | rfl | (simp; done) | (simp [*]; done), by repeat (first | exact Drawn0.refl _ | apply Drawn0.step)⟩
           ·
            rw [if_neg c29] at H
            have c29b0 : decide (x8_3 < x9_8) = false := decide_eq_false c29
            clear c29
            by_cases c30 : x8_3 > 1114111
            ·
             rw [if_pos c30] at H
             have c30b0 : decide (1114111 < x8_3) = true := decide_eq_true c30
             clear c30
             simp only [Option.some.injEq, Prod.mk.injEq] at H
             obtain ⟨rfl, rfl⟩ := H
             go_wp2
             go_ret2
             exact ⟨by first | rfl | (simp; done) | (simp [*]; done), by repeat (first | exact Drawn0.refl _ | apply Drawn0.step)⟩
            ·
             rw [if_neg c30] at H
             have c30b0 : decide (1114111 < x8_3) = false := decide_eq_false c30
             clear c30
             by_cases c31 : x8_3 ≥ 55296
             ·
              rw [if_pos c31] at H
              have c31b0 : decide (55296 ≤ x8_3) = true := decide_eq_true c31
              clear c31
              by_cases c32 : x8_3 < 57344
              ·
               rw [if_pos c32] at H
               have c32b0 : decide (x8_3 < 57344) = true := decide_eq_true c32
               clear c32
               simp only [Option.some.injEq, Prod.mk.injEq] at H
               obtain ⟨rfl, rfl⟩ := H
               go_wp2
               go_ret2
               exact ⟨by first | rfl | (simp; done) | (simp [*]; done), by repeat (first | exact Drawn0.refl _ | apply Drawn0.step)⟩
              ·
               rw [if_neg c32] at H
               have c32b0 : decide (x8_3 < 57344) = false := decide_eq_false c32
               clear c32
               simp only [Option.some.injEq, Prod.mk.injEq] at H
               obtain ⟨rfl, rfl⟩ := H
               go_wp2
               go_ret2
               exact ⟨by first | rfl | (simp; done) | (simp [*]; done), by repeat (first | exact Drawn0.refl _ | apply Drawn0.step)⟩
             ·
              rw [if_neg c31] at H
              have c31b0 : decide (55296 ≤ x8_3) = false := decide_eq_false c31
              clear c31
              simp only [Option.some.injEq, Prod.mk.injEq] at H
              obtain ⟨rfl, rfl⟩ := H
              go_wp2
              go_ret2
              exact ⟨by first | rfl | (simp; done) | (simp [*]; done), by repeat (first | exact Drawn0.refl _ | apply Drawn0.step)⟩
     ·
      rw [if_neg c7] at H
      exact absurd H (by simp)
    ·
     rw [if_neg c6] at H
     exact absurd H (by simp)
end Go.Proofs.YtijfifphcchbbaaDoor.P
namespace Go.Proofs.YtijfifphcchbbaaDoor.P
open Go.RowKit Go.Proofs.YtijfifphcchbbaaDoorW.PrintWords Go.Proofs.YtijfifphcchbbaaDoorW.PrintLast Go.Proofs.YtijfifphcchbbaaDoorW.PrintMore
attribute [local go_sem] max2_int min2_int max_two min_two max_three min_three max_four min_four-- for this text's walks alone
set_option linter.unusedVariables false
set_option linter.unusedSimpArgs false
def paymasterref07_within.f (a0 : Int) : Option (Bool) := if a0 ≥ 97 then (if a0 ≤ 122 then (some true) else (if a0 ≥ 65 then (if a0 ≤ 90 then (some true) else (if a0 ≥ 48 then (if a0 ≤ 57 then (some true) else (if a0 = 46 then (some true) else (if a0 = 95 then (some true) else (if a0 = 45 then (some true) else (some (decide (a0 ≥ 161))))))) else (if a0 = 46 then (some true) else (if a0 = 95 then (some true) else (if a0 = 45 then (some true) else (some (decide (a0 ≥ 161)))))))) else (if a0 ≥ 48 then (if a0 ≤ 57 then (some true) else (if a0 = 46 then (some true) else (if a0 = 95 then (some true) else (if a0 = 45 then (some true) else (some (decide (a0 ≥ 161))))))) else (if a0 = 46 then (some true) else (if a0 = 95 then (some true) else (if a0 = 45 then (some true) else (some (decide (a0 ≥ 161))))))))) else (if a0 ≥ 65 then (if a0 ≤ 90 then (some true) else (if a0 ≥ 48 then (if a0 ≤ 57 then (some true) else (if a0 = 46 then (some true) else (if a0 = 95 then (some true) else (if a0 = 45 then (some true) else (some (decide (a0 ≥ 161))))))) else (if a0 = 46 then (some true) else (if a0 = 95 then (some true) else (if a0 = 45 then (some true) else (some (decide (a0 ≥ 161)))))))) else (if a0 ≥ 48 then (if a0 ≤ 57 then (some true) else (if a0 = 46 then (some true) else (if a0 = 95 then (some true) else (if a0 = 45 then (some true) else (some (decide (a0 ≥ 161))))))) else (if a0 = 46 then (some true) else (if a0 = 95 then (some true) else (if a0 = 45 then (some true) else (some (decide (a0 ≥ 161))))))))
set_option maxHeartbeats 8000000 in
set_option maxRecDepth 100000 in
theorem paymasterref07_within.calls (a0 : Int) (r : Bool) (w : World) (h : paymasterref07_within.f a0 = some r) :
  Calls Tryd.prog 162 #[.int .i64 a0] w fun e w' => e = .returned (.bool r) ∧ Drawn0 w w' := by
 have H : (if a0 ≥ 97 then (if a0 ≤ 122 then (some true) else (if a0 ≥ 65 then (if a0 ≤ 90 then (some true) else (if a0 ≥ 48 then (if a0 ≤ 57 then (some true) else (if a0 = 46 then (some true) else (if a0 = 95 then (some true) else (if a0 = 45 then (some true) else (some (decide (a0 ≥ 161))))))) else (if a0 = 46 then (some true) else (if a0 = 95 then (some true) else (if a0 = 45 then (some true) else (some (decide (a0 ≥ 161)))))))) else (if a0 ≥ 48 then (if a0 ≤ 57 then (some true) else (if a0 = 46 then (some true) else (if a0 = 95 then (some true) else (if a0 = 45 then (some true) else (some (decide (a0 ≥ 161))))))) else (if a0 = 46 then (some true) else (if a0 = 95 then (some true) else (if a0 = 45 then (some true) else (some (decide (a0 ≥ 161))))))))) else (if a0 ≥ 65 then (if a0 ≤ 90 then (some true) else (if a0 ≥ 48 then (if a0 ≤ 57 then (some true) else (if a0 = 46 then (some true) else (if a0 = 95 then (some true) else (if a0 = 45 then (some true) else (some (decide (a0 ≥ 161))))))) else (if a0 = 46 then (some true) else (if a0 = 95 then (some true) else (if a0 = 45 then (some true) else (some (decide (a0 ≥ 161)))))))) else (if a0 ≥ 48 then (if a0 ≤ 57 then (some true) else (if a0 = 46 then (some true) else (if a0 = 95 then (some true) else (if a0 = 45 then (some true) else (some (decide (a0 ≥ 161))))))) else (if a0 = 46 then (some true) else (if a0 = 95 then (some true) else (if a0 = 45 then (some true) else (some (decide (a0 ≥ 161))))))))) = some r := h
 clear h
 by_cases c2 : a0 ≥ 97
 ·
  rw [if_pos c2] at H
  have c2b0 : decide (97 ≤ a0) = true := decide_eq_true c2
  clear c2
  by_cases c3 : a0 ≤ 122
  ·
   rw [if_pos c3] at H
   have c3b0 : decide (a0 ≤ 122) = true := decide_eq_true c3
   clear c3
   obtain rfl := Option.some.inj H
   go_enter Tryd.func162, Tryd.ntmps162
   go_wp2
   go_ret
   exact ⟨by first | rfl | (simp; done) | (simp [*]; done), by repeat (first | exact Drawn0.refl _ | apply Drawn0.step)⟩
  ·
   rw [if_neg c3] at H
   have c3b0 : decide (a0 ≤ 122) = false := decide_eq_false c3
   clear c3
   by_cases c4 : a0 ≥ 65
   ·
    rw [if_pos c4] at H
    have c4b0 : decide (65 ≤ a0) = true := decide_eq_true c4
    clear c4
    by_cases c5 : a0 ≤ 90
    ·
     rw [if_pos c5] at H
     have c5b0 : decide (a0 ≤ 90) = true := decide_eq_true c5
     clear c5
     obtain rfl := Option.some.inj H
     go_enter Tryd.func162, Tryd.ntmps162
     go_wp2
     go_ret
     exact ⟨by first | rfl | (simp; done) | (simp [*]; done), by repeat (first | exact Drawn0.refl _ | apply Drawn0.step)⟩
    ·
     rw [if_neg c5] at H
     have c5b0 : decide (a0 ≤ 90) = false := decide_eq_false c5
     clear c5
     by_cases c6 : a0 ≥ 48
     ·
      rw [if_pos c6] at H
      have c6b0 : decide (48 ≤ a0) = true := decide_eq_true c6
      clear c6
      by_cases c7 : a0 ≤ 57
      ·
       rw [if_pos c7] at H
       have c7b0 : decide (a0 ≤ 57) = true := decide_eq_true c7
       clear c7
       obtain rfl := Option.some.inj H
       go_enter Tryd.func162, Tryd.ntmps162
       go_wp2
       go_ret
       exact ⟨by first | rfl | (simp; done) | (simp [*]; done), by repeat (first | exact Drawn0.refl _ | apply Drawn0.step)⟩
      ·
       rw [if_neg c7] at H
       have c7b0 : decide (a0 ≤ 57) = false := decide_eq_false c7
       clear c7
       by_cases c8 : a0 = 46
       ·
        rw [if_pos c8] at H
        have c8b0 : (a0 == 46) = true := beq_iff_eq.mpr c8
        have c8b1 : (a0 != 46) = false := bne_eq_false_iff_eq.mpr c8
        clear c8
        obtain rfl := Option.some.inj H
        go_enter Tryd.func162, Tryd.ntmps162
        go_wp2
        go_ret
        exact ⟨by first | rfl | (simp; done) | (simp [*]; done), by repeat (first | exact Drawn0.refl _ | apply Drawn0.step)⟩
       ·
        rw [if_neg c8] at H
        have c8b0 : (a0 == 46) = false := beq_eq_false_iff_ne.mpr c8
        have c8b1 : (a0 != 46) = true := bne_iff_ne.mpr c8
        by_cases c9 : a0 = 95
        ·
         rw [if_pos c9] at H
         have c9b0 : (a0 == 95) = true := beq_iff_eq.mpr c9
         have c9b1 : (a0 != 95) = false := bne_eq_false_iff_eq.mpr c9
         clear c9
         obtain rfl := Option.some.inj H
         go_enter Tryd.func162, Tryd.ntmps162
         go_wp2
         go_ret
         exact ⟨by first | rfl | (simp; done) | (simp [*]; done), by repeat (first | exact Drawn0.refl _ | apply Drawn0.step)⟩
        ·
         rw [if_neg c9] at H
         have c9b0 : (a0 == 95) = false := beq_eq_false_iff_ne.mpr c9
         have c9b1 : (a0 != 95) = true := bne_iff_ne.mpr c9
         by_cases c10 : a0 = 45
         ·
          rw [if_pos c10] at H
          have c10b0 : (a0 == 45) = true := beq_iff_eq.mpr c10
          have c10b1 : (a0 != 45) = false := bne_eq_false_iff_eq.mpr c10
          clear c10
          obtain rfl := Option.some.inj H
          go_enter Tryd.func162, Tryd.ntmps162
          go_wp2
          go_ret
          exact ⟨by first | rfl | (simp; done) | (simp [*]; done), by repeat (first | exact Drawn0.refl _ | apply Drawn0.step)⟩
         ·
          rw [if_neg c10] at H
          have c10b0 : (a0 == 45) = false := beq_eq_false_iff_ne.mpr c10
          have c10b1 : (a0 != 45) = true := bne_iff_ne.mpr c10
          obtain rfl := Option.some.inj H
          go_enter Tryd.func162, Tryd.ntmps162
          go_wp2
          go_ret
          exact ⟨by first | rfl | (simp; done) | (simp [*]; done), by repeat (first | exact Drawn0.refl _ | apply Drawn0.step)⟩
     ·
      rw [if_neg c6] at H
      have c6b0 : decide (48 ≤ a0) = false := decide_eq_false c6
      clear c6
      by_cases c11 : a0 = 46
      ·
       rw [if_pos c11] at H
       have c11b0 : (a0 == 46) = true := beq_iff_eq.mpr c11
       have c11b1 : (a0 != 46) = false := bne_eq_false_iff_eq.mpr c11
       clear c11
       obtain rfl := Option.some.inj H
       go_enter Tryd.func162, Tryd.ntmps162
       go_wp2
       go_ret
       exact ⟨by first | rfl | (simp; done) | (simp [*]; done), by repeat (first | exact Drawn0.refl _ | apply Drawn0.step)⟩
      ·
       rw [if_neg c11] at H
       have c11b0 : (a0 == 46) = false := beq_eq_false_iff_ne.mpr c11
       have c11b1 : (a0 != 46) = true := bne_iff_ne.mpr c11
       by_cases c12 : a0 = 95
       ·
        rw [if_pos c12] at H
        have c12b0 : (a0 == 95) = true := beq_iff_eq.mpr c12
        have c12b1 : (a0 != 95) = false := bne_eq_false_iff_eq.mpr c12
        clear c12
        obtain rfl := Option.some.inj H
        go_enter Tryd.func162, Tryd.ntmps162
        go_wp2
        go_ret
        exact ⟨by first | rfl | (simp; done) | (simp [*]; done), by repeat (first | exact Drawn0.refl _ | apply Drawn0.step)⟩
       ·
        rw [if_neg c12] at H
        have c12b0 : (a0 == 95) = false := beq_eq_false_iff_ne.mpr c12
        have c12b1 : (a0 != 95) = true := bne_iff_ne.mpr c12
        by_cases c13 : a0 = 45
        ·
         rw [if_pos c13] at H
         have c13b0 : (a0 == 45) = true := beq_iff_eq.mpr c13
         have c13b1 : (a0 != 45) = false := bne_eq_false_iff_eq.mpr c13
         clear c13
         obtain rfl := Option.some.inj H
         go_enter Tryd.func162, Tryd.ntmps162
         go_wp2
         go_ret
         exact ⟨by first | rfl | (simp; done) | (simp [*]; done), by repeat (first | exact Drawn0.refl _ | apply Drawn0.step)⟩
        ·
         rw [if_neg c13] at H
         have c13b0 : (a0 == 45) = false := beq_eq_false_iff_ne.mpr c13
         have c13b1 : (a0 != 45) = true := bne_iff_ne.mpr c13
         obtain rfl := Option.some.inj H
         go_enter Tryd.func162, Tryd.ntmps162
         go_wp2
         go_ret
         exact ⟨by first | rfl | (simp; done) | (simp [*]; done), by repeat (first | exact Drawn0.refl _ | apply Drawn0.step)⟩
   ·
    rw [if_neg c4] at H
    have c4b0 : decide (65 ≤ a0) = false := decide_eq_false c4
    clear c4
    by_cases c14 : a0 ≥ 48
    ·
     rw [if_pos c14] at H
     have c14b0 : decide (48 ≤ a0) = true := decide_eq_true c14
     clear c14
     by_cases c15 : a0 ≤ 57
     ·
      rw [if_pos c15] at H
      have c15b0 : decide (a0 ≤ 57) = true := decide_eq_true c15
      clear c15
      obtain rfl := Option.some.inj H
      go_enter Tryd.func162, Tryd.ntmps162
      go_wp2
      go_ret
      exact ⟨by first | rfl | (simp; done) | (simp [*]; done), by repeat (first | exact Drawn0.refl _ | apply Drawn0.step)⟩
     ·
      rw [if_neg c15] at H
      have c15b0 : decide (a0 ≤ 57) = false := decide_eq_false c15
      clear c15
      by_cases c16 : a0 = 46
      ·
       rw [if_pos c16] at H
       have c16b0 : (a0 == 46) = true := beq_iff_eq.mpr c16
       have c16b1 : (a0 != 46) = false := bne_eq_false_iff_eq.mpr c16
       clear c16
       obtain rfl := Option.some.inj H
       go_enter Tryd.func162, Tryd.ntmps162
       go_wp2
       go_ret
       exact ⟨by first | rfl | (simp; done) | (simp [*]; done), by repeat (first | exact Drawn0.refl _ | apply Drawn0.step)⟩
      ·
       rw [if_neg c16] at H
       have c16b0 : (a0 == 46) = false := beq_eq_false_iff_ne.mpr c16
       have c16b1 : (a0 != 46) = true := bne_iff_ne.mpr c16
       by_cases c17 : a0 = 95
       ·
        rw [if_pos c17] at H
        have c17b0 : (a0 == 95) = true := beq_iff_eq.mpr c17
        have c17b1 : (a0 != 95) = false := bne_eq_false_iff_eq.mpr c17
        clear c17
        obtain rfl := Option.some.inj H
        go_enter Tryd.func162, Tryd.ntmps162
        go_wp2
        go_ret
        exact ⟨by first | rfl | (simp; done) | (simp [*]; done), by repeat (first | exact Drawn0.refl _ | apply Drawn0.step)⟩
       ·
        rw [if_neg c17] at H
        have c17b0 : (a0 == 95) = false := beq_eq_false_iff_ne.mpr c17
        have c17b1 : (a0 != 95) = true := bne_iff_ne.mpr c17
        by_cases c18 : a0 = 45
        ·
         rw [if_pos c18] at H
         have c18b0 : (a0 == 45) = true := beq_iff_eq.mpr c18
         have c18b1 : (a0 != 45) = false := bne_eq_false_iff_eq.mpr c18
         clear c18
         obtain rfl := Option.some.inj H
         go_enter Tryd.func162, Tryd.ntmps162
         go_wp2
         go_ret
         exact ⟨by first | rfl | (simp; done) | (simp [*]; done), by repeat (first | exact Drawn0.refl _ | apply Drawn0.step)⟩
        ·
         rw [if_neg c18] at H
         have c18b0 : (a0 == 45) = false := beq_eq_false_iff_ne.mpr c18
         have c18b1 : (a0 != 45) = true := bne_iff_ne.mpr c18
         obtain rfl := Option.some.inj H
         go_enter Tryd.func162, Tryd.ntmps162
         go_wp2
         go_ret
         exact ⟨by first | rfl | (simp; done) | (simp [*]; done), by repeat (first | exact Drawn0.refl _ | apply Drawn0.step)⟩
    ·
     rw [if_neg c14] at H
     have c14b0 : decide (48 ≤ a0) = false := decide_eq_false c14
     clear c14
     by_cases c19 : a0 = 46
     ·
      rw [if_pos c19] at H
      have c19b0 : (a0 == 46) = true := beq_iff_eq.mpr c19
      have c19b1 : (a0 != 46) = false := bne_eq_false_iff_eq.mpr c19
      clear c19
      obtain rfl := Option.some.inj H
      go_enter Tryd.func162, Tryd.ntmps162
      go_wp2
      go_ret
      exact ⟨by first | rfl | (simp; done) | (simp [*]; done), by repeat (first | exact Drawn0.refl _ | apply Drawn0.step)⟩
     ·
      rw [if_neg c19] at H
      have c19b0 : (a0 == 46) = false := beq_eq_false_iff_ne.mpr c19
      have c19b1 : (a0 != 46) = true := bne_iff_ne.mpr c19
      by_cases c20 : a0 = 95
      ·
       rw [if_pos c20] at H
       have c20b0 : (a0 == 95) = true := beq_iff_eq.mpr c20
       have c20b1 : (a0 != 95) = false := bne_eq_false_iff_eq.mpr c20
       clear c20
       obtain rfl := Option.some.inj H
       go_enter Tryd.func162, Tryd.ntmps162
       go_wp2
       go_ret
       exact ⟨by first | rfl | (simp; done) | (simp [*]; done), by repeat (first | exact Drawn0.refl _ | apply Drawn0.step)⟩
      ·
       rw [if_neg c20] at H
       have c20b0 : (a0 == 95) = false := beq_eq_false_iff_ne.mpr c20
       have c20b1 : (a0 != 95) = true := bne_iff_ne.mpr c20
       by_cases c21 : a0 = 45
       ·
        rw [if_pos c21] at H
        have c21b0 : (a0 == 45) = true := beq_iff_eq.mpr c21
        have c21b1 : (a0 != 45) = false := bne_eq_false_iff_eq.mpr c21
        clear c21
        obtain rfl := Option.some.inj H
        go_enter Tryd.func162, Tryd.ntmps162
        go_wp2
        go_ret
        exact ⟨by first | rfl | (simp; done) | (simp [*]; done), by repeat (first | exact Drawn0.refl _ | apply Drawn0.step)⟩
       ·
        rw [if_neg c21] at H
        have c21b0 : (a0 == 45) = false := beq_eq_false_iff_ne.mpr c21
        have c21b1 : (a0 != 45) = true := bne_iff_ne.mpr c21
        obtain rfl := Option.some.inj H
        go_enter Tryd.func162, Tryd.ntmps162
        go_wp2
        go_ret
        exact ⟨by first | rfl | (simp; done) | (simp [*]; done), by repeat (first | exact Drawn0.refl _ | apply Drawn0.step)⟩
 ·
  rw [if_neg c2] at H
  have c2b0 : decide (97 ≤ a0) = false := decide_eq_false c2
  clear c2
  by_cases c22 : a0 ≥ 65
  ·
   rw [if_pos c22] at H
   have c22b0 : decide (65 ≤ a0) = true := decide_eq_true c22
   clear c22
   by_cases c23 : a0 ≤ 90
   ·
    rw [if_pos c23] at H
    have c23b0 : decide (a0 ≤ 90) = true := decide_eq_true c23
    clear c23
    obtain rfl := Option.some.inj H
    go_enter Tryd.func162, Tryd.ntmps162
    go_wp2
    go_ret
    exact ⟨by first | rfl | (simp; done) | (simp [*]; done), by repeat (first | exact Drawn0.refl _ | apply Drawn0.step)⟩
   ·
    rw [if_neg c23] at H
    have c23b0 : decide (a0 ≤ 90) = false := decide_eq_false c23
    clear c23
    by_cases c24 : a0 ≥ 48
    ·
     rw [if_pos c24] at H
     have c24b0 : decide (48 ≤ a0) = true := decide_eq_true c24
     clear c24
     by_cases c25 : a0 ≤ 57
     ·
      rw [if_pos c25] at H
      have c25b0 : decide (a0 ≤ 57) = true := decide_eq_true c25
      clear c25
      obtain rfl := Option.some.inj H
      go_enter Tryd.func162, Tryd.ntmps162
      go_wp2
      go_ret
      exact ⟨by first | rfl | (simp; done) | (simp [*]; done), by repeat (first | exact Drawn0.refl _ | apply Drawn0.step)⟩
     ·
      rw [if_neg c25] at H
      have c25b0 : decide (a0 ≤ 57) = false := decide_eq_false c25
      clear c25
      by_cases c26 : a0 = 46
      ·
       rw [if_pos c26] at H
       have c26b0 : (a0 == 46) = true := beq_iff_eq.mpr c26
       have c26b1 : (a0 != 46) = false := bne_eq_false_iff_eq.mpr c26
       clear c26
       obtain rfl := Option.some.inj H
       go_enter Tryd.func162, Tryd.ntmps162
       go_wp2
       go_ret
       exact ⟨by first | rfl | (simp; done) | (simp [*]; done), by repeat (first | exact Drawn0.refl _ | apply Drawn0.step)⟩
      ·
       rw [if_neg c26] at H
       have c26b0 : (a0 == 46) = false := beq_eq_false_iff_ne.mpr c26
       have c26b1 : (a0 != 46) = true := bne_iff_ne.mpr c26
       by_cases c27 : a0 = 95
       ·
        rw [if_pos c27] at H
        have c27b0 : (a0 == 95) = true := beq_iff_eq.mpr c27
        have c27b1 : (a0 != 95) = false := bne_eq_false_iff_eq.mpr c27
        clear c27
        obtain rfl := Option.some.inj H
        go_enter Tryd.func162, Tryd.ntmps162
        go_wp2
        go_ret
        exact ⟨by first | rfl | (simp; done) | (simp [*]; done), by repeat (first | exact Drawn0.refl _ | apply Drawn0.step)⟩
       ·
        rw [if_neg c27] at H
        have c27b0 : (a0 == 95) = false := beq_eq_false_iff_ne.mpr c27
        have c27b1 : (a0 != 95) = true := bne_iff_ne.mpr c27
        by_cases c28 : a0 = 45
        ·
         rw [if_pos c28] at H
         have c28b0 : (a0 == 45) = true := beq_iff_eq.mpr c28
         have c28b1 : (a0 != 45) = false := bne_eq_false_iff_eq.mpr c28
         clear c28
         obtain rfl := Option.some.inj H
         go_enter Tryd.func162, Tryd.ntmps162
         go_wp2
         go_ret
         exact ⟨by first | rfl | (simp; done) | (simp [*]; done), by repeat (first | exact Drawn0.refl _ | apply Drawn0.step)⟩
        ·
         rw [if_neg c28] at H
         have c28b0 : (a0 == 45) = false := beq_eq_false_iff_ne.mpr c28
         have c28b1 : (a0 != 45) = true := bne_iff_ne.mpr c28
         obtain rfl := Option.some.inj H
         go_enter Tryd.func162, Tryd.ntmps162
         go_wp2
         go_ret
         exact ⟨by first | rfl | (simp; done) | (simp [*]; done), by repeat (first | exact Drawn0.refl _ | apply Drawn0.step)⟩
    ·
     rw [if_neg c24] at H
     have c24b0 : decide (48 ≤ a0) = false := decide_eq_false c24
     clear c24
     by_cases c29 : a0 = 46
     ·
      rw [if_pos c29] at H
      have c29b0 : (a0 == 46) = true := beq_iff_eq.mpr c29
      have c29b1 : (a0 != 46) = false := bne_eq_false_iff_eq.mpr c29
      clear c29
      obtain rfl := Option.some.inj H
      go_enter Tryd.func162, Tryd.ntmps162
      go_wp2
      go_ret
      exact ⟨by first | rfl | (simp; done) | (simp [*]; done), by repeat (first | exact Drawn0.refl _ | apply Drawn0.step)⟩
     ·
      rw [if_neg c29] at H
      have c29b0 : (a0 == 46) = false := beq_eq_false_iff_ne.mpr c29
      have c29b1 : (a0 != 46) = true := bne_iff_ne.mpr c29
      by_cases c30 : a0 = 95
      ·
       rw [if_pos c30] at H
       have c30b0 : (a0 == 95) = true := beq_iff_eq.mpr c30
       have c30b1 : (a0 != 95) = false := bne_eq_false_iff_eq.mpr c30
       clear c30
       obtain rfl := Option.some.inj H
       go_enter Tryd.func162, Tryd.ntmps162
       go_wp2
       go_ret
       exact ⟨by first | rfl | (simp; done) | (simp [*]; done), by repeat (first | exact Drawn0.refl _ | apply Drawn0.step)⟩
      ·
       rw [if_neg c30] at H
       have c30b0 : (a0 == 95) = false := beq_eq_false_iff_ne.mpr c30
       have c30b1 : (a0 != 95) = true := bne_iff_ne.mpr c30
       by_cases c31 : a0 = 45
       ·
        rw [if_pos c31] at H
        have c31b0 : (a0 == 45) = true := beq_iff_eq.mpr c31
        have c31b1 : (a0 != 45) = false := bne_eq_false_iff_eq.mpr c31
        clear c31
        obtain rfl := Option.some.inj H
        go_enter Tryd.func162, Tryd.ntmps162
        go_wp2
        go_ret
        exact ⟨by first | rfl | (simp; done) | (simp [*]; done), by repeat (first | exact Drawn0.refl _ | apply Drawn0.step)⟩
       ·
        rw [if_neg c31] at H
        have c31b0 : (a0 == 45) = false := beq_eq_false_iff_ne.mpr c31
        have c31b1 : (a0 != 45) = true := bne_iff_ne.mpr c31
        obtain rfl := Option.some.inj H
        go_enter Tryd.func162, Tryd.ntmps162
        go_wp2
        go_ret
        exact ⟨by first | rfl | (simp; done) | (simp [*]; done), by repeat (first | exact Drawn0.refl _ | apply Drawn0.step)⟩
  ·
   rw [if_neg c22] at H
   have c22b0 : decide (65 ≤ a0) = false := decide_eq_false c22
   clear c22
   by_cases c32 : a0 ≥ 48
   ·
    rw [if_pos c32] at H
    have c32b0 : decide (48 ≤ a0) = true := decide_eq_true c32
    clear c32
    by_cases c33 : a0 ≤ 57
    ·
     rw [if_pos c33] at H
     have c33b0 : decide (a0 ≤ 57) = true := decide_eq_true c33
     clear c33
     obtain rfl := Option.some.inj H
     go_enter Tryd.func162, Tryd.ntmps162
     go_wp2
     go_ret
     exact ⟨by first | rfl | (simp; done) | (simp [*]; done), by repeat (first | exact Drawn0.refl _ | apply Drawn0.step)⟩
    ·
     rw [if_neg c33] at H
     have c33b0 : decide (a0 ≤ 57) = false := decide_eq_false c33
     clear c33
     by_cases c34 : a0 = 46
     ·
      rw [if_pos c34] at H
      have c34b0 : (a0 == 46) = true := beq_iff_eq.mpr c34
      have c34b1 : (a0 != 46) = false := bne_eq_false_iff_eq.mpr c34
      clear c34
      obtain rfl := Option.some.inj H
      go_enter Tryd.func162, Tryd.ntmps162
      go_wp2
      go_ret
      exact ⟨by first | rfl | (simp; done) | (simp [*]; done), by repeat (first | exact Drawn0.refl _ | apply Drawn0.step)⟩
     ·
      rw [if_neg c34] at H
      have c34b0 : (a0 == 46) = false := beq_eq_false_iff_ne.mpr c34
      have c34b1 : (a0 != 46) = true := bne_iff_ne.mpr c34
      by_cases c35 : a0 = 95
      ·
       rw [if_pos c35] at H
       have c35b0 : (a0 == 95) = true := beq_iff_eq.mpr c35
       have c35b1 : (a0 != 95) = false := bne_eq_false_iff_eq.mpr c35
       clear c35
       obtain rfl := Option.some.inj H
       go_enter Tryd.func162, Tryd.ntmps162
       go_wp2
       go_ret
       exact ⟨by first | rfl | (simp; done) | (simp [*]; done), by repeat (first | exact Drawn0.refl _ | apply Drawn0.step)⟩
      ·
       rw [if_neg c35] at H
       have c35b0 : (a0 == 95) = false := beq_eq_false_iff_ne.mpr c35
       have c35b1 : (a0 != 95) = true := bne_iff_ne.mpr c35
       by_cases c36 : a0 = 45
       ·
        rw [if_pos c36] at H
        have c36b0 : (a0 == 45) = true := beq_iff_eq.mpr c36
        have c36b1 : (a0 != 45) = false := bne_eq_false_iff_eq.mpr c36
        clear c36
        obtain rfl := Option.some.inj H
        go_enter Tryd.func162, Tryd.ntmps162
        go_wp2
        go_ret
        exact ⟨by first | rfl | (simp; done) | (simp [*]; done), by repeat (first | exact Drawn0.refl _ | apply Drawn0.step)⟩
       ·
        rw [if_neg c36] at H
        have c36b0 : (a0 == 45) = false := beq_eq_false_iff_ne.mpr c36
        have c36b1 : (a0 != 45) = true := bne_iff_ne.mpr c36
        obtain rfl := Option.some.inj H
        go_enter Tryd.func162, Tryd.ntmps162
        go_wp2
        go_ret
        exact ⟨by first | rfl | (simp; done) | (simp [*]; done), by repeat (first | exact Drawn0.refl _ | apply Drawn0.step)⟩
   ·
    rw [if_neg c32] at H
    have c32b0 : decide (48 ≤ a0) = false := decide_eq_false c32
    clear c32
    by_cases c37 : a0 = 46
    ·
     rw [if_pos c37] at H
     have c37b0 : (a0 == 46) = true := beq_iff_eq.mpr c37
     have c37b1 : (a0 != 46) = false := bne_eq_false_iff_eq.mpr c37
     clear c37
     obtain rfl := Option.some.inj H
     go_enter Tryd.func162, Tryd.ntmps162
     go_wp2
     go_ret
     exact ⟨by first | rfl | (simp; done) | (simp [*]; done), by repeat (first | exact Drawn0.refl _ | apply Drawn0.step)⟩
    ·
     rw [if_neg c37] at H
     have c37b0 : (a0 == 46) = false := beq_eq_false_iff_ne.mpr c37
     have c37b1 : (a0 != 46) = true := bne_iff_ne.mpr c37
     by_cases c38 : a0 = 95
     ·
      rw [if_pos c38] at H
      have c38b0 : (a0 == 95) = true := beq_iff_eq.mpr c38
      have c38b1 : (a0 != 95) = false := bne_eq_false_iff_eq.mpr c38
      clear c38
      obtain rfl := Option.some.inj H
      go_enter Tryd.func162, Tryd.ntmps162
      go_wp2
      go_ret
      exact ⟨by first | rfl | (simp; done) | (simp [*]; done), by repeat (first | exact Drawn0.refl _ | apply Drawn0.step)⟩
     ·
      rw [if_neg c38] at H
      have c38b0 : (a0 == 95) = false := beq_eq_false_iff_ne.mpr c38
      have c38b1 : (a0 != 95) = true := bne_iff_ne.mpr c38
      by_cases c39 : a0 = 45
      ·
       rw [if_pos c39] at H
       have c39b0 : (a0 == 45) = true := beq_iff_eq.mpr c39
       have c39b1 : (a0 != 45) = false := bne_eq_false_iff_eq.mpr c39
       clear c39
       obtain rfl := Option.some.inj H
       go_enter Tryd.func162, Tryd.ntmps162
       go_wp2
       go_ret
       exact ⟨by first | rfl | (simp; done) | (simp [*]; done), by repeat (first | exact Drawn0.refl _ | apply Drawn0.step)⟩
      ·
       rw [if_neg c39] at H
       have c39b0 : (a0 == 45) = false := beq_eq_false_iff_ne.mpr c39
       have c39b1 : (a0 != 45) = true := bne_iff_ne.mpr c39
       obtain rfl := Option.some.inj H
       go_enter Tryd.func162, Tryd.ntmps162
       go_wp2
       go_ret
       exact ⟨by first | rfl | (simp; done) | (simp [*]; done), by repeat (first | exact Drawn0.refl _ | apply Drawn0.step)⟩
def paymasterref07_MayId.l0 : Nat → ByteArray → Int → Int → Option (Bool)
 | 0, _, _, _ => none
 | k + 1, x0, x3, x4 => if x4 < (x0.size : Int) then ((paymasterref07_Rune.f k x0 x4).bind fun bt109 => (if bt109.2 = 0 then (some false) else ((paymasterref07_within.f bt109.1).bind fun t111 => (if t111 = true then (paymasterref07_MayId.l0 k x0 (wrap64 (x3 + 1)) (wrap64 (x4 + bt109.2))) else (some false))))) else (if x3 ≥ 1 then (some (decide (x3 ≤ 24))) else (some false))
def paymasterref07_MayId.f (k : Nat) (a0 : ByteArray) : Option (Bool) := paymasterref07_MayId.l0 k a0 0 0
set_option maxHeartbeats 8000000 in
set_option maxRecDepth 100000 in
theorem paymasterref07_MayId.calls (k : Nat) (a0 : ByteArray) (r : Bool) (w : World) (h : paymasterref07_MayId.f k a0 = some r) :
  Calls Tryd.prog 134 #[.string a0] w fun e w' => e = .returned (.bool r) ∧ Drawn0 w w' := by
 have H : (paymasterref07_MayId.l0 k a0 0 0) = some r := h
 clear h
 have H' := aM' H
 clear H
 go_enter Tryd.func134, Tryd.ntmps134
 go_wp2
 go_loopg [3, 4] k (fun kq v3 v4 w' => ∃ (x3_1 : Int) (x4_1 : Int), v3 = .int .i64 x3_1 ∧ v4 = .int .i64 x4_1 ∧ Aside0 (paymasterref07_MayId.l0 kq a0 x3_1 x4_1 = some r) ∧ Aside0 (kq ≤ k) ∧ Drawn0 w w')
 case atStart => exact ⟨(0), (0), (by first | rfl | (simp; done) | (simp [*]; done)), (by first | rfl | (simp; done) | (simp [*]; done)), H', ⟨Nat.le_refl _⟩, by repeat (first | exact Drawn0.refl _ | apply Drawn0.step)⟩
 case round =>
  clear H'
  try clear c1
  obtain ⟨x3_1, x4_1, rfl, rfl, HA, HK1, ⟨m1, rfl⟩⟩ := hrel
  cases gk with
  | zero => exact absurd HA.out (by simp [paymasterref07_MayId.l0])
  | succ k1 =>
   have H := HA.out
   clear HA
   simp only [paymasterref07_MayId.l0] at H
   by_cases c2 : x4_1 < (a0.size : Int)
   ·
    rw [if_pos c2] at H
    have c2b0 : decide (x4_1 < (a0.size : Int)) = true := decide_eq_true c2
    clear c2
    replace H := Option.bind_eq_some_iff.mp H
    obtain ⟨⟨t109, t110⟩, A30, H⟩ := H
    replace H : (if t110 = 0 then (some false) else ((paymasterref07_within.f t109).bind fun t111 => (if t111 = true then (paymasterref07_MayId.l0 k1 a0 (wrap64 (x3_1 + 1)) (wrap64 (x4_1 + t110))) else (some false)))) = some r := H
    have A3 := aM' A30
    clear A30
    by_cases c4 : t110 = 0
    ·
     rw [if_pos c4] at H
     have c4b0 : (t110 == 0) = true := beq_iff_eq.mpr c4
     have c4b1 : (t110 != 0) = false := bne_eq_false_iff_eq.mpr c4
     clear c4
     obtain rfl := Option.some.inj H
     go_wp2_with (first | ((with_reducible refine gate_callee (f := 161) rfl ?_); refine goesL_ (some 14) rfl rfl Tryd.func161 (by kernel_rfl) rfl #[.string a0, .int .i64 x4_1] rfl (by (try simp only [List.map_toArray, List.map_cons, List.map_nil]); first | done | rfl | (simp only [List.length_drop, List.length_take]; rfl)) ?_; (with_reducible refine (paymasterref07_Rune.calls k1 a0 x4_1 t109 t110 _ A3.out).mono ?_); rintro e w' ⟨rfl, ⟨nd, rfl⟩⟩; refine ⟨_, rfl, ?_⟩))
     go_ret
     exact ⟨by first | rfl | (simp; done) | (simp [*]; done), by repeat (first | exact Drawn0.refl _ | apply Drawn0.step)⟩
    ·
     rw [if_neg c4] at H
     have c4b0 : (t110 == 0) = false := beq_eq_false_iff_ne.mpr c4
     have c4b1 : (t110 != 0) = true := bne_iff_ne.mpr c4
     replace H := Option.bind_eq_some_iff.mp H
     obtain ⟨t111, A50, H⟩ := H
     replace H : (if t111 = true then (paymasterref07_MayId.l0 k1 a0 (wrap64 (x3_1 + 1)) (wrap64 (x4_1 + t110))) else (some false)) = some r := H
     have A5 := aM' A50
     clear A50
     by_cases c6 : t111 = true
     ·
      subst c6
      have H1 : (paymasterref07_MayId.l0 k1 a0 (wrap64 (x3_1 + 1)) (wrap64 (x4_1 + t110))) = some r := by rw [if_pos rfl] at H; exact H
      clear H
      have H := H1
      clear H1
      have H' := aM' H
      clear H
      go_wp2_with (first | ((with_reducible refine gate_callee (f := 161) rfl ?_); refine goesL_ (some 14) rfl rfl Tryd.func161 (by kernel_rfl) rfl #[.string a0, .int .i64 x4_1] rfl (by (try simp only [List.map_toArray, List.map_cons, List.map_nil]); first | done | rfl | (simp only [List.length_drop, List.length_take]; rfl)) ?_; (with_reducible refine (paymasterref07_Rune.calls k1 a0 x4_1 t109 t110 _ A3.out).mono ?_); rintro e w' ⟨rfl, ⟨nd, rfl⟩⟩; refine ⟨_, rfl, ?_⟩) | (go_at_call 162; (with_reducible refine (paymasterref07_within.calls t109 true _ A5.out).mono ?_); rintro e w' ⟨rfl, ⟨nd, rfl⟩⟩))
      go_roundg k1
      case measure => have := HK1.out; omega
      case rel => exact ⟨(wrap64 (x3_1 + 1)), (wrap64 (x4_1 + t110)), (by first | rfl | (simp; done) | (simp [*]; done)), (by first | rfl | (simp; done) | (simp [*]; done)), H', ⟨by have := HK1.out; omega⟩, by repeat (first | exact Drawn0.refl _ | apply Drawn0.step)⟩
     ·
      replace c6 := Bool.eq_false_iff.mpr c6
      subst c6
      have H1 : (some false) = some r := by rw [if_neg (show ¬ (false = true) by decide)] at H; exact H
      clear H
      have H := H1
      clear H1
      obtain rfl := Option.some.inj H
      go_wp2_with (first | ((with_reducible refine gate_callee (f := 161) rfl ?_); refine goesL_ (some 14) rfl rfl Tryd.func161 (by kernel_rfl) rfl #[.string a0, .int .i64 x4_1] rfl (by (try simp only [List.map_toArray, List.map_cons, List.map_nil]); first | done | rfl | (simp only [List.length_drop, List.length_take]; rfl)) ?_; (with_reducible refine (paymasterref07_Rune.calls k1 a0 x4_1 t109 t110 _ A3.out).mono ?_); rintro e w' ⟨rfl, ⟨nd, rfl⟩⟩; refine ⟨_, rfl, ?_⟩) | (go_at_call 162; (with_reducible refine (paymasterref07_within.calls t109 false _ A5.out).mono ?_); rintro e w' ⟨rfl, ⟨nd, rfl⟩⟩))
      go_ret
      exact ⟨by first | rfl | (simp; done) | (simp [*]; done), by repeat (first | exact Drawn0.refl _ | apply Drawn0.step)⟩
   ·
    rw [if_neg c2] at H
    have c2b0 : decide (x4_1 < (a0.size : Int)) = false := decide_eq_false c2
    clear c2
    by_cases c7 : x3_1 ≥ 1
    ·
     rw [if_pos c7] at H
     have c7b0 : decide (1 ≤ x3_1) = true := decide_eq_true c7
     clear c7
     obtain rfl := Option.some.inj H
     go_wp2
     go_ret
     exact ⟨by first | rfl | (simp; done) | (simp [*]; done), by repeat (first | exact Drawn0.refl _ | apply Drawn0.step)⟩
    ·
     rw [if_neg c7] at H
     have c7b0 : decide (1 ≤ x3_1) = false := decide_eq_false c7
     clear c7
     obtain rfl := Option.some.inj H
     go_wp2
     go_ret
     exact ⟨by first | rfl | (simp; done) | (simp [*]; done), by repeat (first | exact Drawn0.refl _ | apply Drawn0.step)⟩
end Go.Proofs.YtijfifphcchbbaaDoor.P
namespace Go.Proofs.YtijfifphcchbbaaDoor.P
open Go.RowKit Go.Proofs.YtijfifphcchbbaaDoorW.PrintWords Go.Proofs.YtijfifphcchbbaaDoorW.PrintLast Go.Proofs.YtijfifphcchbbaaDoorW.PrintMore
set_option linter.unusedVariables false
set_option linter.unusedSimpArgs false
set_option linter.unnecessarySimpa false
def runeOf (d : Nat × Nat) : Int × Int := if d.1 = 65533 ∧ d.2 = 1 then (0, 0) else ((d.1 : Int), (d.2 : Int))
def runeI (s : ByteArray) (i : Nat) : Int × Int := runeOf (Utf8.decode s i)
theorem runeOf_bad : runeOf (65533, 1) = (0, 0) := rfl
theorem runeOf_ok (c w : Nat) (h : w ≠ 1) : runeOf (c, w) = ((c : Int), (w : Int)) := by unfold runeOf; rw [if_neg (fun q => h q.2)]
theorem get_nat (s : ByteArray) (i : Nat) (h : i < s.size) : s.get! i = s[i]'h := by simp [ByteArray.get!, getElem!_pos, h]; rfl
theorem bt_nat (s : ByteArray) (i : Nat) (h : i < s.size) : bt s (i : Int) = ((s.get! i).toNat : Int) := by
 unfold bt; rw [dif_pos (by simpa using h)]; simp [get_nat s i h]
theorem refTail (s : ByteArray) (hs : s.size ≤ 1000000) (i : Nat) (hi : i < s.size) (many n least j : Nat) (hj : 1 ≤ j) (hjm : j ≤ many) (hn : n < 4194304) (k : Nat) (hm : many ≤ 4) :
  paymasterref07_Rune.l0 (k + 1) s (i : Int) (many : Int) (n : Int) (least : Int) (j : Int) =
   if j < many then (if i + j < s.size ∧ (s.get! (i + j)).toNat / 64 = 2 then paymasterref07_Rune.l0 k s (i : Int) (many : Int) ((64 * n + (s.get! (i + j)).toNat % 64 : Nat) : Int) (least : Int) ((j + 1 : Nat) : Int) else some (0, 0))
   else (if n < least ∨ 1114111 < n ∨ (55296 ≤ n ∧ n < 57344) then some (0, 0) else some ((n : Int), (many : Int))) := by
 have hb := (s.get! (i + j)).toNat_lt
 simp only [paymasterref07_Rune.l0]
 by_cases h1 : j < many
 ·
  rw [if_pos (by omega), if_pos h1]
  by_cases h2 : i + j < s.size
  ·
   have e : wrap64 ((i : Int) + (j : Int)) = ((i + j : Nat) : Int) := by rw [wrap64_id (by omega) (by omega)]; omega
   rw [e, if_neg (by omega), if_pos (by omega), if_pos (by omega), bt_nat s _ h2]
   by_cases h3 : (s.get! (i + j)).toNat < 128
   ·
    rw [if_pos (by omega), if_neg (by omega)]
   ·
    by_cases h4 : 192 ≤ (s.get! (i + j)).toNat
    ·
     rw [if_neg (by omega), if_pos (by omega), if_neg (by omega)]
    ·
     rw [if_neg (by omega), if_neg (by omega), if_pos (by omega)]
     congr 1
     ·
      rw [wrap64_id (x := (((s.get! (i + j)).toNat : Nat) : Int)) (by omega) (by omega), wrap64_id (x := 64 * (n : Int)) (by omega) (by omega), wrap64_id (x := 64 * (n : Int) + _) (by omega) (by omega), wrap64_id (by omega) (by omega)]; omega
     ·
      rw [wrap64_id (by omega) (by omega)]; omega
  ·
   have e : wrap64 ((i : Int) + (j : Int)) = ((i + j : Nat) : Int) := by rw [wrap64_id (by omega) (by omega)]; omega
   rw [e, if_pos (by omega), if_neg (by omega)]
 ·
  rw [if_neg (by omega), if_neg h1]
  by_cases a1 : n < least
  ·
   rw [if_pos (by omega), if_pos (by omega)]
  ·
   by_cases a2 : 1114111 < n
   ·
    rw [if_neg (by omega), if_pos (by omega), if_pos (by omega)]
   ·
    by_cases a3 : 55296 ≤ n
    ·
     by_cases a4 : n < 57344
     ·
      rw [if_neg (by omega), if_neg (by omega), if_pos (by omega), if_pos (by omega), if_pos (by omega)]
     ·
      rw [if_neg (by omega), if_neg (by omega), if_pos (by omega), if_neg (by omega), if_neg (by omega)]
    ·
     rw [if_neg (by omega), if_neg (by omega), if_neg (by omega), if_neg (by omega)]
theorem refTail_ev {s : ByteArray} (hs : s.size ≤ 1000000) {i : Nat} (hi : i < s.size) {many n least j : Nat} (hj : 1 ≤ j) (hjm : j ≤ many) (hn : n < 4194304) (hm : many ≤ 4) {r : Int × Int}
  (h : Ev (fun k => if j < many then (if i + j < s.size ∧ (s.get! (i + j)).toNat / 64 = 2 then paymasterref07_Rune.l0 k s (i : Int) (many : Int) ((64 * n + (s.get! (i + j)).toNat % 64 : Nat) : Int) (least : Int) ((j + 1 : Nat) : Int) else some (0, 0))
   else (if n < least ∨ 1114111 < n ∨ (55296 ≤ n ∧ n < 57344) then some (0, 0) else some ((n : Int), (many : Int)))) r) :
  Ev (fun k => paymasterref07_Rune.l0 k s (i : Int) (many : Int) (n : Int) (least : Int) (j : Int)) r := Ev.step (fun k => refTail s hs i hi many n least j hj hjm hn k hm) h
theorem ev_ite {α : Type} {c : Prop} [Decidable c] {g f : Nat → Option α} {r q : α} (h : c → Ev g r) (k : ¬ c → Ev f q) : Ev (fun n => if c then g n else f n) (if c then r else q) := by
 by_cases hc : c
 ·
  simp only [if_pos hc]; exact h hc
 ·
  simp only [if_neg hc]; exact k hc
def endI (n many least : Nat) : Int × Int := if n < least ∨ 1114111 < n ∨ (55296 ≤ n ∧ n < 57344) then (0, 0) else ((n : Int), (many : Int))
theorem refEnd_ev {s : ByteArray} (hs : s.size ≤ 1000000) {i : Nat} (hi : i < s.size) {n least j : Nat} (hj : 1 ≤ j) (hn : n < 4194304) (hm : j ≤ 4) :
  Ev (fun k => paymasterref07_Rune.l0 k s (i : Int) (j : Int) (n : Int) (least : Int) (j : Int)) (endI n j least) := by
 refine refTail_ev hs hi hj (Nat.le_refl _) hn hm ?_
 simp only [if_neg (Nat.lt_irrefl j)]
 unfold endI
 split <;> exact Ev.now _
theorem refMid_ev {s : ByteArray} (hs : s.size ≤ 1000000) {i : Nat} (hi : i < s.size) {many n least j : Nat} (hj : 1 ≤ j) (hjm : j < many) (hn : n < 4194304) (hm : many ≤ 4) {r : Int × Int}
  (h : Ev (fun k => paymasterref07_Rune.l0 k s (i : Int) (many : Int) ((64 * n + (s.get! (i + j)).toNat % 64 : Nat) : Int) (least : Int) ((j + 1 : Nat) : Int)) r) :
  Ev (fun k => paymasterref07_Rune.l0 k s (i : Int) (many : Int) (n : Int) (least : Int) (j : Int)) (if i + j < s.size ∧ (s.get! (i + j)).toNat / 64 = 2 then r else (0, 0)) := by
 refine refTail_ev hs hi hj (by omega) hn hm ?_
 simp only [if_pos hjm]
 exact ev_ite (fun _ => h) (fun _ => Ev.now _)
theorem rune_1 (s : ByteArray) (i B : Nat) (hB : (s.get! i).toNat = B) (h : B < 128) : runeI s i = ((B : Int), 1) := by
 have hd : Utf8.decode s i = (B, 1) := by simp only [Utf8.decode, Nat.add_zero, hB, if_pos h]
 rw [runeI, hd, runeOf, if_neg (by dsimp only; omega)]; rfl
set_option maxRecDepth 100000 in
theorem rune_0 (s : ByteArray) (i B : Nat) (hB : (s.get! i).toNat = B) (h : 128 ≤ B) (h' : B < 192 ∨ 248 ≤ B) (hb : B < 256) : runeI s i = (0, 0) := by
 have e1 : (B / 32 == 6) = false := by simp; omega
 have e2 : (B / 16 == 14) = false := by simp; omega
 have e3 : (B / 8 == 30) = false := by simp; omega
 have e4 : ¬ B < 128 := by omega
 have hd : Utf8.decode s i = (65533, 1) := by simp [Utf8.decode, Nat.add_zero, hB, e4, e1, e2, e3, Utf8.runeError]
 rw [runeI, hd, runeOf_bad]
def contI (s : ByteArray) (i : Nat) : Prop := i < s.size ∧ (s.get! i).toNat / 64 = 2
instance (s : ByteArray) (i : Nat) : Decidable (contI s i) := by unfold contI; infer_instance
theorem cont_b (s : ByteArray) (i : Nat) : (decide (i < s.size) && (s.get! i).toNat / 64 == 2) = decide (contI s i) := by
 rw [Bool.eq_iff_iff, Bool.and_eq_true, decide_eq_true_eq, decide_eq_true_eq, beq_iff_eq]; rfl
set_option maxRecDepth 100000 in
theorem rune_2 (s : ByteArray) (i B : Nat) (hB : (s.get! i).toNat = B) (h : 192 ≤ B) (h' : B < 224) : runeI s i = if contI s (i + 1) then endI (64 * (B - 192) + (s.get! (i + 1)).toNat % 64) 2 128 else (0, 0) := by
 have e1 : (B / 32 == 6) = true := by simp; omega
 have e2 : (B / 16 == 14) = false := by simp; omega
 have e3 : (B / 8 == 30) = false := by simp; omega
 have e4 : ¬ B < 128 := by omega
 have e5 : B % 32 = B - 192 := by omega
 have h1 : (s.get! (i + 1)).toNat % 64 < 64 := Nat.mod_lt _ (by decide)
 have hd : Utf8.decode s i = if contI s (i + 1) then (if (B - 192) * 64 + (s.get! (i + 1)).toNat % 64 ≥ 128 then ((B - 192) * 64 + (s.get! (i + 1)).toNat % 64, 2) else (65533, 1)) else (65533, 1) := by
  simp only [Utf8.decode, Nat.add_zero, hB, if_neg e4, e1, e2, e3, e5, cont_b, Bool.true_and, Bool.false_and, Bool.false_eq_true, if_false, decide_eq_true_eq, Utf8.runeError]
 generalize (s.get! (i + 1)).toNat % 64 = x at hd h1 ⊢
 rw [runeI, hd]
 clear hd
 by_cases q : contI s (i + 1)
 ·
  rw [if_pos q, if_pos q]
  by_cases q2 : (B - 192) * 64 + x ≥ 128
  ·
   rw [if_pos q2, runeOf_ok _ _ (by decide), endI, if_neg (by omega)]; congr 1; omega
  ·
   rw [if_neg q2, runeOf_bad, endI, if_pos (by omega)]
 ·
  rw [if_neg q, if_neg q, runeOf_bad]
theorem valid_nat (c : Nat) : (Utf8.valid (c : Int) = true) ↔ c < 55296 ∨ (57344 ≤ c ∧ c ≤ 1114111) := by
 unfold Utf8.valid; simp; omega
theorem rune_3 (s : ByteArray) (i B : Nat) (hB : (s.get! i).toNat = B) (h : 224 ≤ B) (h' : B < 240) : runeI s i = if contI s (i + 1) then (if contI s (i + 2) then endI (64 * (64 * (B - 224) + (s.get! (i + 1)).toNat % 64) + (s.get! (i + 2)).toNat % 64) 3 2048 else (0, 0)) else (0, 0) := by
 have e1 : (B / 32 == 6) = false := by simp; omega
 have e2 : (B / 16 == 14) = true := by simp; omega
 have e3 : (B / 8 == 30) = false := by simp; omega
 have e4 : ¬ B < 128 := by omega
 have e5 : B % 16 = B - 224 := by omega
 have h1 : (s.get! (i + 1)).toNat % 64 < 64 := Nat.mod_lt _ (by decide)
 have h2 : (s.get! (i + 2)).toNat % 64 < 64 := Nat.mod_lt _ (by decide)
 have hd : Utf8.decode s i = if contI s (i + 1) ∧ contI s (i + 2) then (if (B - 224) * 4096 + (s.get! (i + 1)).toNat % 64 * 64 + (s.get! (i + 2)).toNat % 64 ≥ 2048 ∧ Utf8.valid (((B - 224) * 4096 + (s.get! (i + 1)).toNat % 64 * 64 + (s.get! (i + 2)).toNat % 64 : Nat) : Int) = true then ((B - 224) * 4096 + (s.get! (i + 1)).toNat % 64 * 64 + (s.get! (i + 2)).toNat % 64, 3) else (65533, 1)) else (65533, 1) := by
  simp only [Utf8.decode, Nat.add_zero, hB, if_neg e4, e1, e2, e3, e5, cont_b, Bool.true_and, Bool.false_and, Bool.false_eq_true, if_false, Bool.and_eq_true, decide_eq_true_eq, Utf8.runeError]
 generalize (s.get! (i + 1)).toNat % 64 = x at hd h1 ⊢
 generalize (s.get! (i + 2)).toNat % 64 = y at hd h2 ⊢
 simp only [valid_nat] at hd
 rw [runeI, hd]
 clear hd
 by_cases q : contI s (i + 1)
 ·
  by_cases q1 : contI s (i + 2)
  ·
   rw [if_pos ⟨q, q1⟩, if_pos q, if_pos q1]
   split
   ·
    rw [runeOf_ok _ _ (by decide), endI, if_neg (by omega)]; congr 1; omega
   ·
    rw [runeOf_bad, endI, if_pos (by omega)]
  ·
   rw [if_neg (fun hh => q1 hh.2), if_pos q, if_neg q1, runeOf_bad]
 ·
  rw [if_neg (fun hh => q hh.1), if_neg q, runeOf_bad]
theorem rune_4 (s : ByteArray) (i B : Nat) (hB : (s.get! i).toNat = B) (h : 240 ≤ B) (h' : B < 248) : runeI s i = if contI s (i + 1) then (if contI s (i + 2) then (if contI s (i + 3) then endI (64 * (64 * (64 * (B - 240) + (s.get! (i + 1)).toNat % 64) + (s.get! (i + 2)).toNat % 64) + (s.get! (i + 3)).toNat % 64) 4 65536 else (0, 0)) else (0, 0)) else (0, 0) := by
 have e1 : (B / 32 == 6) = false := by simp; omega
 have e2 : (B / 16 == 14) = false := by simp; omega
 have e3 : (B / 8 == 30) = true := by simp; omega
 have e4 : ¬ B < 128 := by omega
 have e5 : B % 8 = B - 240 := by omega
 have h1 : (s.get! (i + 1)).toNat % 64 < 64 := Nat.mod_lt _ (by decide)
 have h2 : (s.get! (i + 2)).toNat % 64 < 64 := Nat.mod_lt _ (by decide)
 have h3 : (s.get! (i + 3)).toNat % 64 < 64 := Nat.mod_lt _ (by decide)
 have hd : Utf8.decode s i = if (contI s (i + 1) ∧ contI s (i + 2)) ∧ contI s (i + 3) then (if (B - 240) * 262144 + (s.get! (i + 1)).toNat % 64 * 4096 + (s.get! (i + 2)).toNat % 64 * 64 + (s.get! (i + 3)).toNat % 64 ≥ 65536 ∧ Utf8.valid (((B - 240) * 262144 + (s.get! (i + 1)).toNat % 64 * 4096 + (s.get! (i + 2)).toNat % 64 * 64 + (s.get! (i + 3)).toNat % 64 : Nat) : Int) = true then ((B - 240) * 262144 + (s.get! (i + 1)).toNat % 64 * 4096 + (s.get! (i + 2)).toNat % 64 * 64 + (s.get! (i + 3)).toNat % 64, 4) else (65533, 1)) else (65533, 1) := by
  simp only [Utf8.decode, Nat.add_zero, hB, if_neg e4, e1, e2, e3, e5, cont_b, Bool.true_and, Bool.false_and, Bool.false_eq_true, if_false, Bool.and_eq_true, decide_eq_true_eq, Utf8.runeError]
 generalize (s.get! (i + 1)).toNat % 64 = x at hd h1 ⊢
 generalize (s.get! (i + 2)).toNat % 64 = y at hd h2 ⊢
 generalize (s.get! (i + 3)).toNat % 64 = z at hd h3 ⊢
 simp only [valid_nat] at hd
 rw [runeI, hd]
 clear hd
 by_cases q : contI s (i + 1)
 ·
  by_cases q1 : contI s (i + 2)
  ·
   by_cases q2 : contI s (i + 3)
   ·
    rw [if_pos ⟨⟨q, q1⟩, q2⟩, if_pos q, if_pos q1, if_pos q2]
    split
    ·
     rw [runeOf_ok _ _ (by decide), endI, if_neg (by omega)]; congr 1; omega
    ·
     rw [runeOf_bad, endI, if_pos (by omega)]
   ·
    rw [if_neg (fun hh => q2 hh.2), if_pos q, if_pos q1, if_neg q2, runeOf_bad]
  ·
   rw [if_neg (fun hh => q1 hh.1.2), if_pos q, if_neg q1, runeOf_bad]
 ·
  rw [if_neg (fun hh => q hh.1.1), if_neg q, runeOf_bad]
set_option maxRecDepth 100000 in
theorem refRune_j0 (s : ByteArray) (i B k : Nat) (hi : i < s.size) (hB : (s.get! i).toNat = B) (hb : B < 256) : paymasterref07_Rune.j0 (k + 1) s (i : Int) false = if B < 128 then some ((B : Int), 1) else paymasterref07_Rune.j1 k s (i : Int) (B : Int) (decide (192 ≤ B ∧ B < 224)) := by
 have w0 : wrap64 (B : Int) = (B : Int) := wrap64_id (by omega) (by omega)
 simp only [paymasterref07_Rune.j0]
 rw [if_neg (by decide), if_pos (by omega), if_pos (by omega), bt_nat s i hi, hB, w0]
 by_cases h1 : B < 128
 ·
  rw [if_pos (by omega), if_pos h1]
 ·
  rw [if_neg (by omega), if_neg h1]
  by_cases h2 : 192 ≤ B
  ·
   rw [if_pos (by omega)]; congr 1; exact decide_eq_decide.2 (by omega)
  ·
   rw [if_neg (by omega), decide_eq_false (by omega)]
set_option maxRecDepth 100000 in
theorem refRune_ev (s : ByteArray) (hs : s.size ≤ 1000000) (i : Nat) (hi : i < s.size) : Ev (fun k => paymasterref07_Rune.f k s (i : Int)) (runeI s i) := by
 obtain ⟨B, hB⟩ : ∃ B, (s.get! i).toNat = B := ⟨_, rfl⟩
 have hb : B < 256 := by rw [← hB]; exact (s.get! i).toNat_lt
 refine Ev.congr (f := fun k => paymasterref07_Rune.j0 k s (i : Int) false) (fun k => ?_) ?_
 ·
  unfold paymasterref07_Rune.f; rw [if_neg (by omega), decide_eq_false (by omega)]
 refine Ev.step (fun k => refRune_j0 s i B k hi hB hb) ?_
 by_cases c1 : B < 128
 ·
  simp only [if_pos c1]; rw [rune_1 s i B hB c1]; exact Ev.now _
 simp only [if_neg c1]
 by_cases c2 : 192 ≤ B ∧ B < 224
 ·
  rw [decide_eq_true c2, rune_2 s i B hB c2.1 c2.2]
  refine Ev.step (f := fun k => paymasterref07_Rune.j3 k s (i : Int) 2 ((B - 192 : Nat) : Int) 128) (fun k => ?_) ?_
  ·
   simp only [paymasterref07_Rune.j1]; rw [if_pos trivial, wrap64_id (by omega) (by omega)]; congr 1; omega
  refine Ev.step (f := fun k => paymasterref07_Rune.l0 k s (i : Int) ((2 : Nat) : Int) ((B - 192 : Nat) : Int) ((128 : Nat) : Int) ((1 : Nat) : Int)) (fun k => rfl) ?_
  exact refMid_ev hs hi (by decide) (by decide) (by omega) (by decide) (refEnd_ev hs hi (by decide) (by omega) (by decide))
 rw [decide_eq_false c2]
 have hj1 : ∀ k, paymasterref07_Rune.j1 (k + 1) s (i : Int) (B : Int) false = paymasterref07_Rune.j2 k s (i : Int) (B : Int) (decide (224 ≤ B ∧ B < 240)) := by
  intro k
  simp only [paymasterref07_Rune.j1]; rw [if_neg (by decide)]
  by_cases h2 : 224 ≤ B
  ·
   rw [if_pos (by omega)]; congr 1; exact decide_eq_decide.2 (by omega)
  ·
   rw [if_neg (by omega), decide_eq_false (by omega)]
 refine Ev.step hj1 ?_
 by_cases c3 : 224 ≤ B ∧ B < 240
 ·
  rw [decide_eq_true c3, rune_3 s i B hB c3.1 c3.2]
  refine Ev.step (f := fun k => paymasterref07_Rune.j3 k s (i : Int) 3 ((B - 224 : Nat) : Int) 2048) (fun k => ?_) ?_
  ·
   simp only [paymasterref07_Rune.j2]; rw [if_pos trivial, wrap64_id (by omega) (by omega)]; congr 1; omega
  refine Ev.step (f := fun k => paymasterref07_Rune.l0 k s (i : Int) ((3 : Nat) : Int) ((B - 224 : Nat) : Int) ((2048 : Nat) : Int) ((1 : Nat) : Int)) (fun k => rfl) ?_
  exact refMid_ev hs hi (by decide) (by decide) (by omega) (by decide) (refMid_ev hs hi (by decide) (by decide) (by omega) (by decide) (refEnd_ev hs hi (by decide) (by omega) (by decide)))
 rw [decide_eq_false c3]
 by_cases c4 : 240 ≤ B ∧ B < 248
 ·
  rw [rune_4 s i B hB c4.1 c4.2]
  refine Ev.step (f := fun k => paymasterref07_Rune.j3 k s (i : Int) 4 ((B - 240 : Nat) : Int) 65536) (fun k => ?_) ?_
  ·
   simp only [paymasterref07_Rune.j2]; rw [if_neg (by decide), if_pos (by omega), if_pos (by omega), wrap64_id (by omega) (by omega)]; congr 1; omega
  refine Ev.step (f := fun k => paymasterref07_Rune.l0 k s (i : Int) ((4 : Nat) : Int) ((B - 240 : Nat) : Int) ((65536 : Nat) : Int) ((1 : Nat) : Int)) (fun k => rfl) ?_
  exact refMid_ev hs hi (by decide) (by decide) (by omega) (by decide) (refMid_ev hs hi (by decide) (by decide) (by omega) (by decide) (refMid_ev hs hi (by decide) (by decide) (by omega) (by decide) (refEnd_ev hs hi (by decide) (by omega) (by decide))))
 ·
  rw [rune_0 s i B hB (by omega) (by omega) hb]
  refine Ev.step (f := fun k => some (0, 0)) (fun k => ?_) (Ev.now _)
  simp only [paymasterref07_Rune.j2]; rw [if_neg (by decide)]
  by_cases h2 : 240 ≤ B
  ·
   rw [if_pos (by omega), if_neg (by omega)]
  ·
   rw [if_neg (by omega)]
def withinI (c : Int) : Bool := decide (97 ≤ c ∧ c ≤ 122) || (decide (65 ≤ c ∧ c ≤ 90) || (decide (48 ≤ c ∧ c ≤ 57) || (decide (c = 46 ∨ c = 95 ∨ c = 45) || decide (161 ≤ c))))
theorem withinI_iff (c : Int) : withinI c = true ↔ (97 ≤ c ∧ c ≤ 122) ∨ (65 ≤ c ∧ c ≤ 90) ∨ (48 ≤ c ∧ c ≤ 57) ∨ (c = 46 ∨ c = 95 ∨ c = 45) ∨ 161 ≤ c := by
 simp only [withinI, Bool.or_eq_true, decide_eq_true_eq]
theorem withinI_t {c : Int} (h : (97 ≤ c ∧ c ≤ 122) ∨ (65 ≤ c ∧ c ≤ 90) ∨ (48 ≤ c ∧ c ≤ 57) ∨ (c = 46 ∨ c = 95 ∨ c = 45) ∨ 161 ≤ c) : some true = some (withinI c) := by rw [(withinI_iff c).2 h]
theorem withinI_d {c : Int} (h : ¬ ((97 ≤ c ∧ c ≤ 122) ∨ (65 ≤ c ∧ c ≤ 90) ∨ (48 ≤ c ∧ c ≤ 57) ∨ (c = 46 ∨ c = 95 ∨ c = 45))) : some (decide (c ≥ 161)) = some (withinI c) := by
 congr 1
 rw [Bool.eq_iff_iff, decide_eq_true_eq, withinI_iff]; omega
theorem refWithin_eq (c : Int) : paymasterref07_within.f c = some (withinI c) := by
 unfold paymasterref07_within.f
 repeat' split
 all_goals first | exact withinI_t (by omega) | exact withinI_d (by omega)
def idFrom (s : ByteArray) : Nat → Nat → Nat → Bool
 | 0, n, _ => decide (1 ≤ n) && decide (n ≤ 24)
 | b + 1, n, i => if i < s.size then (if (runeI s i).2 = 0 then false else if withinI (runeI s i).1 = true then idFrom s b (n + 1) (i + (Utf8.decode s i).2) else false) else decide (1 ≤ n) && decide (n ≤ 24)
def mayIdI (s : ByteArray) : Bool := idFrom s s.size 0 0
theorem runeI_2 (s : ByteArray) (i : Nat) (hi : i < s.size) : (runeI s i).2 = 0 ∨ (runeI s i).2 = ((Utf8.decode s i).2 : Int) := by
 unfold runeI runeOf; split
 ·
  exact .inl rfl
 ·
  exact .inr rfl
theorem decode_4 (s : ByteArray) (i : Nat) : (Utf8.decode s i).2 ≤ 4 := by
 simp only [Utf8.decode]
 repeat' split
 all_goals simp
theorem refMayId_loop (s : ByteArray) (hs : s.size ≤ 1000000) : ∀ b n i : Nat, s.size ≤ i + b → n ≤ i → i ≤ s.size + 4 → Ev (fun k => paymasterref07_MayId.l0 k s (n : Int) (i : Int)) (idFrom s b n i)
 | b, n, i, hb, hn, hi4 => by
  by_cases hi : i < s.size
  ·
   obtain ⟨b, rfl⟩ : ∃ c, b = c + 1 := ⟨b - 1, by omega⟩
   unfold idFrom
   rw [if_pos hi]
   have hw := Lib.decode_width_pos s i hi
   have h4 := decode_4 s i
   refine Ev.step (f := fun k => (paymasterref07_Rune.f k s (i : Int)).bind fun bt137 => (if bt137.2 = 0 then (some false) else ((paymasterref07_within.f bt137.1).bind fun t139 => (if t139 = true then (paymasterref07_MayId.l0 k s (wrap64 ((n : Int) + 1)) (wrap64 ((i : Int) + bt137.2))) else (some false))))) (fun k => ?_) ?_
   ·
    simp only [paymasterref07_MayId.l0]; rw [if_pos (by omega)]
   refine Ev.bind (refRune_ev s hs i hi) ?_
   by_cases h0 : (runeI s i).2 = 0
   ·
    simp only [if_pos h0]; exact Ev.now _
   ·
    simp only [if_neg h0, refWithin_eq, Option.bind_some]
    have e2 : (runeI s i).2 = ((Utf8.decode s i).2 : Int) := (runeI_2 s i hi).resolve_left h0
    by_cases hw1 : withinI (runeI s i).1 = true
    ·
     simp only [if_pos hw1]
     rw [e2, wrap64_id (x := (n : Int) + 1) (by omega) (by omega), wrap64_id (by omega) (by omega)]
     exact refMayId_loop s hs b (n + 1) (i + (Utf8.decode s i).2) (by omega) (by omega) (by omega)
    ·
     simp only [if_neg hw1]; exact Ev.now _
  ·
   have e : idFrom s b n i = (decide (1 ≤ n) && decide (n ≤ 24)) := by
    cases b with
    | zero => rfl
    | succ b => unfold idFrom; rw [if_neg hi]
   rw [e]
   refine Ev.step (f := fun _ => some _) (fun k => ?_) (Ev.now _)
   simp only [paymasterref07_MayId.l0]; rw [if_neg (by omega)]
   by_cases h1 : 1 ≤ n
   ·
    rw [if_pos (by omega), decide_eq_true h1, Bool.true_and]; congr 1; exact decide_eq_decide.2 (by omega)
   ·
    rw [if_neg (by omega), decide_eq_false h1, Bool.false_and]
theorem refMayId_ev (s : ByteArray) (hs : s.size ≤ 1000000) : Ev (fun k => paymasterref07_MayId.f k s) (mayIdI s) := refMayId_loop s hs s.size 0 0 (by omega) (by omega) (by omega)
theorem decode_congr (a b : ByteArray) (i j : Nat) (hg : ∀ k, k < 4 → a.get! (i + k) = b.get! (j + k)) (hs : ∀ k, k < 4 → (i + k < a.size ↔ j + k < b.size)) : Utf8.decode a i = Utf8.decode b j := by
 simp only [Utf8.decode, hg 0 (by decide), hg 1 (by decide), hg 2 (by decide), hg 3 (by decide), decide_eq_decide.2 (hs 1 (by decide)), decide_eq_decide.2 (hs 2 (by decide)), decide_eq_decide.2 (hs 3 (by decide))]
theorem get_list (s : ByteArray) (i : Nat) : s.get! i = s.data.toList.getD i 0 := by
 by_cases h : i < s.size
 ·
  rw [get_nat s i h, List.getD_eq_getElem?_getD, List.getElem?_eq_getElem (by simpa using h)]; rfl
 ·
  rw [List.getD_eq_getElem?_getD, List.getElem?_eq_none (by simpa using h)]
  have h2 : s.data[i]? = none := Array.getElem?_eq_none (Nat.not_lt.1 h)
  simp [ByteArray.get!, getElem!_def, h2]; rfl
theorem decodeL_drop (s : ByteArray) (i : Nat) (hi : i ≤ s.size) : Lib.decodeL (s.data.toList.drop i) = Utf8.decode s i := by
 unfold Lib.decodeL
 refine decode_congr _ _ _ _ (fun k _ => ?_) (fun k _ => ?_)
 ·
  rw [get_list, get_list, List.getD_eq_getElem?_getD, List.getD_eq_getElem?_getD]
  show (s.data.toList.drop i)[0 + k]?.getD 0 = _
  rw [List.getElem?_drop, Nat.zero_add]
 ·
  have e : (⟨(s.data.toList.drop i).toArray⟩ : ByteArray).size = s.size - i := by
   show (s.data.toList.drop i).toArray.size = _
   rw [List.size_toArray, List.length_drop]; rfl
  rw [e]; omega
def validFrom (s : ByteArray) : Nat → Nat → Bool
 | 0, _ => true
 | b + 1, i => if i < s.size then (if (runeI s i).2 = 0 then false else validFrom s b (i + (Utf8.decode s i).2)) else true
theorem validFrom_eq (s : ByteArray) : ∀ b i : Nat, i ≤ s.size + 4 → Lib.validGoD b (s.data.toList.drop i) = validFrom s b i
 | 0, _, _ => rfl
 | b + 1, i, h => by
  unfold Lib.validGoD validFrom
  by_cases hi : i < s.size
  ·
   have hl : i < s.data.toList.length := by simpa using hi
   rw [if_neg (by rw [List.drop_eq_nil_iff]; omega), if_pos hi, decodeL_drop s i (by omega), List.drop_drop]
   have h4 := decode_4 s i
   by_cases hb : (Utf8.decode s i).1 = 65533 ∧ (Utf8.decode s i).2 = 1
   ·
    rw [if_pos hb, if_pos (by unfold runeI runeOf; rw [if_pos hb])]
   ·
    have hw := Lib.decode_width_pos s i hi
    rw [if_neg hb, if_neg (by unfold runeI runeOf; rw [if_neg hb]; dsimp only; omega)]
    by_cases h5 : i + (Utf8.decode s i).2 ≤ s.size + 4
    ·
     exact validFrom_eq s b _ h5
    ·
     omega
  ·
   rw [if_pos (by rw [List.drop_eq_nil_iff]; simp; exact Nat.not_lt.1 hi), if_neg hi]
def allFrom (s : ByteArray) : Nat → Nat → Bool
 | 0, _ => true
 | b + 1, i => if i < s.size then (withinI (Utf8.decode s i).1 && allFrom s b (i + (Utf8.decode s i).2)) else true
theorem allFrom_end (s : ByteArray) (b i : Nat) (h : ¬ i < s.size) : allFrom s b i = true := by
 cases b with
 | zero => rfl
 | succ b => unfold allFrom; rw [if_neg h]
theorem idFrom_eq (s : ByteArray) : ∀ b n i : Nat, s.size ≤ i + b → idFrom s b n i = ((decide (1 ≤ n + Lib.runeCountFrom s b i) && decide (n + Lib.runeCountFrom s b i ≤ 24)) && (validFrom s b i && allFrom s b i))
 | b, n, i, hb => by
  by_cases hi : i < s.size
  ·
   obtain ⟨b, rfl⟩ : ∃ c, b = c + 1 := ⟨b - 1, by omega⟩
   have hw := Lib.decode_width_pos s i hi
   unfold idFrom validFrom allFrom Lib.runeCountFrom
   rw [if_pos hi, if_pos hi, if_pos hi, if_pos hi]
   by_cases h0 : (runeI s i).2 = 0
   ·
    rw [if_pos h0, if_pos h0]; simp
   ·
    rw [if_neg h0, if_neg h0]
    have e1 : (runeI s i).1 = ((Utf8.decode s i).1 : Int) := by
     unfold runeI runeOf at h0 ⊢
     split at h0
     ·
      exact absurd rfl h0
     ·
      rename_i h; rw [if_neg h]
    rw [e1, idFrom_eq s b (n + 1) _ (by omega), show n + 1 + Lib.runeCountFrom s b (i + (Utf8.decode s i).2) = n + (1 + Lib.runeCountFrom s b (i + (Utf8.decode s i).2)) by omega]
    cases withinI ((Utf8.decode s i).1 : Int) <;> simp
  ·
   have e : idFrom s b n i = (decide (1 ≤ n) && decide (n ≤ 24)) := by
    cases b with
    | zero => rfl
    | succ b => unfold idFrom; rw [if_neg hi]
   have e2 : validFrom s b i = true := by
    cases b with
    | zero => rfl
    | succ b => unfold validFrom; rw [if_neg hi]
   rw [e, e2, allFrom_end s b i hi, Lib.runeCountFrom_end s b i hi]; simp
theorem mayIdI_eq (s : ByteArray) : mayIdI s = ((decide (1 ≤ Lib.runeCount s) && decide (Lib.runeCount s ≤ 24)) && (Lib.validD s.data.toList && allFrom s s.size 0)) := by
 unfold mayIdI Lib.runeCount Lib.validD
 rw [idFrom_eq s s.size 0 0 (by omega), Nat.zero_add]
 have := validFrom_eq s s.size 0 (by omega)
 rw [List.drop_zero] at this
 rw [show s.data.toList.length = s.size by simp, this]
end Go.Proofs.YtijfifphcchbbaaDoor.P
namespace Go.Proofs.YtijfifphcchbbaaDoor.P
open Go.RowKit Go.Proofs.YtijfifphcchbbaaDoorW.PrintWords Go.Proofs.YtijfifphcchbbaaDoorW.PrintLast Go.Proofs.YtijfifphcchbbaaDoorW.PrintMore
set_option linter.unusedVariables false
set_option linter.unusedSimpArgs false
set_option linter.unnecessarySimpa false
theorem tagWithin_eq (c : Int) (hv : Utf8.valid c = true) : tag_within.f c = some (withinI c) := by
 have e : strings_ContainsRune.f (⟨#[46, 95, 45]⟩ : ByteArray) c = some (dotI c) := by unfold strings_ContainsRune.f; rw [if_pos ⟨rfl, hv⟩]
 have hd : dotI c = true ↔ (c = 46 ∨ c = 95 ∨ c = 45) := by simp only [dotI, decide_eq_true_eq]
 unfold tag_within.f
 simp only [e, Option.bind_some]
 repeat' split
 all_goals first | exact withinI_t (by omega) | (rename_i h; rw [hd] at h; first | exact withinI_t (by omega) | exact withinI_d (by omega))
theorem decode_valid (s : ByteArray) (i : Nat) (hi : i < s.size) : Utf8.valid ((Utf8.decode s i).1 : Int) = true := by
 obtain ⟨B, hB⟩ : ∃ B, (s.get! i).toNat = B := ⟨_, rfl⟩
 have hb : B < 256 := by rw [← hB]; exact (s.get! i).toNat_lt
 have h1 := (s.get! (i + 1)).toNat_lt
 have h2 := (s.get! (i + 2)).toNat_lt
 rw [valid_nat]
 simp only [Utf8.decode, Nat.add_zero, hB, valid_nat, Utf8.runeError, Bool.and_eq_true, decide_eq_true_eq, beq_iff_eq]
 repeat' split
 all_goals (try dsimp only)
 all_goals omega
theorem iterPos_at {w : World} {k : Nat} {s : ByteArray} {p : Nat} (h : w.heap[k]? = some (.stringIter s p)) : w.iterPos k = p := by unfold World.iterPos; rw [h]
set_option maxRecDepth 100000 in
set_option maxHeartbeats 1000000 in
theorem mayId.calls (s : ByteArray) (hs : s.size ≤ 1000000) (w : World) (hK : LaidT w) : Calls Tryd.prog 118 #[.string s] w fun e w' => e = .returned (.bool (mayIdI s)) ∧ Below w.heap.size w w' := by
 have HK := aM' hK
 have HS := aM' hs
 have HE := aM' (mayIdI_eq s)
 clear hK hs
 have hrc : (Lib.runeCount s : Int) ≤ 1000000 := by have := Lib.runeCount_le s; have := HS.out; omega
 have hr0 : (0 : Int) ≤ (Lib.runeCount s : Int) := by omega
 obtain ⟨n, hn⟩ : ∃ n, Lib.runeCount s = n := ⟨_, rfl⟩
 rw [hn] at hrc hr0
 go_enter Tryd.func118, Tryd.ntmps118
 go_wp2_with fail
 refine (Tryd.utf8_RuneCountInString s _ (by have := HS.out; omega)).mono ?_
 rw [hn]
 have HN := aM' hn
 clear hn
 rintro e w1 ⟨rfl, pos, hw1⟩
 have HB := aM' (show Below w.heap.size w w1 by rw [hw1]; exact below_iter w _ _)
 clear hw1
 by_cases h1 : 1 ≤ n
 ·
  by_cases h2 : n ≤ 24
  ·
   have b1 : decide ((n : Int) < 1) = false := decide_eq_false (by omega)
   have b2 : decide ((24 : Int) < (n : Int)) = false := decide_eq_false (by omega)
   go_wp2_with fail
   refine (Tryd.utf8_ValidString s _ (by have := HS.out; omega) (HK.out.below HB.out).2).mono ?_
   rintro e w2 ⟨rfl, hb⟩
   have HB2 := aM' (HB.out.trans (hb.mono HB.out.size))
   clear hb
   cases hv : Lib.validD s.data.toList with
   | false =>
    have HV := aM' hv
    clear hv
    go_wp2
    go_ret
    exact ⟨by rw [HE.out, HV.out]; simp, HB2.out⟩
   | true =>
    have HV := aM' hv
    clear hv
    go_wp2
    clear hrc hr0 b1 b2
    go_loopw [] (fun wr => ∃ pos fuel : Nat, Aside0 (wr.heap[w2.heap.size]? = some (.stringIter s pos)) ∧ Aside0 (Below w2.heap.size w2 wr) ∧ Aside0 (allFrom s fuel pos = allFrom s s.size 0) ∧ s.size ≤ pos + fuel) (fun wr => s.size - wr.iterPos w2.heap.size)
    case atStart => exact ⟨0, s.size, ⟨World.iter_heap w2 s 0⟩, ⟨below_iter w2 s 0⟩, ⟨rfl⟩, by omega⟩
    case round =>
     obtain ⟨pos, fuel, HIT, HBW, HA, hf⟩ := hrel
     by_cases hp : pos < s.size
     ·
      have hnx : ∀ ty, (Instr.next (.pointer (some ⟨w2.heap.size, 0, none⟩)) true ty).run Tryd.prog wr = _ := fun ty => Lib.run_next_any_at wr w2.heap.size s pos ty HIT.out hp
      have hwd := Lib.decode_width_pos s pos hp
      obtain ⟨fuel, rfl⟩ : ∃ f', fuel = f' + 1 := ⟨fuel - 1, by omega⟩
      have HP0 := aM' (iterPos_at HIT.out)
      have HIT2 := aM' (Lib.iterAt_heap wr w2.heap.size s pos (pos + (Utf8.decode s pos).2) HIT.out)
      have HBW2 := aM' (Lib.below_iterAt HBW.out (k := w2.heap.size) (Nat.le_refl _) s (pos + (Utf8.decode s pos).2))
      obtain ⟨W1, hW1⟩ : ∃ W1, W1 = wr.iterAt w2.heap.size s (pos + (Utf8.decode s pos).2) := ⟨_, rfl⟩
      rw [← hW1] at hnx HIT2 HBW2
      have HWI := aM' (tagWithin_eq ((Utf8.decode s pos).1 : Int) (decode_valid s pos hp))
      have HA2 := aM' (show (withinI ((Utf8.decode s pos).1 : Int) && allFrom s fuel (pos + (Utf8.decode s pos).2)) = allFrom s s.size 0 by rw [← HA.out]; conv => rhs; unfold allFrom; rw [if_pos hp])
      clear hW1 HIT HBW HA
      go_wp2_with fail
      refine (tag_within.calls _ (withinI ((Utf8.decode s pos).1 : Int)) _ HWI.out).mono ?_
      rintro e w3 ⟨rfl, hb⟩
      have HIT3 := aM' (blk_below HIT2.out hb)
      have HBW3 := aM' (HBW2.out.trans (hb.mono HBW2.out.size))
      have HP3 := aM' (iterPos_at HIT3.out)
      clear hb
      cases hw : withinI ((Utf8.decode s pos).1 : Int) with
      | true =>
       have HWT := aM' hw
       clear hw
       go_wp2
       go_roundw
       case rel => exact ⟨_, fuel, HIT3, HBW3, ⟨by rw [← HA2.out, HWT.out, Bool.true_and]⟩, by omega⟩
       case measure => rw [HP3.out, HP0.out]; omega
      | false =>
       have HWT := aM' hw
       clear hw
       go_wp2
       go_ret
       exact ⟨by rw [HE.out, ← HA2.out, HWT.out]; simp, HB2.out.trans (HBW3.out.mono HB2.out.size)⟩
     ·
      have hnx : ∀ ty, (Instr.next (.pointer (some ⟨w2.heap.size, 0, none⟩)) true ty).run Tryd.prog wr = _ := fun ty => Lib.run_next_end_at wr w2.heap.size s pos ty HIT.out hp
      have HE2 := aM' (show allFrom s s.size 0 = true by rw [← HA.out]; exact allFrom_end s fuel pos hp)
      go_wp2
      go_ret
      exact ⟨by rw [HE.out, HN.out, HV.out, HE2.out, decide_eq_true h1, decide_eq_true h2]; rfl, HB2.out.trans (HBW.out.mono HB2.out.size)⟩
  ·
   have b1 : decide ((n : Int) < 1) = false := decide_eq_false (by omega)
   have b2 : decide ((24 : Int) < (n : Int)) = true := decide_eq_true (by omega)
   go_wp2
   go_ret
   exact ⟨by rw [HE.out, HN.out, decide_eq_false h2]; simp, HB.out⟩
 ·
  have b1 : decide ((n : Int) < 1) = true := decide_eq_true (by omega)
  go_wp2
  go_ret
  exact ⟨by rw [HE.out, HN.out, decide_eq_false h1]; simp, HB.out⟩
def tag_MayId.f (s : ByteArray) : Option Bool := if s.size ≤ 1000000 then some (mayIdI s) else none
theorem tag_MayId.calls (s : ByteArray) (b : Bool) (w : World) (hK : LaidT w) (h : tag_MayId.f s = some b) :
  Calls Tryd.prog 118 #[.string s] w fun e w' => e = .returned (.bool b) ∧ Below w.heap.size w w' := by
 unfold tag_MayId.f at h
 split at h
 ·
  rename_i hh
  obtain rfl := Option.some.inj h
  exact mayId.calls s hh w hK
 ·
  cases h
end Go.Proofs.YtijfifphcchbbaaDoor.P
namespace Go.Proofs.YtijfifphcchbbaaDoor.P
open Go.RowKit Go.Proofs.YtijfifphcchbbaaDoorW.PrintWords Go.Proofs.YtijfifphcchbbaaDoorW.PrintLast Go.Proofs.YtijfifphcchbbaaDoorW.PrintMore
attribute [local go_sem] max2_int min2_int max_two min_two max_three min_three max_four min_four-- for this text's walks alone
set_option linter.unusedVariables false
set_option linter.unusedSimpArgs false
attribute [local go_sem high] eqAU128
def tag_MayLeaf.f (a0_0 : Bool) (a0_1 : ByteArray) (a0_2 : ByteArray) (a0_3 : Int) (a0_4 : Int) : Option (Bool) := if (a0_2.size : Int) > 32 then (some false) else (if a0_0 = true then (if a0_1.toList = ([] : List UInt8) then (some (a0_3 == 0 && (a0_4 == 0))) else (some false)) else ((tag_MayId.f a0_1).bind fun t107 => (some t107)))
set_option maxHeartbeats 8000000 in
set_option maxRecDepth 100000 in
theorem tag_MayLeaf.calls (a0_0 : Bool) (a0_1 : ByteArray) (a0_2 : ByteArray) (a0_3 : Int) (a0_4 : Int) (r : Bool) (w : World) (hK : LaidT w) (h : tag_MayLeaf.f a0_0 a0_1 a0_2 a0_3 a0_4 = some r) :
  Calls Tryd.prog 84 #[.agg #[.bool a0_0, .string a0_1, .string a0_2, .int .u64 a0_3, .int .u64 a0_4]] w fun e w' => e = .returned (.bool r) ∧ Below w.heap.size w w' := by
 have hu57 := Tryd.underlying57
 have hu26 := Tryd.underlying26
 have HB := aM' (Below.refl w.heap.size w)
 have HLD := aM' hK
 clear hK
 have H : (if (a0_2.size : Int) > 32 then (some false) else (if a0_0 = true then (if a0_1.toList = ([] : List UInt8) then (some (a0_3 == 0 && (a0_4 == 0))) else (some false)) else ((tag_MayId.f a0_1).bind fun t107 => (some t107)))) = some r := h
 clear h
 by_cases c2 : (a0_2.size : Int) > 32
 ·
  rw [if_pos c2] at H
  have c2b0 : decide (32 < (a0_2.size : Int)) = true := decide_eq_true c2
  have c2b1 : decide (32 < a0_2.size) = true := decide_eq_true (by omega)
  clear c2
  obtain rfl := Option.some.inj H
  go_enter Tryd.func84, Tryd.ntmps84
  go_wp2_with (first | ((with_reducible refine gate_dst (N := 1) rfl ?_); refine box_event ?hg (N := 1) ?hd (cs := #[.bool a0_0, .string a0_1, .string a0_2, .int .u64 a0_3, .int .u64 a0_4]) (t := 57) ?hr ?_; (case hd => rfl); (case hg => rfl); (case hr => first | (go_simp; done) | (go_simp; rfl)); intro gb106 hg w3 hbox hb; have n0_ := aM' (below_step (by repeat (first | (with_reducible first | exact HB.out | apply below_alloc | apply pw_below_drewN | apply below_drew1) | exact HB.out)) hb); have n1_ := aM' (hbox); have n2_ := aM' ((by rw [hg]; exact (below_size (by repeat (first | (with_reducible first | exact HB.out | apply below_alloc | apply pw_below_drewN | apply below_drew1) | exact HB.out))) : w.heap.size ≤ gb106)); have n3_ := aM' ((by rw [hg]; exact (below_size (by repeat (first | (with_reducible first | exact HB.out | apply below_alloc | apply pw_below_drewN | apply below_drew1) | exact HB.out))) : w.heap.size ≤ gb106)); clear HB; have HB := n0_; have BK106 := n1_; have GW106 := n2_; have GE106 := n3_; clear n0_ n1_ n2_ n3_; clear hb hbox hg; have hcz4_0 : w3.cell? ⟨gb106, 0, none⟩ = some (.bool a0_0) := (blk_cell BK106.out 0).trans rfl; have hcz4_1 : w3.cell? ⟨gb106, 1, none⟩ = some (.string a0_1) := (blk_cell BK106.out 1).trans rfl; have hcz4_2 : w3.cell? ⟨gb106, 2, none⟩ = some (.string a0_2) := (blk_cell BK106.out 2).trans rfl; have hcz4_3 : w3.cell? ⟨gb106, 3, none⟩ = some (.int .u64 a0_3) := (blk_cell BK106.out 3).trans rfl; have hcz4_4 : w3.cell? ⟨gb106, 4, none⟩ = some (.int .u64 a0_4) := (blk_cell BK106.out 4).trans rfl; have hfz4_0 := blk_frozen BK106.out 0; have hfz4_1 := blk_frozen BK106.out 1; have hfz4_2 := blk_frozen BK106.out 2; have hfz4_3 := blk_frozen BK106.out 3; have hfz4_4 := blk_frozen BK106.out 4))
  go_ret
  exact ⟨by first | rfl | (simp [errW_none, errW_some] <;> rfl) | (simp [*, errW_none, errW_some] <;> rfl), by repeat (first | (with_reducible first | exact HB.out | apply below_alloc | apply pw_below_drewN | apply below_drew1 | refine below_set ?_ GE106.out) | exact HB.out)⟩
 ·
  rw [if_neg c2] at H
  have c2b0 : decide (32 < (a0_2.size : Int)) = false := decide_eq_false c2
  have c2b1 : decide (32 < a0_2.size) = false := decide_eq_false (by omega)
  clear c2
  by_cases c5 : a0_0 = true
  ·
   subst c5
   have H1 : (if a0_1.toList = ([] : List UInt8) then (some (a0_3 == 0 && (a0_4 == 0))) else (some false)) = some r := by rw [if_pos rfl] at H; exact H
   clear H
   have H := H1
   clear H1
   by_cases c6 : a0_1.toList = ([] : List UInt8)
   ·
    rw [if_pos c6] at H
    have c6b0 : (a0_1.toList == ([] : List UInt8)) = true := beq_iff_eq.mpr c6
    have c6b1 : (a0_1.toList != ([] : List UInt8)) = false := bne_eq_false_iff_eq.mpr c6
    clear c6
    obtain rfl := Option.some.inj H
    go_enter Tryd.func84, Tryd.ntmps84
    go_wp2_with (first | ((with_reducible refine gate_dst (N := 1) rfl ?_); refine box_event ?hg (N := 1) ?hd (cs := #[.bool true, .string a0_1, .string a0_2, .int .u64 a0_3, .int .u64 a0_4]) (t := 57) ?hr ?_; (case hd => rfl); (case hg => rfl); (case hr => first | (go_simp; done) | (go_simp; rfl)); intro gb106 hg w7 hbox hb; have n0_ := aM' (below_step (by repeat (first | (with_reducible first | exact HB.out | apply below_alloc | apply pw_below_drewN | apply below_drew1) | exact HB.out)) hb); have n1_ := aM' (hbox); have n2_ := aM' ((by rw [hg]; exact (below_size (by repeat (first | (with_reducible first | exact HB.out | apply below_alloc | apply pw_below_drewN | apply below_drew1) | exact HB.out))) : w.heap.size ≤ gb106)); have n3_ := aM' ((by rw [hg]; exact (below_size (by repeat (first | (with_reducible first | exact HB.out | apply below_alloc | apply pw_below_drewN | apply below_drew1) | exact HB.out))) : w.heap.size ≤ gb106)); clear HB; have HB := n0_; have BK106 := n1_; have GW106 := n2_; have GE106 := n3_; clear n0_ n1_ n2_ n3_; clear hb hbox hg; have hcz8_0 : w7.cell? ⟨gb106, 0, none⟩ = some (.bool true) := (blk_cell BK106.out 0).trans rfl; have hcz8_1 : w7.cell? ⟨gb106, 1, none⟩ = some (.string a0_1) := (blk_cell BK106.out 1).trans rfl; have hcz8_2 : w7.cell? ⟨gb106, 2, none⟩ = some (.string a0_2) := (blk_cell BK106.out 2).trans rfl; have hcz8_3 : w7.cell? ⟨gb106, 3, none⟩ = some (.int .u64 a0_3) := (blk_cell BK106.out 3).trans rfl; have hcz8_4 : w7.cell? ⟨gb106, 4, none⟩ = some (.int .u64 a0_4) := (blk_cell BK106.out 4).trans rfl; have hfz8_0 := blk_frozen BK106.out 0; have hfz8_1 := blk_frozen BK106.out 1; have hfz8_2 := blk_frozen BK106.out 2; have hfz8_3 := blk_frozen BK106.out 3; have hfz8_4 := blk_frozen BK106.out 4))
    go_ret
    exact ⟨by first | rfl | (simp [errW_none, errW_some] <;> rfl) | (simp [*, errW_none, errW_some] <;> rfl), by repeat (first | (with_reducible first | exact HB.out | apply below_alloc | apply pw_below_drewN | apply below_drew1 | refine below_set ?_ GE106.out) | exact HB.out)⟩
   ·
    rw [if_neg c6] at H
    have c6b0 : (a0_1.toList == ([] : List UInt8)) = false := beq_eq_false_iff_ne.mpr c6
    have c6b1 : (a0_1.toList != ([] : List UInt8)) = true := bne_iff_ne.mpr c6
    obtain rfl := Option.some.inj H
    go_enter Tryd.func84, Tryd.ntmps84
    go_wp2_with (first | ((with_reducible refine gate_dst (N := 1) rfl ?_); refine box_event ?hg (N := 1) ?hd (cs := #[.bool true, .string a0_1, .string a0_2, .int .u64 a0_3, .int .u64 a0_4]) (t := 57) ?hr ?_; (case hd => rfl); (case hg => rfl); (case hr => first | (go_simp; done) | (go_simp; rfl)); intro gb106 hg w9 hbox hb; have n0_ := aM' (below_step (by repeat (first | (with_reducible first | exact HB.out | apply below_alloc | apply pw_below_drewN | apply below_drew1) | exact HB.out)) hb); have n1_ := aM' (hbox); have n2_ := aM' ((by rw [hg]; exact (below_size (by repeat (first | (with_reducible first | exact HB.out | apply below_alloc | apply pw_below_drewN | apply below_drew1) | exact HB.out))) : w.heap.size ≤ gb106)); have n3_ := aM' ((by rw [hg]; exact (below_size (by repeat (first | (with_reducible first | exact HB.out | apply below_alloc | apply pw_below_drewN | apply below_drew1) | exact HB.out))) : w.heap.size ≤ gb106)); clear HB; have HB := n0_; have BK106 := n1_; have GW106 := n2_; have GE106 := n3_; clear n0_ n1_ n2_ n3_; clear hb hbox hg; have hcz10_0 : w9.cell? ⟨gb106, 0, none⟩ = some (.bool true) := (blk_cell BK106.out 0).trans rfl; have hcz10_1 : w9.cell? ⟨gb106, 1, none⟩ = some (.string a0_1) := (blk_cell BK106.out 1).trans rfl; have hcz10_2 : w9.cell? ⟨gb106, 2, none⟩ = some (.string a0_2) := (blk_cell BK106.out 2).trans rfl; have hcz10_3 : w9.cell? ⟨gb106, 3, none⟩ = some (.int .u64 a0_3) := (blk_cell BK106.out 3).trans rfl; have hcz10_4 : w9.cell? ⟨gb106, 4, none⟩ = some (.int .u64 a0_4) := (blk_cell BK106.out 4).trans rfl; have hfz10_0 := blk_frozen BK106.out 0; have hfz10_1 := blk_frozen BK106.out 1; have hfz10_2 := blk_frozen BK106.out 2; have hfz10_3 := blk_frozen BK106.out 3; have hfz10_4 := blk_frozen BK106.out 4))
    go_ret
    exact ⟨by first | rfl | (simp [errW_none, errW_some] <;> rfl) | (simp [*, errW_none, errW_some] <;> rfl), by repeat (first | (with_reducible first | exact HB.out | apply below_alloc | apply pw_below_drewN | apply below_drew1 | refine below_set ?_ GE106.out) | exact HB.out)⟩
  ·
   replace c5 := Bool.eq_false_iff.mpr c5
   subst c5
   have H1 : ((tag_MayId.f a0_1).bind fun t107 => (some t107)) = some r := by rw [if_neg (show ¬ (false = true) by decide)] at H; exact H
   clear H
   have H := H1
   clear H1
   replace H := Option.bind_eq_some_iff.mp H
   obtain ⟨t107, A110, H⟩ := H
   replace H : (some t107) = some r := H
   have A11 := aM' A110
   clear A110
   obtain rfl := Option.some.inj H
   go_enter Tryd.func84, Tryd.ntmps84
   go_wp2_with (first | ((with_reducible refine gate_dst (N := 1) rfl ?_); refine box_event ?hg (N := 1) ?hd (cs := #[.bool false, .string a0_1, .string a0_2, .int .u64 a0_3, .int .u64 a0_4]) (t := 57) ?hr ?_; (case hd => rfl); (case hg => rfl); (case hr => first | (go_simp; done) | (go_simp; rfl)); intro gb106 hg w12 hbox hb; have n0_ := aM' (below_step (by repeat (first | (with_reducible first | exact HB.out | apply below_alloc | apply pw_below_drewN | apply below_drew1) | exact HB.out)) hb); have n1_ := aM' (hbox); have n2_ := aM' ((by rw [hg]; exact (below_size (by repeat (first | (with_reducible first | exact HB.out | apply below_alloc | apply pw_below_drewN | apply below_drew1) | exact HB.out))) : w.heap.size ≤ gb106)); have n3_ := aM' ((by rw [hg]; exact (below_size (by repeat (first | (with_reducible first | exact HB.out | apply below_alloc | apply pw_below_drewN | apply below_drew1) | exact HB.out))) : w.heap.size ≤ gb106)); clear HB; have HB := n0_; have BK106 := n1_; have GW106 := n2_; have GE106 := n3_; clear n0_ n1_ n2_ n3_; clear hb hbox hg; have hcz13_0 : w12.cell? ⟨gb106, 0, none⟩ = some (.bool false) := (blk_cell BK106.out 0).trans rfl; have hcz13_1 : w12.cell? ⟨gb106, 1, none⟩ = some (.string a0_1) := (blk_cell BK106.out 1).trans rfl; have hcz13_2 : w12.cell? ⟨gb106, 2, none⟩ = some (.string a0_2) := (blk_cell BK106.out 2).trans rfl; have hcz13_3 : w12.cell? ⟨gb106, 3, none⟩ = some (.int .u64 a0_3) := (blk_cell BK106.out 3).trans rfl; have hcz13_4 : w12.cell? ⟨gb106, 4, none⟩ = some (.int .u64 a0_4) := (blk_cell BK106.out 4).trans rfl; have hfz13_0 := blk_frozen BK106.out 0; have hfz13_1 := blk_frozen BK106.out 1; have hfz13_2 := blk_frozen BK106.out 2; have hfz13_3 := blk_frozen BK106.out 3; have hfz13_4 := blk_frozen BK106.out 4) | ((with_reducible refine gate_callee (f := 118) rfl ?_); refine goesL_ (some 20) rfl rfl Tryd.func118 (by kernel_rfl) rfl #[.string a0_1] rfl (by (try simp only [List.map_toArray, List.map_cons, List.map_nil]); first | done | rfl | (simp only [List.length_drop, List.length_take]; rfl)) ?_; (with_reducible refine (tag_MayId.calls a0_1 t107 _ ?side1 A11.out).mono ?_); (case side1 => exact LaidT.below HLD.out (by repeat (first | (with_reducible first | exact HB.out | apply below_alloc | apply pw_below_drewN | apply below_drew1 | refine below_set ?_ GE106.out) | exact HB.out))); rintro e w14 ⟨rfl, hb⟩; refine ⟨_, rfl, ?_⟩; have n0_ := aM' (blk_below (g := gb106) (o := .cells #[.bool false, .string a0_1, .string a0_2, .int .u64 a0_3, .int .u64 a0_4] 57 (0, 0)) (by (with_reducible repeat (first | refine blk_drewN ?_ _ | refine blk_drew ?_ | refine blk_alloc ?_ _)); exact BK106.out) hb); have n1_ := aM' (below_step (by repeat (first | (with_reducible first | exact HB.out | apply below_alloc | apply pw_below_drewN | apply below_drew1 | refine below_set ?_ GE106.out) | exact HB.out)) hb); clear BK106; clear HB; have BK106 := n0_; have HB := n1_; clear n0_ n1_; (try clear hb); (try clear hb2); (try clear hk); (try clear hi)))
   go_ret
   exact ⟨by first | rfl | (simp [errW_none, errW_some] <;> rfl) | (simp [*, errW_none, errW_some] <;> rfl), by repeat (first | (with_reducible first | exact HB.out | apply below_alloc | apply pw_below_drewN | apply below_drew1 | refine below_set ?_ GE106.out) | exact HB.out)⟩
end Go.Proofs.YtijfifphcchbbaaDoor.P
namespace Go.Proofs.YtijfifphcchbbaaDoor.P
open Go.RowKit Go.Proofs.YtijfifphcchbbaaDoorW.PrintWords Go.Proofs.YtijfifphcchbbaaDoorW.PrintLast Go.Proofs.YtijfifphcchbbaaDoorW.PrintMore
attribute [local go_sem] max2_int min2_int max_two min_two max_three min_three max_four min_four-- for this text's walks alone
set_option linter.unusedVariables false
set_option linter.unusedSimpArgs false
attribute [local go_sem high] eqAU128
def paymasterref07_MayLeaf.f (k : Nat) (a0_0 : Bool) (a0_1 : ByteArray) (a0_2 : ByteArray) (a0_3 : Int) (a0_4 : Int) : Option (Bool) := if a0_0 = true then (if a0_1.toList = ([] : List UInt8) then (if (!(a0_3 == 0) || (!(a0_4 == 0))) = true then (some false) else (some (decide ((a0_2.size : Int) ≤ 32)))) else (some false)) else ((paymasterref07_MayId.f k a0_1).bind fun t118 => (if t118 = true then (some (decide ((a0_2.size : Int) ≤ 32))) else (some false)))
set_option maxHeartbeats 8000000 in
set_option maxRecDepth 100000 in
theorem paymasterref07_MayLeaf.calls (k : Nat) (a0_0 : Bool) (a0_1 : ByteArray) (a0_2 : ByteArray) (a0_3 : Int) (a0_4 : Int) (r : Bool) (w : World) (h : paymasterref07_MayLeaf.f k a0_0 a0_1 a0_2 a0_3 a0_4 = some r) :
  Calls Tryd.prog 94 #[.agg #[.bool a0_0, .string a0_1, .string a0_2, .int .u64 a0_3, .int .u64 a0_4]] w fun e w' => e = .returned (.bool r) ∧ Below w.heap.size w w' := by
 have hu57 := Tryd.underlying57
 have hu26 := Tryd.underlying26
 have HB := aM' (Below.refl w.heap.size w)
 have H : (if a0_0 = true then (if a0_1.toList = ([] : List UInt8) then (if (!(a0_3 == 0) || (!(a0_4 == 0))) = true then (some false) else (some (decide ((a0_2.size : Int) ≤ 32)))) else (some false)) else ((paymasterref07_MayId.f k a0_1).bind fun t118 => (if t118 = true then (some (decide ((a0_2.size : Int) ≤ 32))) else (some false)))) = some r := h
 clear h
 by_cases c2 : a0_0 = true
 ·
  subst c2
  have H1 : (if a0_1.toList = ([] : List UInt8) then (if (!(a0_3 == 0) || (!(a0_4 == 0))) = true then (some false) else (some (decide ((a0_2.size : Int) ≤ 32)))) else (some false)) = some r := by rw [if_pos rfl] at H; exact H
  clear H
  have H := H1
  clear H1
  by_cases c3 : a0_1.toList = ([] : List UInt8)
  ·
   rw [if_pos c3] at H
   have c3b0 : (a0_1.toList == ([] : List UInt8)) = true := beq_iff_eq.mpr c3
   have c3b1 : (a0_1.toList != ([] : List UInt8)) = false := bne_eq_false_iff_eq.mpr c3
   clear c3
   by_cases c4 : (!(a0_3 == 0) || (!(a0_4 == 0))) = true
   ·
    rw [if_pos c4] at H
    have c4b0 : (!(a0_3 == 0) || (!(a0_4 == 0))) = true := c4
    clear c4
    obtain rfl := Option.some.inj H
    go_enter Tryd.func94, Tryd.ntmps94
    go_wp2_with (first | ((with_reducible refine gate_dst (N := 1) rfl ?_); refine box_event ?hg (N := 1) ?hd (cs := #[.bool true, .string a0_1, .string a0_2, .int .u64 a0_3, .int .u64 a0_4]) (t := 57) ?hr ?_; (case hd => rfl); (case hg => rfl); (case hr => first | (go_simp; done) | (go_simp; rfl)); intro gb116 hg w5 hbox hb; have n0_ := aM' (below_step (by repeat (first | (with_reducible first | exact HB.out | apply below_alloc | apply pw_below_drewN | apply below_drew1) | exact HB.out)) hb); have n1_ := aM' (hbox); have n2_ := aM' ((by rw [hg]; exact (below_size (by repeat (first | (with_reducible first | exact HB.out | apply below_alloc | apply pw_below_drewN | apply below_drew1) | exact HB.out))) : w.heap.size ≤ gb116)); have n3_ := aM' ((by rw [hg]; exact (below_size (by repeat (first | (with_reducible first | exact HB.out | apply below_alloc | apply pw_below_drewN | apply below_drew1) | exact HB.out))) : w.heap.size ≤ gb116)); clear HB; have HB := n0_; have BK116 := n1_; have GW116 := n2_; have GE116 := n3_; clear n0_ n1_ n2_ n3_; clear hb hbox hg) | ((with_reducible refine gate_dst (N := 3) rfl ?_); refine box_event ?hg (N := 3) ?hd (cs := #[.int .u64 0, .int .u64 0]) (t := 26) ?hr ?_; (case hd => rfl); (case hg => rfl); (case hr => first | (go_simp; done) | (go_simp; rfl)); intro gb117 hg w6 hbox hb; have n0_ := aM' (blk_below (g := gb116) (o := .cells #[.bool true, .string a0_1, .string a0_2, .int .u64 a0_3, .int .u64 a0_4] 57 (0, 0)) (by (with_reducible repeat (first | refine blk_drewN ?_ _ | refine blk_drew ?_ | refine blk_alloc ?_ _)); exact BK116.out) hb); have n1_ := aM' (below_step (by repeat (first | (with_reducible first | exact HB.out | apply below_alloc | apply pw_below_drewN | apply below_drew1 | refine below_set ?_ GE116.out) | exact HB.out)) hb); have n2_ := aM' (hbox); have n3_ := aM' ((by rw [hg]; exact (below_size (by repeat (first | (with_reducible first | exact HB.out | apply below_alloc | apply pw_below_drewN | apply below_drew1 | refine below_set ?_ GE116.out) | exact HB.out))) : w.heap.size ≤ gb117)); have n4_ := aM' ((by rw [hg]; exact (below_size (by repeat (first | (with_reducible first | exact HB.out | apply below_alloc | apply pw_below_drewN | apply below_drew1 | refine below_set ?_ GE116.out) | exact HB.out))) : w.heap.size ≤ gb117)); have n5_ := aM' ((by rw [hg]; exact Nat.ne_of_lt (blk_lt (g := gb116) (o := .cells #[.bool true, .string a0_1, .string a0_2, .int .u64 a0_3, .int .u64 a0_4] 57 (0, 0)) (by (with_reducible repeat (first | refine blk_drewN ?_ _ | refine blk_drew ?_ | refine blk_alloc ?_ _)); exact BK116.out)) : gb116 ≠ gb117)); have n6_ := aM' ((by rw [hg]; exact Nat.ne_of_gt (blk_lt (g := gb116) (o := .cells #[.bool true, .string a0_1, .string a0_2, .int .u64 a0_3, .int .u64 a0_4] 57 (0, 0)) (by (with_reducible repeat (first | refine blk_drewN ?_ _ | refine blk_drew ?_ | refine blk_alloc ?_ _)); exact BK116.out)) : gb117 ≠ gb116)); clear BK116; clear HB; have BK116 := n0_; have HB := n1_; have BK117 := n2_; have GW117 := n3_; have GE117 := n4_; have NB116_117 := n5_; have NB117_116 := n6_; clear n0_ n1_ n2_ n3_ n4_ n5_ n6_; clear hb hbox hg; have hnb7 := NB117_116.out; have hnc7 := NB116_117.out; have hcz8_0 : w6.cell? ⟨gb117, 0, none⟩ = some (.int .u64 0) := (blk_cell BK117.out 0).trans rfl; have hcz8_1 : w6.cell? ⟨gb117, 1, none⟩ = some (.int .u64 0) := (blk_cell BK117.out 1).trans rfl; have hfz8_0 := blk_frozen BK117.out 0; have hfz8_1 := blk_frozen BK117.out 1; have hcz9_0 : w6.cell? ⟨gb116, 0, none⟩ = some (.bool true) := (blk_cell BK116.out 0).trans rfl; have hcz9_1 : w6.cell? ⟨gb116, 1, none⟩ = some (.string a0_1) := (blk_cell BK116.out 1).trans rfl; have hcz9_2 : w6.cell? ⟨gb116, 2, none⟩ = some (.string a0_2) := (blk_cell BK116.out 2).trans rfl; have hcz9_3 : w6.cell? ⟨gb116, 3, none⟩ = some (.int .u64 a0_3) := (blk_cell BK116.out 3).trans rfl; have hcz9_4 : w6.cell? ⟨gb116, 4, none⟩ = some (.int .u64 a0_4) := (blk_cell BK116.out 4).trans rfl; have hfz9_0 := blk_frozen BK116.out 0; have hfz9_1 := blk_frozen BK116.out 1; have hfz9_2 := blk_frozen BK116.out 2; have hfz9_3 := blk_frozen BK116.out 3; have hfz9_4 := blk_frozen BK116.out 4))
    go_ret
    exact ⟨by first | rfl | (simp [errW_none, errW_some] <;> rfl) | (simp [*, errW_none, errW_some] <;> rfl), by repeat (first | (with_reducible first | exact HB.out | apply below_alloc | apply pw_below_drewN | apply below_drew1 | refine below_set ?_ GE116.out | refine below_set ?_ GE117.out) | exact HB.out)⟩
   ·
    rw [if_neg c4] at H
    have c4b0 : (!(a0_3 == 0) || (!(a0_4 == 0))) = false := by simpa using c4
    clear c4
    obtain rfl := Option.some.inj H
    go_enter Tryd.func94, Tryd.ntmps94
    go_wp2_with (first | ((with_reducible refine gate_dst (N := 1) rfl ?_); refine box_event ?hg (N := 1) ?hd (cs := #[.bool true, .string a0_1, .string a0_2, .int .u64 a0_3, .int .u64 a0_4]) (t := 57) ?hr ?_; (case hd => rfl); (case hg => rfl); (case hr => first | (go_simp; done) | (go_simp; rfl)); intro gb116 hg w10 hbox hb; have n0_ := aM' (below_step (by repeat (first | (with_reducible first | exact HB.out | apply below_alloc | apply pw_below_drewN | apply below_drew1) | exact HB.out)) hb); have n1_ := aM' (hbox); have n2_ := aM' ((by rw [hg]; exact (below_size (by repeat (first | (with_reducible first | exact HB.out | apply below_alloc | apply pw_below_drewN | apply below_drew1) | exact HB.out))) : w.heap.size ≤ gb116)); have n3_ := aM' ((by rw [hg]; exact (below_size (by repeat (first | (with_reducible first | exact HB.out | apply below_alloc | apply pw_below_drewN | apply below_drew1) | exact HB.out))) : w.heap.size ≤ gb116)); clear HB; have HB := n0_; have BK116 := n1_; have GW116 := n2_; have GE116 := n3_; clear n0_ n1_ n2_ n3_; clear hb hbox hg) | ((with_reducible refine gate_dst (N := 3) rfl ?_); refine box_event ?hg (N := 3) ?hd (cs := #[.int .u64 0, .int .u64 0]) (t := 26) ?hr ?_; (case hd => rfl); (case hg => rfl); (case hr => first | (go_simp; done) | (go_simp; rfl)); intro gb117 hg w11 hbox hb; have n0_ := aM' (blk_below (g := gb116) (o := .cells #[.bool true, .string a0_1, .string a0_2, .int .u64 a0_3, .int .u64 a0_4] 57 (0, 0)) (by (with_reducible repeat (first | refine blk_drewN ?_ _ | refine blk_drew ?_ | refine blk_alloc ?_ _)); exact BK116.out) hb); have n1_ := aM' (below_step (by repeat (first | (with_reducible first | exact HB.out | apply below_alloc | apply pw_below_drewN | apply below_drew1 | refine below_set ?_ GE116.out) | exact HB.out)) hb); have n2_ := aM' (hbox); have n3_ := aM' ((by rw [hg]; exact (below_size (by repeat (first | (with_reducible first | exact HB.out | apply below_alloc | apply pw_below_drewN | apply below_drew1 | refine below_set ?_ GE116.out) | exact HB.out))) : w.heap.size ≤ gb117)); have n4_ := aM' ((by rw [hg]; exact (below_size (by repeat (first | (with_reducible first | exact HB.out | apply below_alloc | apply pw_below_drewN | apply below_drew1 | refine below_set ?_ GE116.out) | exact HB.out))) : w.heap.size ≤ gb117)); have n5_ := aM' ((by rw [hg]; exact Nat.ne_of_lt (blk_lt (g := gb116) (o := .cells #[.bool true, .string a0_1, .string a0_2, .int .u64 a0_3, .int .u64 a0_4] 57 (0, 0)) (by (with_reducible repeat (first | refine blk_drewN ?_ _ | refine blk_drew ?_ | refine blk_alloc ?_ _)); exact BK116.out)) : gb116 ≠ gb117)); have n6_ := aM' ((by rw [hg]; exact Nat.ne_of_gt (blk_lt (g := gb116) (o := .cells #[.bool true, .string a0_1, .string a0_2, .int .u64 a0_3, .int .u64 a0_4] 57 (0, 0)) (by (with_reducible repeat (first | refine blk_drewN ?_ _ | refine blk_drew ?_ | refine blk_alloc ?_ _)); exact BK116.out)) : gb117 ≠ gb116)); clear BK116; clear HB; have BK116 := n0_; have HB := n1_; have BK117 := n2_; have GW117 := n3_; have GE117 := n4_; have NB116_117 := n5_; have NB117_116 := n6_; clear n0_ n1_ n2_ n3_ n4_ n5_ n6_; clear hb hbox hg; have hnb12 := NB117_116.out; have hnc12 := NB116_117.out; have hcz13_0 : w11.cell? ⟨gb117, 0, none⟩ = some (.int .u64 0) := (blk_cell BK117.out 0).trans rfl; have hcz13_1 : w11.cell? ⟨gb117, 1, none⟩ = some (.int .u64 0) := (blk_cell BK117.out 1).trans rfl; have hfz13_0 := blk_frozen BK117.out 0; have hfz13_1 := blk_frozen BK117.out 1; have hcz14_0 : w11.cell? ⟨gb116, 0, none⟩ = some (.bool true) := (blk_cell BK116.out 0).trans rfl; have hcz14_1 : w11.cell? ⟨gb116, 1, none⟩ = some (.string a0_1) := (blk_cell BK116.out 1).trans rfl; have hcz14_2 : w11.cell? ⟨gb116, 2, none⟩ = some (.string a0_2) := (blk_cell BK116.out 2).trans rfl; have hcz14_3 : w11.cell? ⟨gb116, 3, none⟩ = some (.int .u64 a0_3) := (blk_cell BK116.out 3).trans rfl; have hcz14_4 : w11.cell? ⟨gb116, 4, none⟩ = some (.int .u64 a0_4) := (blk_cell BK116.out 4).trans rfl; have hfz14_0 := blk_frozen BK116.out 0; have hfz14_1 := blk_frozen BK116.out 1; have hfz14_2 := blk_frozen BK116.out 2; have hfz14_3 := blk_frozen BK116.out 3; have hfz14_4 := blk_frozen BK116.out 4))
    go_ret
    exact ⟨by first | rfl | (simp [errW_none, errW_some] <;> rfl) | (simp [*, errW_none, errW_some] <;> rfl), by repeat (first | (with_reducible first | exact HB.out | apply below_alloc | apply pw_below_drewN | apply below_drew1 | refine below_set ?_ GE116.out | refine below_set ?_ GE117.out) | exact HB.out)⟩
  ·
   rw [if_neg c3] at H
   have c3b0 : (a0_1.toList == ([] : List UInt8)) = false := beq_eq_false_iff_ne.mpr c3
   have c3b1 : (a0_1.toList != ([] : List UInt8)) = true := bne_iff_ne.mpr c3
   obtain rfl := Option.some.inj H
   go_enter Tryd.func94, Tryd.ntmps94
   go_wp2_with (first | ((with_reducible refine gate_dst (N := 1) rfl ?_); refine box_event ?hg (N := 1) ?hd (cs := #[.bool true, .string a0_1, .string a0_2, .int .u64 a0_3, .int .u64 a0_4]) (t := 57) ?hr ?_; (case hd => rfl); (case hg => rfl); (case hr => first | (go_simp; done) | (go_simp; rfl)); intro gb116 hg w15 hbox hb; have n0_ := aM' (below_step (by repeat (first | (with_reducible first | exact HB.out | apply below_alloc | apply pw_below_drewN | apply below_drew1) | exact HB.out)) hb); have n1_ := aM' (hbox); have n2_ := aM' ((by rw [hg]; exact (below_size (by repeat (first | (with_reducible first | exact HB.out | apply below_alloc | apply pw_below_drewN | apply below_drew1) | exact HB.out))) : w.heap.size ≤ gb116)); have n3_ := aM' ((by rw [hg]; exact (below_size (by repeat (first | (with_reducible first | exact HB.out | apply below_alloc | apply pw_below_drewN | apply below_drew1) | exact HB.out))) : w.heap.size ≤ gb116)); clear HB; have HB := n0_; have BK116 := n1_; have GW116 := n2_; have GE116 := n3_; clear n0_ n1_ n2_ n3_; clear hb hbox hg) | ((with_reducible refine gate_dst (N := 3) rfl ?_); refine box_event ?hg (N := 3) ?hd (cs := #[.int .u64 0, .int .u64 0]) (t := 26) ?hr ?_; (case hd => rfl); (case hg => rfl); (case hr => first | (go_simp; done) | (go_simp; rfl)); intro gb117 hg w16 hbox hb; have n0_ := aM' (blk_below (g := gb116) (o := .cells #[.bool true, .string a0_1, .string a0_2, .int .u64 a0_3, .int .u64 a0_4] 57 (0, 0)) (by (with_reducible repeat (first | refine blk_drewN ?_ _ | refine blk_drew ?_ | refine blk_alloc ?_ _)); exact BK116.out) hb); have n1_ := aM' (below_step (by repeat (first | (with_reducible first | exact HB.out | apply below_alloc | apply pw_below_drewN | apply below_drew1 | refine below_set ?_ GE116.out) | exact HB.out)) hb); have n2_ := aM' (hbox); have n3_ := aM' ((by rw [hg]; exact (below_size (by repeat (first | (with_reducible first | exact HB.out | apply below_alloc | apply pw_below_drewN | apply below_drew1 | refine below_set ?_ GE116.out) | exact HB.out))) : w.heap.size ≤ gb117)); have n4_ := aM' ((by rw [hg]; exact (below_size (by repeat (first | (with_reducible first | exact HB.out | apply below_alloc | apply pw_below_drewN | apply below_drew1 | refine below_set ?_ GE116.out) | exact HB.out))) : w.heap.size ≤ gb117)); have n5_ := aM' ((by rw [hg]; exact Nat.ne_of_lt (blk_lt (g := gb116) (o := .cells #[.bool true, .string a0_1, .string a0_2, .int .u64 a0_3, .int .u64 a0_4] 57 (0, 0)) (by (with_reducible repeat (first | refine blk_drewN ?_ _ | refine blk_drew ?_ | refine blk_alloc ?_ _)); exact BK116.out)) : gb116 ≠ gb117)); have n6_ := aM' ((by rw [hg]; exact Nat.ne_of_gt (blk_lt (g := gb116) (o := .cells #[.bool true, .string a0_1, .string a0_2, .int .u64 a0_3, .int .u64 a0_4] 57 (0, 0)) (by (with_reducible repeat (first | refine blk_drewN ?_ _ | refine blk_drew ?_ | refine blk_alloc ?_ _)); exact BK116.out)) : gb117 ≠ gb116)); clear BK116; clear HB; have BK116 := n0_; have HB := n1_; have BK117 := n2_; have GW117 := n3_; have GE117 := n4_; have NB116_117 := n5_; have NB117_116 := n6_; clear n0_ n1_ n2_ n3_ n4_ n5_ n6_; clear hb hbox hg; have hnb17 := NB117_116.out; have hnc17 := NB116_117.out; have hcz18_0 : w16.cell? ⟨gb117, 0, none⟩ = some (.int .u64 0) := (blk_cell BK117.out 0).trans rfl; have hcz18_1 : w16.cell? ⟨gb117, 1, none⟩ = some (.int .u64 0) := (blk_cell BK117.out 1).trans rfl; have hfz18_0 := blk_frozen BK117.out 0; have hfz18_1 := blk_frozen BK117.out 1; have hcz19_0 : w16.cell? ⟨gb116, 0, none⟩ = some (.bool true) := (blk_cell BK116.out 0).trans rfl; have hcz19_1 : w16.cell? ⟨gb116, 1, none⟩ = some (.string a0_1) := (blk_cell BK116.out 1).trans rfl; have hcz19_2 : w16.cell? ⟨gb116, 2, none⟩ = some (.string a0_2) := (blk_cell BK116.out 2).trans rfl; have hcz19_3 : w16.cell? ⟨gb116, 3, none⟩ = some (.int .u64 a0_3) := (blk_cell BK116.out 3).trans rfl; have hcz19_4 : w16.cell? ⟨gb116, 4, none⟩ = some (.int .u64 a0_4) := (blk_cell BK116.out 4).trans rfl; have hfz19_0 := blk_frozen BK116.out 0; have hfz19_1 := blk_frozen BK116.out 1; have hfz19_2 := blk_frozen BK116.out 2; have hfz19_3 := blk_frozen BK116.out 3; have hfz19_4 := blk_frozen BK116.out 4))
   go_ret
   exact ⟨by first | rfl | (simp [errW_none, errW_some] <;> rfl) | (simp [*, errW_none, errW_some] <;> rfl), by repeat (first | (with_reducible first | exact HB.out | apply below_alloc | apply pw_below_drewN | apply below_drew1 | refine below_set ?_ GE116.out | refine below_set ?_ GE117.out) | exact HB.out)⟩
 ·
  replace c2 := Bool.eq_false_iff.mpr c2
  subst c2
  have H1 : ((paymasterref07_MayId.f k a0_1).bind fun t118 => (if t118 = true then (some (decide ((a0_2.size : Int) ≤ 32))) else (some false))) = some r := by rw [if_neg (show ¬ (false = true) by decide)] at H; exact H
  clear H
  have H := H1
  clear H1
  replace H := Option.bind_eq_some_iff.mp H
  obtain ⟨t118, A200, H⟩ := H
  replace H : (if t118 = true then (some (decide ((a0_2.size : Int) ≤ 32))) else (some false)) = some r := H
  have A20 := aM' A200
  clear A200
  by_cases c21 : t118 = true
  ·
   subst c21
   have H1 : (some (decide ((a0_2.size : Int) ≤ 32))) = some r := by rw [if_pos rfl] at H; exact H
   clear H
   have H := H1
   clear H1
   obtain rfl := Option.some.inj H
   go_enter Tryd.func94, Tryd.ntmps94
   go_wp2_with (first | ((with_reducible refine gate_dst (N := 1) rfl ?_); refine box_event ?hg (N := 1) ?hd (cs := #[.bool false, .string a0_1, .string a0_2, .int .u64 a0_3, .int .u64 a0_4]) (t := 57) ?hr ?_; (case hd => rfl); (case hg => rfl); (case hr => first | (go_simp; done) | (go_simp; rfl)); intro gb116 hg w22 hbox hb; have n0_ := aM' (below_step (by repeat (first | (with_reducible first | exact HB.out | apply below_alloc | apply pw_below_drewN | apply below_drew1) | exact HB.out)) hb); have n1_ := aM' (hbox); have n2_ := aM' ((by rw [hg]; exact (below_size (by repeat (first | (with_reducible first | exact HB.out | apply below_alloc | apply pw_below_drewN | apply below_drew1) | exact HB.out))) : w.heap.size ≤ gb116)); have n3_ := aM' ((by rw [hg]; exact (below_size (by repeat (first | (with_reducible first | exact HB.out | apply below_alloc | apply pw_below_drewN | apply below_drew1) | exact HB.out))) : w.heap.size ≤ gb116)); clear HB; have HB := n0_; have BK116 := n1_; have GW116 := n2_; have GE116 := n3_; clear n0_ n1_ n2_ n3_; clear hb hbox hg) | ((with_reducible refine gate_dst (N := 3) rfl ?_); refine box_event ?hg (N := 3) ?hd (cs := #[.int .u64 0, .int .u64 0]) (t := 26) ?hr ?_; (case hd => rfl); (case hg => rfl); (case hr => first | (go_simp; done) | (go_simp; rfl)); intro gb117 hg w23 hbox hb; have n0_ := aM' (blk_below (g := gb116) (o := .cells #[.bool false, .string a0_1, .string a0_2, .int .u64 a0_3, .int .u64 a0_4] 57 (0, 0)) (by (with_reducible repeat (first | refine blk_drewN ?_ _ | refine blk_drew ?_ | refine blk_alloc ?_ _)); exact BK116.out) hb); have n1_ := aM' (below_step (by repeat (first | (with_reducible first | exact HB.out | apply below_alloc | apply pw_below_drewN | apply below_drew1 | refine below_set ?_ GE116.out) | exact HB.out)) hb); have n2_ := aM' (hbox); have n3_ := aM' ((by rw [hg]; exact (below_size (by repeat (first | (with_reducible first | exact HB.out | apply below_alloc | apply pw_below_drewN | apply below_drew1 | refine below_set ?_ GE116.out) | exact HB.out))) : w.heap.size ≤ gb117)); have n4_ := aM' ((by rw [hg]; exact (below_size (by repeat (first | (with_reducible first | exact HB.out | apply below_alloc | apply pw_below_drewN | apply below_drew1 | refine below_set ?_ GE116.out) | exact HB.out))) : w.heap.size ≤ gb117)); have n5_ := aM' ((by rw [hg]; exact Nat.ne_of_lt (blk_lt (g := gb116) (o := .cells #[.bool false, .string a0_1, .string a0_2, .int .u64 a0_3, .int .u64 a0_4] 57 (0, 0)) (by (with_reducible repeat (first | refine blk_drewN ?_ _ | refine blk_drew ?_ | refine blk_alloc ?_ _)); exact BK116.out)) : gb116 ≠ gb117)); have n6_ := aM' ((by rw [hg]; exact Nat.ne_of_gt (blk_lt (g := gb116) (o := .cells #[.bool false, .string a0_1, .string a0_2, .int .u64 a0_3, .int .u64 a0_4] 57 (0, 0)) (by (with_reducible repeat (first | refine blk_drewN ?_ _ | refine blk_drew ?_ | refine blk_alloc ?_ _)); exact BK116.out)) : gb117 ≠ gb116)); clear BK116; clear HB; have BK116 := n0_; have HB := n1_; have BK117 := n2_; have GW117 := n3_; have GE117 := n4_; have NB116_117 := n5_; have NB117_116 := n6_; clear n0_ n1_ n2_ n3_ n4_ n5_ n6_; clear hb hbox hg; have hnb24 := NB117_116.out; have hnc24 := NB116_117.out; have hcz25_0 : w23.cell? ⟨gb117, 0, none⟩ = some (.int .u64 0) := (blk_cell BK117.out 0).trans rfl; have hcz25_1 : w23.cell? ⟨gb117, 1, none⟩ = some (.int .u64 0) := (blk_cell BK117.out 1).trans rfl; have hfz25_0 := blk_frozen BK117.out 0; have hfz25_1 := blk_frozen BK117.out 1; have hcz26_0 : w23.cell? ⟨gb116, 0, none⟩ = some (.bool false) := (blk_cell BK116.out 0).trans rfl; have hcz26_1 : w23.cell? ⟨gb116, 1, none⟩ = some (.string a0_1) := (blk_cell BK116.out 1).trans rfl; have hcz26_2 : w23.cell? ⟨gb116, 2, none⟩ = some (.string a0_2) := (blk_cell BK116.out 2).trans rfl; have hcz26_3 : w23.cell? ⟨gb116, 3, none⟩ = some (.int .u64 a0_3) := (blk_cell BK116.out 3).trans rfl; have hcz26_4 : w23.cell? ⟨gb116, 4, none⟩ = some (.int .u64 a0_4) := (blk_cell BK116.out 4).trans rfl; have hfz26_0 := blk_frozen BK116.out 0; have hfz26_1 := blk_frozen BK116.out 1; have hfz26_2 := blk_frozen BK116.out 2; have hfz26_3 := blk_frozen BK116.out 3; have hfz26_4 := blk_frozen BK116.out 4) | (go_at_call 134; (with_reducible refine (paymasterref07_MayId.calls k a0_1 true _ A20.out).mono ?_); rintro e w' ⟨rfl, ⟨nd, rfl⟩⟩))
   go_ret
   exact ⟨by first | rfl | (simp [errW_none, errW_some] <;> rfl) | (simp [*, errW_none, errW_some] <;> rfl), by repeat (first | (with_reducible first | exact HB.out | apply below_alloc | apply pw_below_drewN | apply below_drew1 | refine below_set ?_ GE116.out | refine below_set ?_ GE117.out) | exact HB.out)⟩
  ·
   replace c21 := Bool.eq_false_iff.mpr c21
   subst c21
   have H1 : (some false) = some r := by rw [if_neg (show ¬ (false = true) by decide)] at H; exact H
   clear H
   have H := H1
   clear H1
   obtain rfl := Option.some.inj H
   go_enter Tryd.func94, Tryd.ntmps94
   go_wp2_with (first | ((with_reducible refine gate_dst (N := 1) rfl ?_); refine box_event ?hg (N := 1) ?hd (cs := #[.bool false, .string a0_1, .string a0_2, .int .u64 a0_3, .int .u64 a0_4]) (t := 57) ?hr ?_; (case hd => rfl); (case hg => rfl); (case hr => first | (go_simp; done) | (go_simp; rfl)); intro gb116 hg w27 hbox hb; have n0_ := aM' (below_step (by repeat (first | (with_reducible first | exact HB.out | apply below_alloc | apply pw_below_drewN | apply below_drew1) | exact HB.out)) hb); have n1_ := aM' (hbox); have n2_ := aM' ((by rw [hg]; exact (below_size (by repeat (first | (with_reducible first | exact HB.out | apply below_alloc | apply pw_below_drewN | apply below_drew1) | exact HB.out))) : w.heap.size ≤ gb116)); have n3_ := aM' ((by rw [hg]; exact (below_size (by repeat (first | (with_reducible first | exact HB.out | apply below_alloc | apply pw_below_drewN | apply below_drew1) | exact HB.out))) : w.heap.size ≤ gb116)); clear HB; have HB := n0_; have BK116 := n1_; have GW116 := n2_; have GE116 := n3_; clear n0_ n1_ n2_ n3_; clear hb hbox hg) | ((with_reducible refine gate_dst (N := 3) rfl ?_); refine box_event ?hg (N := 3) ?hd (cs := #[.int .u64 0, .int .u64 0]) (t := 26) ?hr ?_; (case hd => rfl); (case hg => rfl); (case hr => first | (go_simp; done) | (go_simp; rfl)); intro gb117 hg w28 hbox hb; have n0_ := aM' (blk_below (g := gb116) (o := .cells #[.bool false, .string a0_1, .string a0_2, .int .u64 a0_3, .int .u64 a0_4] 57 (0, 0)) (by (with_reducible repeat (first | refine blk_drewN ?_ _ | refine blk_drew ?_ | refine blk_alloc ?_ _)); exact BK116.out) hb); have n1_ := aM' (below_step (by repeat (first | (with_reducible first | exact HB.out | apply below_alloc | apply pw_below_drewN | apply below_drew1 | refine below_set ?_ GE116.out) | exact HB.out)) hb); have n2_ := aM' (hbox); have n3_ := aM' ((by rw [hg]; exact (below_size (by repeat (first | (with_reducible first | exact HB.out | apply below_alloc | apply pw_below_drewN | apply below_drew1 | refine below_set ?_ GE116.out) | exact HB.out))) : w.heap.size ≤ gb117)); have n4_ := aM' ((by rw [hg]; exact (below_size (by repeat (first | (with_reducible first | exact HB.out | apply below_alloc | apply pw_below_drewN | apply below_drew1 | refine below_set ?_ GE116.out) | exact HB.out))) : w.heap.size ≤ gb117)); have n5_ := aM' ((by rw [hg]; exact Nat.ne_of_lt (blk_lt (g := gb116) (o := .cells #[.bool false, .string a0_1, .string a0_2, .int .u64 a0_3, .int .u64 a0_4] 57 (0, 0)) (by (with_reducible repeat (first | refine blk_drewN ?_ _ | refine blk_drew ?_ | refine blk_alloc ?_ _)); exact BK116.out)) : gb116 ≠ gb117)); have n6_ := aM' ((by rw [hg]; exact Nat.ne_of_gt (blk_lt (g := gb116) (o := .cells #[.bool false, .string a0_1, .string a0_2, .int .u64 a0_3, .int .u64 a0_4] 57 (0, 0)) (by (with_reducible repeat (first | refine blk_drewN ?_ _ | refine blk_drew ?_ | refine blk_alloc ?_ _)); exact BK116.out)) : gb117 ≠ gb116)); clear BK116; clear HB; have BK116 := n0_; have HB := n1_; have BK117 := n2_; have GW117 := n3_; have GE117 := n4_; have NB116_117 := n5_; have NB117_116 := n6_; clear n0_ n1_ n2_ n3_ n4_ n5_ n6_; clear hb hbox hg; have hnb29 := NB117_116.out; have hnc29 := NB116_117.out; have hcz30_0 : w28.cell? ⟨gb117, 0, none⟩ = some (.int .u64 0) := (blk_cell BK117.out 0).trans rfl; have hcz30_1 : w28.cell? ⟨gb117, 1, none⟩ = some (.int .u64 0) := (blk_cell BK117.out 1).trans rfl; have hfz30_0 := blk_frozen BK117.out 0; have hfz30_1 := blk_frozen BK117.out 1; have hcz31_0 : w28.cell? ⟨gb116, 0, none⟩ = some (.bool false) := (blk_cell BK116.out 0).trans rfl; have hcz31_1 : w28.cell? ⟨gb116, 1, none⟩ = some (.string a0_1) := (blk_cell BK116.out 1).trans rfl; have hcz31_2 : w28.cell? ⟨gb116, 2, none⟩ = some (.string a0_2) := (blk_cell BK116.out 2).trans rfl; have hcz31_3 : w28.cell? ⟨gb116, 3, none⟩ = some (.int .u64 a0_3) := (blk_cell BK116.out 3).trans rfl; have hcz31_4 : w28.cell? ⟨gb116, 4, none⟩ = some (.int .u64 a0_4) := (blk_cell BK116.out 4).trans rfl; have hfz31_0 := blk_frozen BK116.out 0; have hfz31_1 := blk_frozen BK116.out 1; have hfz31_2 := blk_frozen BK116.out 2; have hfz31_3 := blk_frozen BK116.out 3; have hfz31_4 := blk_frozen BK116.out 4) | (go_at_call 134; (with_reducible refine (paymasterref07_MayId.calls k a0_1 false _ A20.out).mono ?_); rintro e w' ⟨rfl, ⟨nd, rfl⟩⟩))
   go_ret
   exact ⟨by first | rfl | (simp [errW_none, errW_some] <;> rfl) | (simp [*, errW_none, errW_some] <;> rfl), by repeat (first | (with_reducible first | exact HB.out | apply below_alloc | apply pw_below_drewN | apply below_drew1 | refine below_set ?_ GE116.out | refine below_set ?_ GE117.out) | exact HB.out)⟩
def paymasterref07_LeafText.T6 : Bool × List (List Nat × List Nat) := (true, [([], []), ([0], [0]), ([1], [1]), ([2], [2]), ([3], [3]), ([4], [4]), ([], []), ([6], [6]), ([5, 7], [5, 7]), ([], []), ([8, 9], [8, 9]), ([], []), ([11], [11]), ([12], [12]), ([10, 13], [10, 13]), ([14, 13, 0, 1, 2, 3, 4, 5, 6, 7, 8, 9, 10, 11, 12, 13, 14], [14])])
def paymasterref07_LeafText.B6 : List Nat := [0, 1, 3, 7, 15, 31, 0, 64, 255, 0, 1023, 0, 2048, 6144, 16383, 32767]
theorem paymasterref07_LeafText.tab6 : rtab .any (opsOf Tryd.f163 6) = paymasterref07_LeafText.T6 := by kernel_rfl
theorem paymasterref07_LeafText.bits6 : waitsOk paymasterref07_LeafText.T6.2 paymasterref07_LeafText.B6 = true := by kernel_rfl
end Go.Proofs.YtijfifphcchbbaaDoor.P
namespace Go.Proofs.YtijfifphcchbbaaDoor.P
open Go.RowKit Go.Proofs.YtijfifphcchbbaaDoorW.PrintWords Go.Proofs.YtijfifphcchbbaaDoorW.PrintLast Go.Proofs.YtijfifphcchbbaaDoorW.PrintMore
set_option linter.unusedVariables false
set_option linter.unusedSimpArgs false
set_option linter.unnecessarySimpa false
def mayLeafI (l : SLeaf) : Bool := if 32 < l.f2.size then false else if l.f0 = true then (if l.f1.toList = [] then (l.f3.f0 == 0 && (l.f3.f1 == 0)) else false) else mayIdI l.f1
theorem tagMayLeaf_eq (l : SLeaf) (hid : l.f1.size ≤ 1000000) : tag_MayLeaf.f l.f0 l.f1 l.f2 l.f3.f0 l.f3.f1 = some (mayLeafI l) := by
 unfold tag_MayLeaf.f mayLeafI
 by_cases h1 : 32 < l.f2.size
 ·
  rw [if_pos (by omega), if_pos h1]
 ·
  rw [if_neg (by omega), if_neg h1]
  cases l.f0 with
  | true =>
   simp only [if_true]
   by_cases h2 : l.f1.toList = []
   ·
    rw [if_pos h2, if_pos h2]
   ·
    rw [if_neg h2, if_neg h2]
  | false =>
   simp only [Bool.false_eq_true, if_false]
   have e : tag_MayId.f l.f1 = some (mayIdI l.f1) := by unfold tag_MayId.f; rw [if_pos hid]
   rw [e]; rfl
end Go.Proofs.YtijfifphcchbbaaDoor.P
namespace Go.Proofs.YtijfifphcchbbaaDoor.P
open Go.RowKit Go.Proofs.YtijfifphcchbbaaDoorW.PrintWords Go.Proofs.YtijfifphcchbbaaDoorW.PrintLast Go.Proofs.YtijfifphcchbbaaDoorW.PrintMore
set_option linter.unusedVariables false
set_option linter.unusedSimpArgs false
set_option linter.unnecessarySimpa false
attribute [local go_sem] sel_true
abbrev leafC (l : SLeaf) : Array Value := #[.bool l.f0, .string l.f1, .string l.f2, .int .u64 l.f3.f0, .int .u64 l.f3.f1]
structure LtS (w W : World) (l : SLeaf) : Prop where
 hB : Below w.heap.size w W
 h0 : W.heap[w.heap.size]? = some (.cells (leafC l) 57 (0, 0))
theorem LtS.below {w W W' : World} {l : SLeaf} (h : LtS w W l) (hb : Below W.heap.size W W') : LtS w W' l := ⟨h.hB.trans (hb.mono h.hB.size), blk_below h.h0 hb⟩
end Go.Proofs.YtijfifphcchbbaaDoor.P
namespace Go.Proofs.YtijfifphcchbbaaDoor.P
open Go.RowKit Go.Proofs.YtijfifphcchbbaaDoorW.PrintWords Go.Proofs.YtijfifphcchbbaaDoorW.PrintLast Go.Proofs.YtijfifphcchbbaaDoorW.PrintMore
set_option linter.unusedVariables false
set_option linter.unusedSimpArgs false
set_option linter.unnecessarySimpa false
theorem refMayLeaf_ev (l : SLeaf) (hid : l.f1.size ≤ 1000000) : Ev (fun k => paymasterref07_MayLeaf.f k l.f0 l.f1 l.f2 l.f3.f0 l.f3.f1) (mayLeafI l) := by
 unfold paymasterref07_MayLeaf.f mayLeafI
 have hd : ∀ b : Bool, decide ((l.f2.size : Int) ≤ 32) = decide (¬ 32 < l.f2.size) := fun _ => decide_eq_decide.2 (by omega)
 cases l.f0 with
 | true =>
  simp only [if_true]
  refine Ev.some_ (fun k => ?_)
  by_cases h2 : l.f1.toList = []
  ·
   rw [if_pos h2]
   cases hb : (l.f3.f0 == 0) <;> cases hc : (l.f3.f1 == 0)
   ·
    rw [if_pos (by simp)]; simp [h2]
   ·
    rw [if_pos (by simp)]; simp [h2]
   ·
    rw [if_pos (by simp)]; simp [h2]
   ·
    rw [if_neg (by simp), hd true]; simp [h2]; by_cases h1 : 32 < l.f2.size <;> simp [h1] <;> omega
  ·
   rw [if_neg h2]; simp [h2]
 | false =>
  simp only [Bool.false_eq_true, if_false]
  refine Ev.bind (refMayId_ev l.f1 hid) ?_
  refine Ev.some_ (fun k => ?_)
  cases mayIdI l.f1 with
  | true => rw [if_pos rfl, hd true]; by_cases h1 : 32 < l.f2.size <;> simp [h1] <;> omega
  | false => simp
end Go.Proofs.YtijfifphcchbbaaDoor.P
namespace Go.Proofs.YtijfifphcchbbaaDoor.P
open Go.RowKit Go.Proofs.YtijfifphcchbbaaDoorW.PrintWords Go.Proofs.YtijfifphcchbbaaDoorW.PrintLast Go.Proofs.YtijfifphcchbbaaDoorW.PrintMore
set_option linter.unusedVariables false
set_option linter.unusedSimpArgs false
set_option linter.unnecessarySimpa false
abbrev acC (l : SLeaf) : Array Value := #[.bool l.f0, .string l.f1, .string l.f2, .int .u64 l.f3.f0, .int .u64 l.f3.f1]
def nb (t : ByteArray) (o : Nat) : Nat := (bt t (o : Int)).toNat
theorem bt_nb (t : ByteArray) (o : Nat) : bt t (o : Int) = (nb t o : Int) := by have := bt_range t (o : Int); unfold nb; omega
theorem number_at (g : Nat) (t : ByteArray) (o : Nat) (W : World) (h : W.heap[g]? = some (rdO (t.extract o t.size))) (hn : o + 1 ≤ t.size) :
  Calls Tryd.prog 72 #[.pointer (some ⟨g, 0, none⟩)] W fun e w' => e = .returned (.int .i64 (nb t o : Int)) ∧ w' = W.setCell ⟨g, 0, none⟩ (.string (t.extract (o + 1) t.size)) := by
 have q := number_ok g _ W h (by rw [rest_size t o (by omega)]; omega)
 rw [rest_rest t o 1 (by omega), show (0 : Int) = ((0 : Nat) : Int) from rfl, rest_bt t o 0 (by omega), Nat.add_zero, bt_nb] at q
 exact q
theorem number_end (g : Nat) (t : ByteArray) (o : Nat) (W : World) (h : W.heap[g]? = some (rdO (t.extract o t.size))) (ho : o ≤ t.size) (hn : t.size < o + 1) :
  Calls Tryd.prog 72 #[.pointer (some ⟨g, 0, none⟩)] W fun e w' => e = shortP ∧ w' = W := number_short g _ W h (by rw [rest_size t o ho]; omega)
theorem take_at (g : Nat) (t : ByteArray) (o n : Nat) (W : World) (h : W.heap[g]? = some (rdO (t.extract o t.size))) (hn : o + n ≤ t.size) :
  Calls Tryd.prog 73 #[.pointer (some ⟨g, 0, none⟩), .int .i64 (n : Int)] W fun e w' => e = .returned (.string (t.extract o (o + n))) ∧ w' = W.setCell ⟨g, 0, none⟩ (.string (t.extract (o + n) t.size)) := by
 have q := take_ok g _ n W h (by rw [rest_size t o (by omega)]; omega)
 rw [rest_rest t o n (by omega), rest_take t o n hn] at q
 exact q
theorem take_end (g : Nat) (t : ByteArray) (o n : Nat) (W : World) (h : W.heap[g]? = some (rdO (t.extract o t.size))) (ho : o ≤ t.size) (hn : t.size < o + n) :
  Calls Tryd.prog 73 #[.pointer (some ⟨g, 0, none⟩), .int .i64 (n : Int)] W fun e w' => e = shortP ∧ w' = W := take_short g _ _ W h (by rw [rest_size t o ho]; omega)
theorem sum_at (g : Nat) (t : ByteArray) (o : Nat) (W : World) (h : W.heap[g]? = some (rdO (t.extract o t.size))) (hn : o + 16 ≤ t.size) :
  Calls Tryd.prog 74 #[.pointer (some ⟨g, 0, none⟩)] W fun e w' => e = .returned (.agg #[.int .u64 (beI t o 8), .int .u64 (beI t (o + 8) 8)]) ∧ w'.heap[g]? = some (rdO (t.extract (o + 16) t.size)) ∧ Below g W w' := by
 have q := rsum_ok g _ W h (by rw [rest_size t o (by omega)]; omega)
 rw [rest_rest t o 16 (by omega), rest_be t o 0 8 (by omega), rest_be t o 8 8 (by omega), Nat.add_zero] at q
 exact q
structure AcI (w : World) (B : Nat) (W : World) (l : SLeaf) (rest : ByteArray) : Prop where
 hB : Below w.heap.size w W
 hl : W.heap[w.heap.size]? = some (.cells (acC l) 57 (0, 0))
 ok : W.heap[B]? = some (.cells #[.bool false] 4 (0, 0))
 rd : W.heap[B + 1]? = some (rdO rest)
 le : w.heap.size < B
theorem AcI.rest {w : World} {B : Nat} {W : World} {l : SLeaf} {t t' : ByteArray} (h : AcI w B W l t) : AcI w B (W.setCell ⟨B + 1, 0, none⟩ (.string t')) l t' := by
 have := h.le
 exact ⟨h.hB.setCell (by show _ ≤ B + 1; omega) _, (Below.heap_setCell _ _ _ _ (by show _ ≠ B + 1; omega)).trans h.hl, (Below.heap_setCell _ _ _ _ (by show _ ≠ B + 1; omega)).trans h.ok, blk_put (cs' := #[.string t']) h.rd 0 (.string t') rfl, h.le⟩
theorem AcI.sum {w : World} {B : Nat} {W W' : World} {l : SLeaf} {t t' : ByteArray} (h : AcI w B W l t) (hb : Below (B + 1) W W') (hr : W'.heap[B + 1]? = some (rdO t')) : AcI w B W' l t' := by
 have := h.le
 exact ⟨h.hB.trans (hb.mono (by omega)), (hb.block _ (by omega)).trans h.hl, (hb.block _ (by omega)).trans h.ok, hr, h.le⟩
theorem AcI.put {w : World} {B : Nat} {W : World} {l l' : SLeaf} {t : ByteArray} (h : AcI w B W l t) (k : Nat) (v : Value) (hv : (acC l).setIfInBounds k v = acC l') : AcI w B (W.setCell ⟨w.heap.size, k, none⟩ v) l' t := by
 have := h.le
 exact ⟨h.hB.setCell (Nat.le_refl _) _, blk_put (cs' := acC l') h.hl k v hv, (Below.heap_setCell _ _ _ _ (by show _ ≠ w.heap.size; omega)).trans h.ok, (Below.heap_setCell _ _ _ _ (by show _ ≠ w.heap.size; omega)).trans h.rd, h.le⟩
def leafEnd (t : ByteArray) : Option (SLeaf × Nat) :=
 if t.size < 1 then none else
 if nb t 0 = 0 then
  if t.size < 2 then none else if t.size < 2 + nb t 1 then none else if t.size < 2 + nb t 1 + 1 then none else if t.size < 2 + nb t 1 + 1 + nb t (2 + nb t 1) then none else if t.size < 2 + nb t 1 + 1 + nb t (2 + nb t 1) + 16 then none else
  some (⟨false, t.extract 2 (2 + nb t 1), t.extract (2 + nb t 1 + 1) (2 + nb t 1 + 1 + nb t (2 + nb t 1)), ⟨beI t (2 + nb t 1 + 1 + nb t (2 + nb t 1)) 8, beI t (2 + nb t 1 + 1 + nb t (2 + nb t 1) + 8) 8⟩⟩, 2 + nb t 1 + 1 + nb t (2 + nb t 1) + 16)
 else if nb t 0 = 2 then
  if t.size < 2 then none else if t.size < 2 + nb t 1 then none else some (⟨true, ⟨#[]⟩, t.extract 2 (2 + nb t 1), ⟨0, 0⟩⟩, 2 + nb t 1)
 else none
abbrev zL0 : SLeaf := ⟨false, ⟨#[]⟩, ⟨#[]⟩, ⟨0, 0⟩⟩
set_option maxRecDepth 100000 in
set_option maxHeartbeats 8000000 in
theorem account1.calls (w : World) (B : Nat) (t : ByteArray) (W : World) (hI : AcI w B W zL0 (t.extract 0 t.size)) :
  Calls Tryd.prog 108 #[.pointer (some ⟨B + 1, 0, none⟩), .pointer (some ⟨w.heap.size, 0, none⟩)] W fun e w' =>
   (∃ l n, leafEnd t = some (l, n) ∧ n ≤ t.size ∧ e = .returned (.tuple #[]) ∧ AcI w B w' l (t.extract n t.size)) ∨ (leafEnd t = none ∧ e = shortP ∧ ∃ l rest, AcI w B w' l rest) := by
 have hu := Tryd.underlying57
 have hut := Tryd.underlying175
 have hus := Tryd.underlying125
 obtain ⟨le, hle⟩ : ∃ x, x = leafEnd t := ⟨_, rfl⟩
 rw [← hle]
 unfold leafEnd at hle
 have HLE := aM' hle
 have I0 := aM' hI
 clear hle hI
 by_cases hlt : t.size < 1
 ·
  have QS := aM' (number_end (B + 1) t (0) W I0.out.rd (Nat.zero_le _) (by omega))
  have T1 := aM' hlt
  clear hlt
  go_enter Tryd.func108, Tryd.ntmps108
  go_wp2_with fail
  refine QS.out.mono ?_
  rintro e w'' ⟨rfl, rfl⟩
  go_wp2
  exact ⟨rfl, Or.inr ⟨by rw [HLE.out]; simp [T1.out], rfl, _, _, I0.out⟩⟩
 have T1 := aM' hlt
 have hq := number_at (B + 1) t (0) W I0.out.rd (by omega)
 have hI := I0.out.rest (t' := t.extract (0 + 1) t.size)
 obtain ⟨X, hX⟩ : ∃ X, X = W.setCell ⟨B + 1, 0, none⟩ (.string (t.extract (0 + 1) t.size)) := ⟨_, rfl⟩
 rw [← hX] at hq hI
 have Q1 := aM' hq
 have I1 := aM' hI
 clear hq hI hX hlt
 go_enter Tryd.func108, Tryd.ntmps108
 go_wp2_with fail
 refine Q1.out.mono ?_
 rintro e V1 ⟨rfl, rfl⟩
 clear Q1
 by_cases hz : nb t 0 = 0
 ·
  have N0 := aM' hz
  have b0 : ((nb t 0 : Int) == 0) = true := by rw [hz]; rfl
  clear hz
  rw [show 0 + 1 = 1 from rfl] at I1
  by_cases hlt : t.size < 1 + 1
  ·
   have QS := aM' (number_end (B + 1) t (1) V1 I1.out.rd (by have := T1.out; omega) (by omega))
   have T2 := aM' hlt
   clear hlt
   go_wp2_with fail
   refine QS.out.mono ?_
   rintro e w'' ⟨rfl, rfl⟩
   go_wp2
   exact ⟨rfl, Or.inr ⟨by rw [HLE.out]; simp [T1.out, N0.out, T2.out], rfl, _, _, I1.out⟩⟩
  have T2 := aM' hlt
  have hq := number_at (B + 1) t (1) V1 I1.out.rd (by omega)
  have hI := I1.out.rest (t' := t.extract (1 + 1) t.size)
  obtain ⟨X, hX⟩ : ∃ X, X = V1.setCell ⟨B + 1, 0, none⟩ (.string (t.extract (1 + 1) t.size)) := ⟨_, rfl⟩
  rw [← hX] at hq hI
  have Q2 := aM' hq
  have I2 := aM' hI
  clear hq hI hX hlt
  go_wp2_with fail
  refine Q2.out.mono ?_
  rintro e V2 ⟨rfl, rfl⟩
  clear Q2
  rw [show 1 + 1 = 2 from rfl] at I2
  by_cases hlt : t.size < 2 + nb t 1
  ·
   have QS := aM' (take_end (B + 1) t (2) (nb t 1) V2 I2.out.rd (by have := T2.out; omega) hlt)
   have T3 := aM' hlt
   clear hlt
   go_wp2_with fail
   refine QS.out.mono ?_
   rintro e w'' ⟨rfl, rfl⟩
   go_wp2
   exact ⟨rfl, Or.inr ⟨by rw [HLE.out]; simp [T1.out, N0.out, T2.out, T3.out], rfl, _, _, I2.out⟩⟩
  have T3 := aM' hlt
  have hq := take_at (B + 1) t (2) (nb t 1) V2 I2.out.rd (by omega)
  have hI := I2.out.rest (t' := t.extract (2 + nb t 1) t.size)
  obtain ⟨X, hX⟩ : ∃ X, X = V2.setCell ⟨B + 1, 0, none⟩ (.string (t.extract (2 + nb t 1) t.size)) := ⟨_, rfl⟩
  rw [← hX] at hq hI
  have Q3 := aM' hq
  have I3a := aM' hI
  clear hq hI hX hlt
  go_wp2_with fail
  refine Q3.out.mono ?_
  rintro e V3 ⟨rfl, rfl⟩
  clear Q3
  have y1 := blk_cell I3a.out.hl 1
  have yf := fun i => blk_frozen I3a.out.hl i
  simp at y1
  go_wp2_with fail
  have hJ := I3a.out.put (l' := ⟨false, t.extract 2 (2 + nb t 1), ⟨#[]⟩, ⟨0, 0⟩⟩) 1 (.string (t.extract 2 (2 + nb t 1))) rfl
  obtain ⟨Y4, hX⟩ : ∃ Y, Y = V3.setCell ⟨w.heap.size, 1, none⟩ (.string (t.extract 2 (2 + nb t 1))) := ⟨_, rfl⟩
  rw [← hX] at hJ ⊢
  have I4 := aM' hJ
  clear hJ hX y1 yf
  by_cases hlt : t.size < 2 + nb t 1 + 1
  ·
   have QS := aM' (number_end (B + 1) t (2 + nb t 1) Y4 I4.out.rd (by have := T3.out; omega) (by omega))
   have T5 := aM' hlt
   clear hlt
   refine QS.out.mono ?_
   rintro e w'' ⟨rfl, rfl⟩
   go_wp2
   exact ⟨rfl, Or.inr ⟨by rw [HLE.out]; simp [T1.out, N0.out, T2.out, T3.out, T5.out], rfl, _, _, I4.out⟩⟩
  have T5 := aM' hlt
  have hq := number_at (B + 1) t (2 + nb t 1) Y4 I4.out.rd (by omega)
  have hI := I4.out.rest (t' := t.extract (2 + nb t 1 + 1) t.size)
  obtain ⟨X, hX⟩ : ∃ X, X = Y4.setCell ⟨B + 1, 0, none⟩ (.string (t.extract (2 + nb t 1 + 1) t.size)) := ⟨_, rfl⟩
  rw [← hX] at hq hI
  have Q5 := aM' hq
  have I5 := aM' hI
  clear hq hI hX hlt
  refine Q5.out.mono ?_
  rintro e V5 ⟨rfl, rfl⟩
  clear Q5
  by_cases hlt : t.size < 2 + nb t 1 + 1 + nb t (2 + nb t 1)
  ·
   have QS := aM' (take_end (B + 1) t (2 + nb t 1 + 1) (nb t (2 + nb t 1)) V5 I5.out.rd (by have := T5.out; omega) hlt)
   have T6 := aM' hlt
   clear hlt
   go_wp2_with fail
   refine QS.out.mono ?_
   rintro e w'' ⟨rfl, rfl⟩
   go_wp2
   exact ⟨rfl, Or.inr ⟨by rw [HLE.out]; simp [T1.out, N0.out, T2.out, T3.out, T5.out, T6.out], rfl, _, _, I5.out⟩⟩
  have T6 := aM' hlt
  have hq := take_at (B + 1) t (2 + nb t 1 + 1) (nb t (2 + nb t 1)) V5 I5.out.rd (by omega)
  have hI := I5.out.rest (t' := t.extract (2 + nb t 1 + 1 + nb t (2 + nb t 1)) t.size)
  obtain ⟨X, hX⟩ : ∃ X, X = V5.setCell ⟨B + 1, 0, none⟩ (.string (t.extract (2 + nb t 1 + 1 + nb t (2 + nb t 1)) t.size)) := ⟨_, rfl⟩
  rw [← hX] at hq hI
  have Q6 := aM' hq
  have I6a := aM' hI
  clear hq hI hX hlt
  go_wp2_with fail
  refine Q6.out.mono ?_
  rintro e V6 ⟨rfl, rfl⟩
  clear Q6
  have y2 := blk_cell I6a.out.hl 2
  have yf := fun i => blk_frozen I6a.out.hl i
  simp at y2
  go_wp2_with fail
  have hJ := I6a.out.put (l' := ⟨false, t.extract 2 (2 + nb t 1), t.extract (2 + nb t 1 + 1) (2 + nb t 1 + 1 + nb t (2 + nb t 1)), ⟨0, 0⟩⟩) 2 (.string (t.extract (2 + nb t 1 + 1) (2 + nb t 1 + 1 + nb t (2 + nb t 1)))) rfl
  obtain ⟨Y7, hX⟩ : ∃ Y, Y = V6.setCell ⟨w.heap.size, 2, none⟩ (.string (t.extract (2 + nb t 1 + 1) (2 + nb t 1 + 1 + nb t (2 + nb t 1)))) := ⟨_, rfl⟩
  rw [← hX] at hJ ⊢
  have I7 := aM' hJ
  clear hJ hX y2 yf
  by_cases hlt : t.size < 2 + nb t 1 + 1 + nb t (2 + nb t 1) + 16
  ·
   have QS := aM' (rsum_short (B + 1) _ Y7 I7.out.rd (by have := T6.out; rw [rest_size t (2 + nb t 1 + 1 + nb t (2 + nb t 1)) (by omega)]; omega))
   have TS := aM' hlt
   clear hlt
   refine QS.out.mono ?_
   rintro e w'' ⟨rfl, rfl⟩
   go_wp2
   exact ⟨rfl, Or.inr ⟨by rw [HLE.out]; simp [T1.out, N0.out, T2.out, T3.out, T5.out, T6.out, TS.out], rfl, _, _, I7.out.sum (keeps_alloc (Nat.le_of_lt (blk_lt I7.out.rd)) _) (blk_alloc I7.out.rd _)⟩⟩
  have TS := aM' hlt
  have QB := aM' (sum_at (B + 1) t (2 + nb t 1 + 1 + nb t (2 + nb t 1)) Y7 I7.out.rd (by omega))
  clear hlt
  refine QB.out.mono ?_
  rintro e VE ⟨rfl, hr, hb⟩
  have hI := I7.out.sum hb hr
  have IE := aM' hI
  clear hr hb hI QB
  have y3 := blk_cell IE.out.hl 3
  have y4 := blk_cell IE.out.hl 4
  have yf := fun i => blk_frozen IE.out.hl i
  simp at y3 y4
  have hJ := IE.out.put (l' := ⟨false, t.extract 2 (2 + nb t 1), t.extract (2 + nb t 1 + 1) (2 + nb t 1 + 1 + nb t (2 + nb t 1)), ⟨beI t (2 + nb t 1 + 1 + nb t (2 + nb t 1)) 8, 0⟩⟩) 3 (.int .u64 (beI t (2 + nb t 1 + 1 + nb t (2 + nb t 1)) 8)) rfl
  have hJ2 := hJ.put (l' := ⟨false, t.extract 2 (2 + nb t 1), t.extract (2 + nb t 1 + 1) (2 + nb t 1 + 1 + nb t (2 + nb t 1)), ⟨beI t (2 + nb t 1 + 1 + nb t (2 + nb t 1)) 8, beI t (2 + nb t 1 + 1 + nb t (2 + nb t 1) + 8) 8⟩⟩) 4 (.int .u64 (beI t (2 + nb t 1 + 1 + nb t (2 + nb t 1) + 8) 8)) rfl
  have IF := aM' hJ2
  clear hJ hJ2
  go_wp2
  go_end0
  exact Or.inl ⟨_, 2 + nb t 1 + 1 + nb t (2 + nb t 1) + 16, by rw [HLE.out]; simp [T1.out, N0.out, T2.out, T3.out, T5.out, T6.out, TS.out], by have := TS.out; omega, rfl, IF.out⟩
 ·
  by_cases hz2 : nb t 0 = 2
  ·
   have N0 := aM' hz
   have N2 := aM' hz2
   have b0 : ((nb t 0 : Int) == 0) = false := by rw [hz2]; rfl
   have b2 : ((nb t 0 : Int) == 2) = true := by rw [hz2]; rfl
   clear hz hz2
   rw [show 0 + 1 = 1 from rfl] at I1
   by_cases hlt : t.size < 1 + 1
   ·
    have QS := aM' (number_end (B + 1) t (1) V1 I1.out.rd (by have := T1.out; omega) (by omega))
    have T18 := aM' hlt
    clear hlt
    go_wp2_with fail
    refine QS.out.mono ?_
    rintro e w'' ⟨rfl, rfl⟩
    go_wp2
    exact ⟨rfl, Or.inr ⟨by rw [HLE.out]; simp [T1.out, N0.out, N2.out, T18.out], rfl, _, _, I1.out⟩⟩
   have T18 := aM' hlt
   have hq := number_at (B + 1) t (1) V1 I1.out.rd (by omega)
   have hI := I1.out.rest (t' := t.extract (1 + 1) t.size)
   obtain ⟨X, hX⟩ : ∃ X, X = V1.setCell ⟨B + 1, 0, none⟩ (.string (t.extract (1 + 1) t.size)) := ⟨_, rfl⟩
   rw [← hX] at hq hI
   have Q18 := aM' hq
   have I18 := aM' hI
   clear hq hI hX hlt
   go_wp2_with fail
   refine Q18.out.mono ?_
   rintro e V18 ⟨rfl, rfl⟩
   clear Q18
   rw [show 1 + 1 = 2 from rfl] at I18
   by_cases hlt : t.size < 2 + nb t 1
   ·
    have QS := aM' (take_end (B + 1) t (2) (nb t 1) V18 I18.out.rd (by have := T18.out; omega) hlt)
    have T19 := aM' hlt
    clear hlt
    go_wp2_with fail
    refine QS.out.mono ?_
    rintro e w'' ⟨rfl, rfl⟩
    go_wp2
    exact ⟨rfl, Or.inr ⟨by rw [HLE.out]; simp [T1.out, N0.out, N2.out, T18.out, T19.out], rfl, _, _, I18.out⟩⟩
   have T19 := aM' hlt
   have hq := take_at (B + 1) t (2) (nb t 1) V18 I18.out.rd (by omega)
   have hI := I18.out.rest (t' := t.extract (2 + nb t 1) t.size)
   obtain ⟨X, hX⟩ : ∃ X, X = V18.setCell ⟨B + 1, 0, none⟩ (.string (t.extract (2 + nb t 1) t.size)) := ⟨_, rfl⟩
   rw [← hX] at hq hI
   have Q19 := aM' hq
   have I19a := aM' hI
   clear hq hI hX hlt
   go_wp2_with fail
   refine Q19.out.mono ?_
   rintro e V19 ⟨rfl, rfl⟩
   clear Q19
   have y0 := blk_cell I19a.out.hl 0
   have y2 := blk_cell I19a.out.hl 2
   have yf := fun i => blk_frozen I19a.out.hl i
   simp at y0 y2
   have hJ := I19a.out.put (l' := ⟨true, ⟨#[]⟩, ⟨#[]⟩, ⟨0, 0⟩⟩) 0 (.bool true) rfl
   have hJ2 := hJ.put (l' := ⟨true, ⟨#[]⟩, t.extract 2 (2 + nb t 1), ⟨0, 0⟩⟩) 2 (.string (t.extract 2 (2 + nb t 1))) rfl
   have IF := aM' hJ2
   clear hJ hJ2
   go_wp2
   go_end0
   exact Or.inl ⟨_, 2 + nb t 1, by rw [HLE.out]; simp [T1.out, N0.out, N2.out, T18.out, T19.out], by have := T19.out; omega, rfl, IF.out⟩
  ·
   have N0 := aM' hz
   have N2 := aM' hz2
   have b0 : ((nb t 0 : Int) == 0) = false := by rw [beq_eq_false_iff_ne]; omega
   have b2 : ((nb t 0 : Int) == 2) = false := by rw [beq_eq_false_iff_ne]; omega
   clear hz hz2
   go_wp2
   exact ⟨rfl, Or.inr ⟨by rw [HLE.out]; simp [T1.out, N0.out, N2.out], rfl, _, _, I1.out⟩⟩
end Go.Proofs.YtijfifphcchbbaaDoor.P
namespace Go.Proofs.YtijfifphcchbbaaDoor.P
open Go.RowKit Go.Proofs.YtijfifphcchbbaaDoorW.PrintWords Go.Proofs.YtijfifphcchbbaaDoorW.PrintLast Go.Proofs.YtijfifphcchbbaaDoorW.PrintMore
attribute [local go_sem] max2_int min2_int max_two min_two max_three min_three max_four min_four-- for this text's walks alone
set_option linter.unusedVariables false
set_option linter.unusedSimpArgs false
structure SEntry where
 f0 : SLeaf
 f1 : SProof
structure SRoot where
 f0 : ByteArray
 f1 : SU128
 f2 : Int
end Go.Proofs.YtijfifphcchbbaaDoor.P
namespace Go.Proofs.YtijfifphcchbbaaDoor.P
open Go.RowKit Go.Proofs.YtijfifphcchbbaaDoorW.PrintWords Go.Proofs.YtijfifphcchbbaaDoorW.PrintLast Go.Proofs.YtijfifphcchbbaaDoorW.PrintMore
attribute [local go_sem] max2_int min2_int max_two min_two max_three min_three max_four min_four-- for this text's walks alone
set_option linter.unusedVariables false
set_option linter.unusedSimpArgs false
theorem eqALeaf (d : Nat) (w : World) (x0 y0 : Bool) (x1 y1 : ByteArray) (x2 y2 : ByteArray) (x3 y3 : Int) (x4 y4 : Int) :
  (Op.equalIn (d + 3) 57 (.agg #[.bool x0, .string x1, .string x2, .int .u64 x3, .int .u64 x4]) (.agg #[.bool y0, .string y1, .string y2, .int .u64 y3, .int .u64 y4])).run Tryd.prog w = .ok (x0 == y0 && (x1.toList == y1.toList && (x2.toList == y2.toList && ((x3 == y3 && (x4 == y4)))))) w := by
 refine eqA_of Tryd.underlying57 (by kernel_rfl) ?_
 refine eqf_cons (by rfl) (by go_simp; rfl) (by go_simp; rfl) (by go_simp) ?_
 refine eqf_cons (by rfl) (by go_simp; rfl) (by go_simp; rfl) (by go_simp) ?_
 refine eqf_cons (by rfl) (by go_simp; rfl) (by go_simp; rfl) (by go_simp) ?_
 exact eqf_last (by rfl) (by go_simp) (by go_simp) (eqAU128 (d + 0) w _ _ _ _)
end Go.Proofs.YtijfifphcchbbaaDoor.P
namespace Go.Proofs.YtijfifphcchbbaaDoor.P
open Go.RowKit Go.Proofs.YtijfifphcchbbaaDoorW.PrintWords Go.Proofs.YtijfifphcchbbaaDoorW.PrintLast Go.Proofs.YtijfifphcchbbaaDoorW.PrintMore
attribute [local go_sem] max2_int min2_int max_two min_two max_three min_three max_four min_four-- for this text's walks alone
set_option linter.unusedVariables false
set_option linter.unusedSimpArgs false
def paymasterref15_Up.T5 : Bool × List (List Nat × List Nat) := (true, [([], []), ([], []), ([], []), ([1, 2], [1, 2]), ([3], [3]), ([], []), ([], []), ([6], [6]), ([5, 7], [5, 7]), ([8], [8]), ([0, 4, 9], [0, 4, 9]), ([10], [10]), ([11], [11]), ([11], [11]), ([], []), ([14, 12, 10, 0, 1, 2, 3, 4, 5, 6, 7, 8, 9, 10, 11, 12, 14], [12, 14]), ([13, 15, 0, 1, 2, 3, 4, 5, 6, 7, 8, 9, 10, 11, 12, 13, 14, 15], [13])])
def paymasterref15_Up.B5 : List Nat := [0, 0, 0, 6, 14, 0, 0, 64, 224, 480, 1023, 2047, 4095, 4095, 0, 24575, 65535]
theorem paymasterref15_Up.tab5 : rtab .any (opsOf Tryd.f96 5) = paymasterref15_Up.T5 := by kernel_rfl
theorem paymasterref15_Up.bits5 : waitsOk paymasterref15_Up.T5.2 paymasterref15_Up.B5 = true := by kernel_rfl
end Go.Proofs.YtijfifphcchbbaaDoor.P
namespace Go.Proofs.YtijfifphcchbbaaDoor.P
open Go.RowKit Go.Proofs.YtijfifphcchbbaaDoorW.PrintWords Go.Proofs.YtijfifphcchbbaaDoorW.PrintLast Go.Proofs.YtijfifphcchbbaaDoorW.PrintMore
set_option linter.unusedVariables false
set_option linter.unusedSimpArgs false
set_option linter.unnecessarySimpa false
structure OkE (e : SEntry) : Prop where
 id : e.f0.f1.size ≤ 1000000
 sa : e.f0.f2.size ≤ 1000000
 ub : OkU e.f0.f3
 p : 0 ≤ e.f1.f0 ∧ e.f1.f0 < 18446744073709551616
 us : ∀ x ∈ e.f1.f1, OkU x.f1
 ls : e.f1.f1.length ≤ 9223372036854775807
end Go.Proofs.YtijfifphcchbbaaDoor.P
namespace Go.Proofs.YtijfifphcchbbaaDoor.P
open Go.RowKit Go.Proofs.YtijfifphcchbbaaDoorW.PrintWords Go.Proofs.YtijfifphcchbbaaDoorW.PrintLast Go.Proofs.YtijfifphcchbbaaDoorW.PrintMore
set_option linter.unusedVariables false
set_option linter.unusedSimpArgs false
set_option linter.unnecessarySimpa false
attribute [local go_sem] sel_true
def AcR (w : World) (t : ByteArray) (o : Option ByteArray) (w' : World) : Prop :=
 Below w.heap.size w w' ∧ ∃ l, w'.heap[w.heap.size]? = some (.cells (acC l) 57 (0, 0)) ∧
  match o with
  | some rest => ∃ n, leafEnd t = some (l, n) ∧ n ≤ t.size ∧ rest = t.extract n t.size
  | none => leafEnd t = none
theorem AcR.keep {w W : World} (hsz : w.heap.size < W.heap.size) {t : ByteArray} (o : Option ByteArray) (w' w'' : World) (h : AcR w t o w') (hb : Below W.heap.size w' w'') : AcR w t o w'' := by
 obtain ⟨h0, l, hl, ho⟩ := h
 exact ⟨h0.trans (hb.mono (by omega)), l, (hb.block _ (by omega)).trans hl, ho⟩
theorem ext_zero (t : ByteArray) : t.extract 0 t.size = t := by simp
theorem AcR.run {w W : World} {t : ByteArray} (hB : Below w.heap.size w W) (hl : W.heap[w.heap.size]? = some (.cells (acC zL0) 57 (0, 0))) (hsz : W.heap.size = w.heap.size + 1) : ∀ W1 : World, RdS W W1 t → Below W.heap.size W W1 → Calls Tryd.prog 108 #[.pointer (some ⟨W.heap.size + 1, 0, none⟩), .pointer (some ⟨w.heap.size, 0, none⟩)] W1 fun e w' => (∃ rest, e = .returned (.tuple #[]) ∧ RdS W w' rest ∧ AcR w t (some rest) w') ∨ (e = shortP ∧ (∃ rest, RdS W w' rest) ∧ AcR w t none w') := by
 intro W1 hs hb
 have hI : AcI w W.heap.size W1 zL0 (t.extract 0 t.size) := ⟨hB.trans (hb.mono (by omega)), (hb.block _ (by omega)).trans hl, hs.ok, by rw [ext_zero]; exact hs.rd, by omega⟩
 refine (account1.calls w W.heap.size t W1 hI).mono ?_
 rintro e w' (⟨l, n, hc, hn, rfl, h2⟩ | ⟨hc, rfl, l, rest, h2⟩)
 ·
  exact Or.inl ⟨_, rfl, ⟨h2.ok, h2.rd⟩, h2.hB, _, h2.hl, n, hc, hn, rfl⟩
 ·
  exact Or.inr ⟨rfl, ⟨rest, h2.ok, h2.rd⟩, h2.hB, l, h2.hl, hc⟩
theorem below5 {w W : World} {g : Nat} (h : Below w.heap.size w W) (hg : w.heap.size ≤ g) (a b c d e : Value) : Below w.heap.size w (((((W.setCell ⟨g, 0, none⟩ a).setCell ⟨g, 1, none⟩ b).setCell ⟨g, 2, none⟩ c).setCell ⟨g, 3, none⟩ d).setCell ⟨g, 4, none⟩ e) := below_set (below_set (below_set (below_set (below_set h hg) hg) hg) hg) hg
theorem same5 {W : World} {g : Nat} {lf : SLeaf} (h : W.heap[g]? = some (.cells (acC lf) 57 (0, 0))) : (((((W.setCell ⟨g, 0, none⟩ (.bool lf.f0)).setCell ⟨g, 1, none⟩ (.string lf.f1)).setCell ⟨g, 2, none⟩ (.string lf.f2)).setCell ⟨g, 3, none⟩ (.int .u64 lf.f3.f0)).setCell ⟨g, 4, none⟩ (.int .u64 lf.f3.f1)).heap[g]? = some (.cells (acC lf) 57 (0, 0)) :=
 blk_put (cs' := acC lf) (blk_put (cs' := acC lf) (blk_put (cs' := acC lf) (blk_put (cs' := acC lf) (blk_put (cs' := acC lf) h 0 (.bool lf.f0) rfl) 1 (.string lf.f1) rfl) 2 (.string lf.f2) rfl) 3 (.int .u64 lf.f3.f0) rfl) 4 (.int .u64 lf.f3.f1) rfl
theorem leafEnd_id {t : ByteArray} {l : SLeaf} {n : Nat} (h : leafEnd t = some (l, n)) : l.f1.size ≤ t.size := by
 unfold leafEnd at h
 repeat' split at h
 all_goals first | cases h | skip
 ·
  show (t.extract _ _).size ≤ _
  rw [ByteArray.size_extract]; omega
 ·
  exact Nat.zero_le _
def isLeafT (t : ByteArray) : Bool := match leafEnd t with
 | some (l, n) => (n == t.size) && mayLeafI l
 | none => false
set_option maxRecDepth 100000 in
set_option maxHeartbeats 4000000 in
theorem account.calls (t : ByteArray) (w : World) (hK : LaidT w) (ht : t.size ≤ 1000000) :
  Calls Tryd.prog 66 #[.string t] w fun e w' => (∃ l, e = .returned (.tuple #[.agg (acC l), .bool (isLeafT t)]) ∧ (isLeafT t = true → ∃ n, leafEnd t = some (l, n))) ∧ Below w.heap.size w w' := by
 have hu := Tryd.underlying57
 have hmf : ∀ (fn : Fn) (first cap : Array Value) (w : World), (Instr.makeFunc fn first cap).run Tryd.prog w = .ok (.func fn first cap) w := fun _ _ _ _ => rfl
 have HK := aM' hK
 have HT := aM' ht
 have q := reads_leaf.calls ⟨w.heap.size, 0, none⟩ t (w.alloc (.cells #[.bool false, .string ⟨#[]⟩, .string ⟨#[]⟩, .int .u64 0, .int .u64 0] 57)) (AcR w t) (AcR.keep (by rw [World.size_alloc]; omega)) (AcR.run (below_alloc (Below.refl _ _) _) (blk_new w _) (by rw [World.size_alloc]))
 have Q := aM' q
 clear hK ht q
 go_enter Tryd.func66, Tryd.ntmps66
 go_wp2_with fail
 refine Q.out.mono ?_
 rintro e V2 hpost
 clear Q
 rcases hpost with ⟨rest, he, rfl, h0, lf, hl, n, hc, hn, hrest⟩ | ⟨rfl, hno⟩
 ·
  have H0 := aM' h0
  have HL := aM' hl
  have hz : n = t.size := by
   have hs := rest_size t n hn
   rw [← hrest] at hs
   have h1 : rest.toList = [] := by simpa using he
   have h2 : rest = ⟨#[]⟩ := toList_inj (h1.trans (show [] = (⟨#[]⟩ : ByteArray).toList by decide +kernel))
   have h3 : rest.size = 0 := by rw [h2]; rfl
   omega
  have HE := aM' hc
  have HZ := aM' hz
  have HM := aM' (tagMayLeaf_eq lf (Nat.le_trans (leafEnd_id hc) HT.out))
  have HI : Aside0 (isLeafT t = mayLeafI lf) := ⟨by unfold isLeafT; rw [hc, hz]; simp⟩
  clear he h0 hl hc hn hrest hz
  go_upto_region 2 with (fail)
  refine region_inv (fun l a W => a = ({ tmps := #[.string t, undef, .pointer (some ⟨w.heap.size, 0, none⟩), sel (l 7) (.bool (mayLeafI lf)) (.bool true), .string t, .func (.func 108) #[] #[.pointer (some ⟨w.heap.size, 0, none⟩)], .bool true, sel (l 0) (.agg #[.bool lf.f0, .string lf.f1, .string lf.f2, .int .u64 lf.f3.f0, .int .u64 lf.f3.f1]) (undef), sel (l 1) (.bool true) (undef), sel (l 2) (.bool true) (undef), sel (l 3) (.agg #[.bool lf.f0, .string lf.f1, .string lf.f2, .int .u64 lf.f3.f0, .int .u64 lf.f3.f1]) (undef), sel (l 4) (.bool (mayLeafI lf)) (undef), sel (l 5) (.bool (mayLeafI lf)) (undef)], defers := [] } : Act) ∧ (Below w.heap.size w W ∧ W.heap[w.heap.size]? = some (.cells #[.bool lf.f0, .string lf.f1, .string lf.f2, .int .u64 lf.f3.f0, .int .u64 lf.f3.f1] 57 (0, 0)) ∧ (l 7 = true → l 1 = true))) 8 rfl rfl (by kernel_rfl) ?h0 ?hend ?hstep
  case h0 => exact ⟨rfl, below_drew H0.out, HL.out, fun h => (by cases h)⟩
  case hstep =>
   refine rg_cons (rg_cons (rg_cons (rg_cons (rg_cons (rg_cons (rg_cons (rg_cons (rg_nil) ?s0) ?s1) ?s2) ?s3) ?s4) ?s5) ?s6) ?s7
   case s0 =>
    refine rg_step rfl ?_
    rintro l a W ⟨rfl, hI⟩ hl hd
    clear hd
    have x0 := blk_cell hI.2.1 0
    have x1 := blk_cell hI.2.1 1
    have x2 := blk_cell hI.2.1 2
    have x3 := blk_cell hI.2.1 3
    have x4 := blk_cell hI.2.1 4
    simp at x0 x1 x2 x3 x4
    refine rg_val (v := .agg #[.bool lf.f0, .string lf.f1, .string lf.f2, .int .u64 lf.f3.f0, .int .u64 lf.f3.f1]) (w' := W) rfl (by go_simp) ?_
    refine ⟨?_, ?_⟩
    ·
     simp only [Act.put, List.setIfInBounds_toArray, List.set_cons_zero, List.set_cons_succ]; rfl
    ·
     exact hI
   case s1 =>
    refine rg_step rfl ?_
    rintro l a W ⟨rfl, hI⟩ hl hd
    clear hd
    have h7 : l 7 = false := by
     cases h : l 7 with
     | false => rfl
     | true => rw [hI.2.2 h] at hl; cases hl
    refine rg_val (v := .bool true) (w' := W) rfl (by rw [h7]; rfl) ?_
    refine ⟨?_, ?_⟩
    ·
     simp only [Act.put, List.setIfInBounds_toArray, List.set_cons_zero, List.set_cons_succ]; rfl
    ·
     exact ⟨hI.1, hI.2.1, fun _ => rfl⟩
   case s2 =>
    refine rg_step rfl ?_
    rintro l a W ⟨rfl, hI⟩ hl hd
    have d1 := hd 1 (by decide)
    clear hd
    refine rg_val (v := .bool true) (w' := W) rfl (by go_simp) ?_
    refine ⟨?_, ?_⟩
    ·
     simp only [Act.put, List.setIfInBounds_toArray, List.set_cons_zero, List.set_cons_succ]; rfl
    ·
     exact hI
   case s3 =>
    refine rg_step rfl ?_
    rintro l a W ⟨rfl, hI⟩ hl hd
    have d2 := hd 2 (by decide)
    clear hd
    have x0 := blk_cell hI.2.1 0
    have x1 := blk_cell hI.2.1 1
    have x2 := blk_cell hI.2.1 2
    have x3 := blk_cell hI.2.1 3
    have x4 := blk_cell hI.2.1 4
    simp at x0 x1 x2 x3 x4
    refine rg_val (v := .agg #[.bool lf.f0, .string lf.f1, .string lf.f2, .int .u64 lf.f3.f0, .int .u64 lf.f3.f1]) (w' := W) (by simp only [d2, sel_true]; rfl) (by go_simp) ?_
    refine ⟨?_, ?_⟩
    ·
     simp only [Act.put, List.setIfInBounds_toArray, List.set_cons_zero, List.set_cons_succ]; rfl
    ·
     exact hI
   case s4 =>
    refine rg_step rfl ?_
    rintro l a W ⟨rfl, hI⟩ hl hd
    have d2 := hd 2 (by decide)
    have d3 := hd 3 (by decide)
    clear hd
    refine rg_call (by simp only [d2, sel_true]; rfl) (by go_simp; exact ⟨rfl, rfl⟩) ?_
    refine (tag_MayLeaf.calls lf.f0 lf.f1 lf.f2 lf.f3.f0 lf.f3.f1 (mayLeafI lf) W (HK.out.below hI.1) HM.out).mono ?_
    rintro x W' ⟨rfl, hb⟩
    refine ⟨_, rfl, ?_, ?_⟩
    ·
     simp only [Act.put, List.setIfInBounds_toArray, List.set_cons_zero, List.set_cons_succ]; rfl
    ·
     exact ⟨hI.1.trans (hb.mono hI.1.size), blk_below hI.2.1 hb, hI.2.2⟩
   case s5 =>
    refine rg_step rfl ?_
    rintro l a W ⟨rfl, hI⟩ hl hd
    have d2 := hd 2 (by decide)
    have d4 := hd 4 (by decide)
    clear hd
    refine rg_val (v := .bool (mayLeafI lf)) (w' := W) rfl (by go_simp) ?_
    refine ⟨?_, ?_⟩
    ·
     simp only [Act.put, List.setIfInBounds_toArray, List.set_cons_zero, List.set_cons_succ]; rfl
    ·
     exact hI
   case s6 =>
    refine rg_step rfl ?_
    rintro l a W ⟨rfl, hI⟩ hl hd
    have d0 := hd 0 (by decide)
    clear hd
    have x0 := blk_cell hI.2.1 0
    have x1 := blk_cell hI.2.1 1
    have x2 := blk_cell hI.2.1 2
    have x3 := blk_cell hI.2.1 3
    have x4 := blk_cell hI.2.1 4
    simp at x0 x1 x2 x3 x4
    have yf := fun i => blk_frozen hI.2.1 i
    refine rg_skip rfl (by go_simp; rfl) ?_
    refine ⟨?_, ?_⟩
    ·
     simp only [Act.put, List.setIfInBounds_toArray, List.set_cons_zero, List.set_cons_succ]; rfl
    ·
     exact ⟨below5 hI.1 (Nat.le_refl _) _ _ _ _ _, same5 hI.2.1, hI.2.2⟩
   case s7 =>
    refine rg_step rfl ?_
    rintro l a W ⟨rfl, hI⟩ hl hd
    have d1 := hd 1 (by decide)
    have d5 := hd 5 (by decide)
    clear hd
    refine rg_val (v := .bool (mayLeafI lf)) (w' := W) rfl (by go_simp) ?_
    refine ⟨?_, ?_⟩
    ·
     simp only [Act.put, List.setIfInBounds_toArray, List.set_cons_zero, List.set_cons_succ]; rfl
    ·
     exact ⟨hI.1, hI.2.1, fun _ => d1⟩
  case hend =>
   rintro l a W ⟨rfl, hI⟩ hall
   have e0 := hall 0 (by decide)
   have e1 := hall 1 (by decide)
   have e2 := hall 2 (by decide)
   have e3 := hall 3 (by decide)
   have e4 := hall 4 (by decide)
   have e5 := hall 5 (by decide)
   have e6 := hall 6 (by decide)
   have e7 := hall 7 (by decide)
   clear hall
   simp only [e0, e1, e2, e3, e4, e5, e6, e7, sel_true]
   clear e0 e1 e2 e3 e4 e5 e6 e7
   have x0 := blk_cell hI.2.1 0
   have x1 := blk_cell hI.2.1 1
   have x2 := blk_cell hI.2.1 2
   have x3 := blk_cell hI.2.1 3
   have x4 := blk_cell hI.2.1 4
   simp at x0 x1 x2 x3 x4
   have HB := aM' hI.1
   clear hI
   go_wp2
   refine bodyPost_ret (v := .tuple #[.agg (acC lf), .bool (mayLeafI lf)]) ?_ rfl ⟨⟨lf, by rw [HI.out], fun _ => ⟨n, HE.out⟩⟩, HB.out⟩
   simp [results, Tryd.results66, go_sem, hu, x0, x1, x2, x3, x4]
 ·
  have hn' : isLeafT t = false ∧ Below w.heap.size w V2 ∧ ∃ l, V2.heap[w.heap.size]? = some (.cells (acC l) 57 (0, 0)) := by
   rcases hno with ⟨rest, he, h0, l, hl, n, hc, hn, hrest⟩ | ⟨h0, l, hl, hc⟩
   ·
    refine ⟨?_, h0, _, hl⟩
    unfold isLeafT
    rw [hc]
    have hs := rest_size t n hn
    rw [← hrest] at hs
    have hne : ¬ n = t.size := fun h => by
     have h2 : rest.size = 0 := by omega
     have h3 : rest = ⟨#[]⟩ := ByteArray.ext (by have : rest.data.size = 0 := h2; exact Array.eq_empty_of_size_eq_zero this)
     rw [h3, show ((⟨#[]⟩ : ByteArray).toList.isEmpty) = true by decide +kernel] at he
     cases he
    simp [hne]
   ·
    refine ⟨?_, h0, _, hl⟩
    unfold isLeafT
    rw [hc]
  obtain ⟨hit, h0, lf, hl⟩ := hn'
  clear hno
  have H0 := aM' h0
  have HL := aM' hl
  have HI := aM' hit
  clear h0 hl hit
  go_upto_region 2 with (fail)
  refine region_inv (fun l a W => a = ({ tmps := #[.string t, undef, .pointer (some ⟨w.heap.size, 0, none⟩), sel (l 7) (.bool false) (.bool false), .string t, .func (.func 108) #[] #[.pointer (some ⟨w.heap.size, 0, none⟩)], .bool false, sel (l 0) (.agg #[.bool lf.f0, .string lf.f1, .string lf.f2, .int .u64 lf.f3.f0, .int .u64 lf.f3.f1]) (undef), sel (l 1) (.bool false) (undef), sel (l 2) (.bool false) (undef), sel (l 3) (undef) (undef), sel (l 4) (undef) (undef), sel (l 5) (.bool false) (undef)], defers := [] } : Act) ∧ (Below w.heap.size w W ∧ W.heap[w.heap.size]? = some (.cells #[.bool lf.f0, .string lf.f1, .string lf.f2, .int .u64 lf.f3.f0, .int .u64 lf.f3.f1] 57 (0, 0)) ∧ (l 7 = true → l 1 = true))) 8 rfl rfl (by kernel_rfl) ?h0 ?hend ?hstep
  case h0 => exact ⟨rfl, below_drew H0.out, HL.out, fun h => (by cases h)⟩
  case hstep =>
   refine rg_cons (rg_cons (rg_cons (rg_cons (rg_cons (rg_cons (rg_cons (rg_cons (rg_nil) ?s0) ?s1) ?s2) ?s3) ?s4) ?s5) ?s6) ?s7
   case s0 =>
    refine rg_step rfl ?_
    rintro l a W ⟨rfl, hI⟩ hl hd
    clear hd
    have x0 := blk_cell hI.2.1 0
    have x1 := blk_cell hI.2.1 1
    have x2 := blk_cell hI.2.1 2
    have x3 := blk_cell hI.2.1 3
    have x4 := blk_cell hI.2.1 4
    simp at x0 x1 x2 x3 x4
    refine rg_val (v := .agg #[.bool lf.f0, .string lf.f1, .string lf.f2, .int .u64 lf.f3.f0, .int .u64 lf.f3.f1]) (w' := W) rfl (by go_simp) ?_
    refine ⟨?_, ?_⟩
    ·
     simp only [Act.put, List.setIfInBounds_toArray, List.set_cons_zero, List.set_cons_succ]; rfl
    ·
     exact hI
   case s1 =>
    refine rg_step rfl ?_
    rintro l a W ⟨rfl, hI⟩ hl hd
    clear hd
    have h7 : l 7 = false := by
     cases h : l 7 with
     | false => rfl
     | true => rw [hI.2.2 h] at hl; cases hl
    refine rg_val (v := .bool false) (w' := W) rfl (by rw [h7]; rfl) ?_
    refine ⟨?_, ?_⟩
    ·
     simp only [Act.put, List.setIfInBounds_toArray, List.set_cons_zero, List.set_cons_succ]; rfl
    ·
     exact ⟨hI.1, hI.2.1, fun _ => rfl⟩
   case s2 =>
    refine rg_step rfl ?_
    rintro l a W ⟨rfl, hI⟩ hl hd
    have d1 := hd 1 (by decide)
    clear hd
    refine rg_val (v := .bool false) (w' := W) rfl (by go_simp) ?_
    refine ⟨?_, ?_⟩
    ·
     simp only [Act.put, List.setIfInBounds_toArray, List.set_cons_zero, List.set_cons_succ]; rfl
    ·
     exact hI
   case s3 =>
    refine rg_step rfl ?_
    rintro l a W ⟨rfl, hI⟩ hl hd
    have d2 := hd 2 (by decide)
    clear hd
    refine rg_not (by simp only [d2, sel_true]; rfl) ?_
    refine ⟨?_, ?_⟩
    ·
     simp only [Act.put, List.setIfInBounds_toArray, List.set_cons_zero, List.set_cons_succ]; rfl
    ·
     exact hI
   case s4 =>
    refine rg_step rfl ?_
    rintro l a W ⟨rfl, hI⟩ hl hd
    have d2 := hd 2 (by decide)
    have d3 := hd 3 (by decide)
    clear hd
    refine rg_not (by simp only [d2, sel_true]; rfl) ?_
    refine ⟨?_, ?_⟩
    ·
     simp only [Act.put, List.setIfInBounds_toArray, List.set_cons_zero, List.set_cons_succ]; rfl
    ·
     exact hI
   case s5 =>
    refine rg_step rfl ?_
    rintro l a W ⟨rfl, hI⟩ hl hd
    have d2 := hd 2 (by decide)
    clear hd
    refine rg_val (v := .bool false) (w' := W) rfl (by go_simp) ?_
    refine ⟨?_, ?_⟩
    ·
     simp only [Act.put, List.setIfInBounds_toArray, List.set_cons_zero, List.set_cons_succ]; rfl
    ·
     exact hI
   case s6 =>
    refine rg_step rfl ?_
    rintro l a W ⟨rfl, hI⟩ hl hd
    have d0 := hd 0 (by decide)
    clear hd
    have x0 := blk_cell hI.2.1 0
    have x1 := blk_cell hI.2.1 1
    have x2 := blk_cell hI.2.1 2
    have x3 := blk_cell hI.2.1 3
    have x4 := blk_cell hI.2.1 4
    simp at x0 x1 x2 x3 x4
    have yf := fun i => blk_frozen hI.2.1 i
    refine rg_skip rfl (by go_simp; rfl) ?_
    refine ⟨?_, ?_⟩
    ·
     simp only [Act.put, List.setIfInBounds_toArray, List.set_cons_zero, List.set_cons_succ]; rfl
    ·
     exact ⟨below5 hI.1 (Nat.le_refl _) _ _ _ _ _, same5 hI.2.1, hI.2.2⟩
   case s7 =>
    refine rg_step rfl ?_
    rintro l a W ⟨rfl, hI⟩ hl hd
    have d1 := hd 1 (by decide)
    have d5 := hd 5 (by decide)
    clear hd
    refine rg_val (v := .bool false) (w' := W) rfl (by go_simp) ?_
    refine ⟨?_, ?_⟩
    ·
     simp only [Act.put, List.setIfInBounds_toArray, List.set_cons_zero, List.set_cons_succ]; rfl
    ·
     exact ⟨hI.1, hI.2.1, fun _ => d1⟩
  case hend =>
   rintro l a W ⟨rfl, hI⟩ hall
   have e0 := hall 0 (by decide)
   have e1 := hall 1 (by decide)
   have e2 := hall 2 (by decide)
   have e3 := hall 3 (by decide)
   have e4 := hall 4 (by decide)
   have e5 := hall 5 (by decide)
   have e6 := hall 6 (by decide)
   have e7 := hall 7 (by decide)
   clear hall
   simp only [e0, e1, e2, e3, e4, e5, e6, e7, sel_true]
   clear e0 e1 e2 e3 e4 e5 e6 e7
   have x0 := blk_cell hI.2.1 0
   have x1 := blk_cell hI.2.1 1
   have x2 := blk_cell hI.2.1 2
   have x3 := blk_cell hI.2.1 3
   have x4 := blk_cell hI.2.1 4
   simp at x0 x1 x2 x3 x4
   have HB := aM' hI.1
   clear hI
   go_wp2
   refine bodyPost_ret (v := .tuple #[.agg (acC lf), .bool false]) ?_ rfl ⟨⟨lf, by rw [HI.out], fun h => by rw [HI.out] at h; cases h⟩, HB.out⟩
   simp [results, Tryd.results66, go_sem, hu, x0, x1, x2, x3, x4]
end Go.Proofs.YtijfifphcchbbaaDoor.P
namespace Go.Proofs.YtijfifphcchbbaaDoor.P
open Go.RowKit Go.Proofs.YtijfifphcchbbaaDoorW.PrintWords Go.Proofs.YtijfifphcchbbaaDoorW.PrintLast Go.Proofs.YtijfifphcchbbaaDoorW.PrintMore
set_option linter.unusedVariables false
set_option linter.unusedSimpArgs false
set_option linter.unnecessarySimpa false
def nodeTI (wd : Int) (t : ByteArray) : SNode × Int :=
 if 1 ≤ wd ∧ wd ≤ 32 then
  (if isTwo wd t = true then
   (if (addI128 (sideL wd.toNat t).f1.f0 (sideL wd.toNat t).f1.f1 (sideR wd.toNat t).f1.f0 (sideR wd.toNat t).f1.f1).2.2 = 0 then (⟨dgI wd t, ⟨(addI128 (sideL wd.toNat t).f1.f0 (sideL wd.toNat t).f1.f1 (sideR wd.toNat t).f1.f0 (sideR wd.toNat t).f1.f1).1, (addI128 (sideL wd.toNat t).f1.f0 (sideL wd.toNat t).f1.f1 (sideR wd.toNat t).f1.f0 (sideR wd.toNat t).f1.f1).2.1⟩⟩, 0) else (zN, 10))
  else if isLeafT t = true then (match leafEnd t with | some (l, _) => (⟨dgI wd t, l.f3⟩, 0) | none => (zN, 130)) else (zN, 130))
 else (zN, 70)
structure NdS (w W : World) (lv pl : Int) (t : ByteArray) : Prop where
 hB : Below w.heap.size w W
 h3 : W.heap[w.heap.size]? = some (.cells #[.int .i64 lv, .int .u64 pl, .string t] 48 (0, 0))
 h4 : W.heap[w.heap.size + 1]? = some (.cells (nodeA zN) 28 (0, 0))
theorem NdS.below {w W W' : World} {lv pl : Int} {t : ByteArray} (h : NdS w W lv pl t) (hb : Below W.heap.size W W') : NdS w W' lv pl t := ⟨h.hB.trans (hb.mono h.hB.size), blk_below h.h3 hb, blk_below h.h4 hb⟩
theorem ndS_made (w : World) (lv pl : Int) (t : ByteArray) : NdS w ((w.alloc (.cells #[.int .i64 lv, .int .u64 pl, .string t] 48)).alloc (.cells #[.string ⟨#[]⟩, .int .u64 0, .int .u64 0] 28)) lv pl t := by
 have h1 := blk_new (w.alloc (.cells #[.int .i64 lv, .int .u64 pl, .string t] 48)) (.cells #[.string ⟨#[]⟩, .int .u64 0, .int .u64 0] 28)
 rw [World.size_alloc] at h1
 exact ⟨below_alloc (below_alloc (Below.refl _ _) _) _, blk_alloc (blk_new w _) _, h1⟩
theorem NdS.lt {w W : World} {lv pl : Int} {t : ByteArray} (h : NdS w W lv pl t) : w.heap.size + 1 < W.heap.size := blk_lt h.h4
theorem NdS.res {w W : World} {lv pl : Int} {t : ByteArray} (h : NdS w W lv pl t) : (W.cell? ⟨w.heap.size + 1, 0, none⟩ = some (.string ⟨#[]⟩) ∧ W.cell? ⟨w.heap.size + 1, 1, none⟩ = some (.int .u64 0) ∧ W.cell? ⟨w.heap.size + 1, 2, none⟩ = some (.int .u64 0)) ∧ ∀ i, W.frozen? ⟨w.heap.size + 1, i, none⟩ = false := ⟨⟨blk_cell h.h4 0, blk_cell h.h4 1, blk_cell h.h4 2⟩, fun i => blk_frozen h.h4 i⟩
theorem NdS.step {w W : World} {lv pl : Int} {t : ByteArray} (h : NdS w W lv pl t) : W.cell? ⟨w.heap.size, 0, none⟩ = some (.int .i64 lv) ∧ W.cell? ⟨w.heap.size, 1, none⟩ = some (.int .u64 pl) ∧ W.cell? ⟨w.heap.size, 2, none⟩ = some (.string t) := ⟨blk_cell h.h3 0, blk_cell h.h3 1, blk_cell h.h3 2⟩
theorem side_ok (wd : Nat) (t : ByteArray) : OkU (sideL wd t).f1 ∧ OkU (sideR wd t).f1 := ⟨⟨beI_range _ _ _, beI_range _ _ _⟩, ⟨beI_range _ _ _, beI_range _ _ _⟩⟩
set_option maxRecDepth 100000 in
set_option maxHeartbeats 4000000 in
theorem tnode.calls (wd lv pl : Int) (t : ByteArray) (w : World) (hK : LaidT w) (ht : t.size ≤ 1000000) :
  Calls Tryd.prog 22 #[.int .i64 wd, .agg #[.int .i64 lv, .int .u64 pl, .string t]] w fun e w' => e = .returned (.tuple #[nodeV (nodeTI wd t).1, .int .i64 (nodeTI wd t).2]) ∧ Below w.heap.size w w' := by
 have hu := Tryd.underlying28
 have hu2 := Tryd.underlying26
 have hu3 := Tryd.underlying48
 obtain ⟨res, hres⟩ : ∃ x, x = nodeTI wd t := ⟨_, rfl⟩
 rw [← hres]
 have HK := aM' hK
 have HT := aM' ht
 have HRES := aM' hres
 clear hK ht hres
 go_enter Tryd.func22, Tryd.ntmps22
 go_wp2_with fail
 have hS := ndS_made w lv pl t
 refine (wide.calls wd _).mono ?_
 rintro e V ⟨rfl, hV⟩
 rw [← hV] at hS
 have HS := aM' hS
 clear hV hS
 by_cases hw : 1 ≤ wd ∧ wd ≤ 32
 ·
  have b1 : (decide (1 ≤ wd) && decide (wd ≤ 32)) = true := by simp [hw.1, hw.2]
  rw [b1]
  have HD := aM' (tagDigest_eq wd t hw.1 hw.2 (by have := HT.out; omega))
  have HW := aM' hw
  obtain ⟨_, _, s2⟩ := HS.out.step
  clear hw b1
  go_wp2_with fail
  refine (tag_Digest.calls wd t (dgI wd t) V (HK.out.below HS.out.hB).1 HD.out).mono ?_
  rintro e V2 ⟨rfl, hb⟩
  have hS2 := HS.out.below hb
  have HS2 := aM' hS2
  clear hb hS2 s2
  go_upto_region 4 with (fail)
  obtain ⟨W3, hW⟩ : ∃ X, X = V2.alloc (.cells #[.string (dgI wd t), .int .u64 0, .int .u64 0] 28) := ⟨_, rfl⟩
  rw [← hW]
  have hS3 : NdS w W3 lv pl t := by rw [hW]; exact HS2.out.below (below_alloc (Below.refl _ _) _)
  have h6 : W3.heap[V2.heap.size]? = some (.cells (nodeA ⟨dgI wd t, ⟨0, 0⟩⟩) 28 (0, 0)) := by rw [hW]; exact blk_new _ _
  have hg6 : w.heap.size + 1 < V2.heap.size := HS2.out.lt
  generalize V2.heap.size = g6 at h6 hg6 ⊢
  have HS3 := aM' hS3
  have H6 := aM' h6
  have G6 := aM' hg6
  obtain ⟨s0, s1, s2⟩ := HS3.out.step
  have hq := sides.calls wd lv pl t W3
  obtain ⟨it, hit⟩ : ∃ b, b = isTwo wd t := ⟨_, rfl⟩
  rw [← hit] at hq
  have HIT := aM' hit
  have Q := aM' hq
  clear hq hit hW hS3 h6 hg6
  cases it with
  | true =>
   have q := Q.out
   rw [if_pos rfl, if_pos rfl] at q
   obtain ⟨oL, oR⟩ := side_ok wd.toNat t
   have hadd := u128Add_eq _ _ _ _ oL.h0 oL.h1 oR.h0 oR.h1
   obtain ⟨sl, hsl⟩ : ∃ x, x = sideL wd.toNat t := ⟨_, rfl⟩
   obtain ⟨sr, hsr⟩ : ∃ x, x = sideR wd.toNat t := ⟨_, rfl⟩
   rw [← hsl, ← hsr] at q hadd
   have Q1 := aM' q
   have SL := aM' hsl
   have SR := aM' hsr
   rcases had : addI128 sl.f1.f0 sl.f1.f1 sr.f1.f0 sr.f1.f1 with ⟨a1, a2, a3⟩
   rw [had] at hadd
   have AD := aM' had
   have ADD := aM' hadd
   clear q hsl hsr had hadd oL oR Q
   go_wp2_with fail
   refine Q1.out.mono ?_
   rintro e V4 ⟨rfl, hb⟩
   have hS4 := HS3.out.below hb
   have h64 := blk_below H6.out hb
   have HS4 := aM' hS4
   have H64 := aM' h64
   clear hb hS4 h64 Q1 s0 s1 s2
   go_upto_region 5 with (fail)
   obtain ⟨W5, hW⟩ : ∃ X, X = (V4.alloc (.cells #[.string sl.f0, .int .u64 sl.f1.f0, .int .u64 sl.f1.f1] 28)).alloc (.cells #[.string sr.f0, .int .u64 sr.f1.f0, .int .u64 sr.f1.f1] 28) := ⟨_, rfl⟩
   rw [← hW]
   have hS5 : NdS w W5 lv pl t := by rw [hW]; exact HS4.out.below (below_alloc (below_alloc (Below.refl _ _) _) _)
   have h65 : W5.heap[g6]? = some (.cells (nodeA ⟨dgI wd t, ⟨0, 0⟩⟩) 28 (0, 0)) := by rw [hW]; exact blk_alloc (blk_alloc H64.out _) _
   have hl5 : W5.heap[V4.heap.size]? = some (.cells (nodeA sl) 28 (0, 0)) := by rw [hW]; exact blk_alloc (blk_new V4 _) _
   have hr5 : W5.heap[V4.heap.size + 1]? = some (.cells (nodeA sr) 28 (0, 0)) := by
    have := blk_new (V4.alloc (.cells #[.string sl.f0, .int .u64 sl.f1.f0, .int .u64 sl.f1.f1] 28)) (.cells #[.string sr.f0, .int .u64 sr.f1.f0, .int .u64 sr.f1.f1] 28)
    rw [World.size_alloc] at this
    rw [hW]; exact this
   generalize V4.heap.size = g7 at hl5 hr5 ⊢
   have HS5 := aM' hS5
   have H65 := aM' h65
   have l1 : W5.cell? ⟨g7, 1, none⟩ = some (.int .u64 sl.f1.f0) := blk_cell hl5 1
   have l2 : W5.cell? ⟨g7, 2, none⟩ = some (.int .u64 sl.f1.f1) := blk_cell hl5 2
   have r1 : W5.cell? ⟨g7 + 1, 1, none⟩ = some (.int .u64 sr.f1.f0) := blk_cell hr5 1
   have r2 : W5.cell? ⟨g7 + 1, 2, none⟩ = some (.int .u64 sr.f1.f1) := blk_cell hr5 2
   clear hW hS5 h65 hl5 hr5
   go_wp2_with fail
   refine (u128_Add.calls sl.f1.f0 sl.f1.f1 sr.f1.f0 sr.f1.f1 a1 a2 a3 W5 ADD.out).mono ?_
   rintro e V6 ⟨rfl, hb⟩
   have hS6 := HS5.out.below hb
   have h66 := blk_below H65.out hb
   have HS6 := aM' hS6
   have H66 := aM' h66
   clear hb hS6 h66 l1 l2 r1 r2
   go_upto_region 7 with (fail)
   obtain ⟨W7, hW⟩ : ∃ X, X = V6.alloc (.cells #[.int .u64 a1, .int .u64 a2] 26) := ⟨_, rfl⟩
   rw [← hW]
   have hS7 : NdS w W7 lv pl t := by rw [hW]; exact HS6.out.below (below_alloc (Below.refl _ _) _)
   have h67 : W7.heap[g6]? = some (.cells (nodeA ⟨dgI wd t, ⟨0, 0⟩⟩) 28 (0, 0)) := by rw [hW]; exact blk_alloc H66.out _
   have hu7 : W7.heap[V6.heap.size]? = some (.cells #[.int .u64 a1, .int .u64 a2] 26 (0, 0)) := by rw [hW]; exact blk_new _ _
   have hg : g6 < V6.heap.size := blk_lt H66.out
   generalize V6.heap.size = g8 at hu7 hg ⊢
   have HS7 := aM' hS7
   have H67 := aM' h67
   have u0 : W7.cell? ⟨g8, 0, none⟩ = some (.int .u64 a1) := blk_cell hu7 0
   have u1 : W7.cell? ⟨g8, 1, none⟩ = some (.int .u64 a2) := blk_cell hu7 1
   obtain ⟨⟨y0, y1, y2⟩, yf⟩ := HS7.out.res
   have d0 : W7.cell? ⟨g6, 0, none⟩ = some (.string (dgI wd t)) := blk_cell h67 0
   have d1 : W7.cell? ⟨g6, 1, none⟩ = some (.int .u64 0) := blk_cell h67 1
   have d2 : W7.cell? ⟨g6, 2, none⟩ = some (.int .u64 0) := blk_cell h67 2
   have df : ∀ i, W7.frozen? ⟨g6, i, none⟩ = false := fun i => blk_frozen h67 i
   have hne : g6 ≠ w.heap.size + 1 := Nat.ne_of_gt G6.out
   have hne2 : w.heap.size + 1 ≠ g6 := Nat.ne_of_lt G6.out
   have hge : w.heap.size ≤ g6 := by have := G6.out; omega
   have HGE := aM' hge
   clear hW hS7 h67 hu7 hg hge
   by_cases ha : a3 = 0
   ·
    subst ha
    have HX : Aside0 (res = (⟨dgI wd t, ⟨a1, a2⟩⟩, 0)) := ⟨by rw [HRES.out]; unfold nodeTI; rw [if_pos HW.out, if_pos HIT.out.symm, ← SL.out, ← SR.out, AD.out]; rfl⟩
    go_wp2
    refine bodyPost_ret (v := .tuple #[nodeV ⟨dgI wd t, ⟨a1, a2⟩⟩, .int .i64 0]) ?_ rfl ⟨by rw [HX.out], ?_⟩
    ·
     simp [results, Tryd.results22, go_sem, hu, y0, y1, y2]
    ·
     exact below_set (below_set (below_set (below_set (below_set HS7.out.hB HGE.out) HGE.out) (by (try dsimp only); omega)) (by (try dsimp only); omega)) (by (try dsimp only); omega)
   ·
    have ab : (a3 != 0) = true := by simp [ha]
    have HX : Aside0 (res = (zN, 10)) := ⟨by rw [HRES.out]; unfold nodeTI; rw [if_pos HW.out, if_pos HIT.out.symm, ← SL.out, ← SR.out, AD.out, if_neg ha]⟩
    clear ha
    go_wp2
    refine bodyPost_ret (v := .tuple #[nodeV zN, .int .i64 10]) ?_ rfl ⟨by rw [HX.out], ?_⟩
    ·
     simp [results, Tryd.results22, go_sem, hu, y0, y1, y2]
    ·
     exact below_set (below_set (below_set HS7.out.hB (by (try dsimp only); omega)) (by (try dsimp only); omega)) (by (try dsimp only); omega)
  | false =>
   have q := Q.out
   rw [if_neg Bool.false_ne_true, if_neg Bool.false_ne_true] at q
   have Q1 := aM' q
   clear q Q
   go_wp2_with fail
   refine Q1.out.mono ?_
   rintro e V4 ⟨rfl, hb⟩
   have hS4 := HS3.out.below hb
   have h64 := blk_below H6.out hb
   have HS4 := aM' hS4
   have H64 := aM' h64
   clear hb hS4 h64 Q1 s0 s1 s2
   go_upto_region 5 with (fail)
   obtain ⟨W5, hW⟩ : ∃ X, X = (V4.alloc (.cells #[.string ⟨#[]⟩, .int .u64 0, .int .u64 0] 28)).alloc (.cells #[.string ⟨#[]⟩, .int .u64 0, .int .u64 0] 28) := ⟨_, rfl⟩
   rw [← hW]
   have hS5 : NdS w W5 lv pl t := by rw [hW]; exact HS4.out.below (below_alloc (below_alloc (Below.refl _ _) _) _)
   have h65 : W5.heap[g6]? = some (.cells (nodeA ⟨dgI wd t, ⟨0, 0⟩⟩) 28 (0, 0)) := by rw [hW]; exact blk_alloc (blk_alloc H64.out _) _
   have HS5 := aM' hS5
   have H65 := aM' h65
   obtain ⟨_, _, s2⟩ := hS5.step
   clear hW hS5 h65
   go_wp2_with fail
   refine (account.calls t W5 (HK.out.below HS5.out.hB) HT.out).mono ?_
   rintro e V6 ⟨⟨lf, rfl, hlf⟩, hb⟩
   have hS6 := HS5.out.below hb
   have h66 := blk_below H65.out hb
   have HS6 := aM' hS6
   have H66 := aM' h66
   obtain ⟨il, hil⟩ : ∃ b, b = isLeafT t := ⟨_, rfl⟩
   rw [← hil] at hlf ⊢
   have HLF := aM' hlf
   have HIL := aM' hil
   clear hb hS6 h66 s2 hlf hil
   go_upto_region 12 with (fail)
   obtain ⟨W7, hW⟩ : ∃ X, X = V6.alloc (.cells #[.bool lf.f0, .string lf.f1, .string lf.f2, .int .u64 lf.f3.f0, .int .u64 lf.f3.f1] 57) := ⟨_, rfl⟩
   rw [← hW]
   have hS7 : NdS w W7 lv pl t := by rw [hW]; exact HS6.out.below (below_alloc (Below.refl _ _) _)
   have h67 : W7.heap[g6]? = some (.cells (nodeA ⟨dgI wd t, ⟨0, 0⟩⟩) 28 (0, 0)) := by rw [hW]; exact blk_alloc H66.out _
   have hu7 : W7.heap[V6.heap.size]? = some (.cells (acC lf) 57 (0, 0)) := by rw [hW]; exact blk_new _ _
   have hg : g6 < V6.heap.size := blk_lt H66.out
   generalize V6.heap.size = g8 at hu7 hg ⊢
   have HS7 := aM' hS7
   have u0 : W7.cell? ⟨g8, 3, none⟩ = some (.int .u64 lf.f3.f0) := blk_cell hu7 3
   have u1 : W7.cell? ⟨g8, 4, none⟩ = some (.int .u64 lf.f3.f1) := blk_cell hu7 4
   obtain ⟨⟨y0, y1, y2⟩, yf⟩ := HS7.out.res
   have d0 : W7.cell? ⟨g6, 0, none⟩ = some (.string (dgI wd t)) := blk_cell h67 0
   have d1 : W7.cell? ⟨g6, 1, none⟩ = some (.int .u64 0) := blk_cell h67 1
   have d2 : W7.cell? ⟨g6, 2, none⟩ = some (.int .u64 0) := blk_cell h67 2
   have df : ∀ i, W7.frozen? ⟨g6, i, none⟩ = false := fun i => blk_frozen h67 i
   have hne : g6 ≠ w.heap.size + 1 := Nat.ne_of_gt G6.out
   have hne2 : w.heap.size + 1 ≠ g6 := Nat.ne_of_lt G6.out
   have HGE : Aside0 (w.heap.size ≤ g6) := ⟨by have := G6.out; omega⟩
   clear hW hS7 h67 hu7 hg
   cases il with
   | true =>
    have HX : Aside0 (res = (⟨dgI wd t, lf.f3⟩, 0)) := ⟨by
     obtain ⟨n, hn⟩ := HLF.out rfl
     rw [HRES.out]; unfold nodeTI; rw [if_pos HW.out, if_neg (by rw [← HIT.out]; decide), if_pos HIL.out.symm, hn]⟩
    go_wp2
    refine bodyPost_ret (v := .tuple #[nodeV ⟨dgI wd t, lf.f3⟩, .int .i64 0]) ?_ rfl ⟨by rw [HX.out], ?_⟩
    ·
     simp [results, Tryd.results22, go_sem, hu, y0, y1, y2]
    ·
     exact below_set (below_set (below_set (below_set (below_set HS7.out.hB HGE.out) HGE.out) (by (try dsimp only); omega)) (by (try dsimp only); omega)) (by (try dsimp only); omega)
   | false =>
    have HX : Aside0 (res = (zN, 130)) := ⟨by
     rw [HRES.out]; unfold nodeTI; rw [if_pos HW.out, if_neg (by rw [← HIT.out]; decide), if_neg (by rw [← HIL.out]; decide)]⟩
    go_wp2
    refine bodyPost_ret (v := .tuple #[nodeV zN, .int .i64 130]) ?_ rfl ⟨by rw [HX.out], ?_⟩
    ·
     simp [results, Tryd.results22, go_sem, hu, y0, y1, y2]
    ·
     exact below_set (below_set (below_set HS7.out.hB (by (try dsimp only); omega)) (by (try dsimp only); omega)) (by (try dsimp only); omega)
 ·
  have b1 : (decide (1 ≤ wd) && decide (wd ≤ 32)) = false := by
   by_cases h1 : 1 ≤ wd
   ·
    simp [h1]; omega
   ·
    simp [h1]
  rw [b1]
  have HX : Aside0 (res = (zN, 70)) := ⟨by rw [HRES.out]; unfold nodeTI; rw [if_neg hw]⟩
  obtain ⟨⟨y0, y1, y2⟩, yf⟩ := HS.out.res
  clear hw b1
  go_wp2
  refine bodyPost_ret (v := .tuple #[nodeV zN, .int .i64 70]) ?_ rfl ⟨by rw [HX.out], ?_⟩
  ·
   simp [results, Tryd.results22, go_sem, hu, y0, y1, y2]
  ·
   exact below_set (below_set (below_set HS.out.hB (by (try dsimp only); omega)) (by (try dsimp only); omega)) (by (try dsimp only); omega)
def trace_Node.f (a0 a1_0 a1_1 : Int) (a1_2 : ByteArray) : Option (ByteArray × Int × Int × Int) :=
 if a1_2.size ≤ 1000000 then some ((nodeTI a0 a1_2).1.f0, (nodeTI a0 a1_2).1.f1.f0, (nodeTI a0 a1_2).1.f1.f1, (nodeTI a0 a1_2).2) else none
theorem trace_Node.calls (a0 a1_0 a1_1 : Int) (a1_2 : ByteArray) (r1 : ByteArray) (r2 r3 r4 : Int) (w : World) (hK : LaidT w) (h : trace_Node.f a0 a1_0 a1_1 a1_2 = some (r1, r2, r3, r4)) :
  Calls Tryd.prog 22 #[.int .i64 a0, .agg #[.int .i64 a1_0, .int .u64 a1_1, .string a1_2]] w fun e w' => e = .returned (.tuple #[.agg #[.string r1, .int .u64 r2, .int .u64 r3], .int .i64 r4]) ∧ Below w.heap.size w w' := by
 unfold trace_Node.f at h
 split at h
 ·
  cases h
  exact tnode.calls a0 a1_0 a1_1 a1_2 w hK (by assumption)
 ·
  cases h
end Go.Proofs.YtijfifphcchbbaaDoor.P
namespace Go.Proofs.YtijfifphcchbbaaDoor.P
open Go.RowKit Go.Proofs.YtijfifphcchbbaaDoorW.PrintWords Go.Proofs.YtijfifphcchbbaaDoorW.PrintLast Go.Proofs.YtijfifphcchbbaaDoorW.PrintMore
set_option linter.unusedVariables false
set_option linter.unusedSimpArgs false
set_option linter.unnecessarySimpa false
theorem bt_ext (t : ByteArray) (a b i : Nat) (h : a + i < b) (hb : b ≤ t.size) : bt (t.extract a b) (i : Int) = bt t ((a + i : Nat) : Int) := by
 unfold bt
 rw [dif_pos (by rw [ByteArray.size_extract]; omega), dif_pos (by omega)]
 simp only [Int.toNat_natCast, ByteArray.getElem_extract]
theorem be_ext (t : ByteArray) (a b o : Nat) : ∀ n, a + o + n ≤ b → b ≤ t.size → beI (t.extract a b) o n = beI t (a + o) n
 | 0, _, _ => rfl
 | n + 1, h, hb => by
  unfold beI
  rw [be_ext t a b o n (by omega) hb, bt_ext t a b (o + n) (by omega) hb, Nat.add_assoc]
theorem ref18sum_at (t : ByteArray) (a b : Nat) (h : a + 16 ≤ b) (hb : b ≤ t.size) : Ev (fun k => paymasterref18_sum.f k (t.extract a b)) (beI t a 8, beI t (a + 8) 8) := by
 have := ref18sum_ev (t.extract a b) (by rw [ByteArray.size_extract]; omega)
 rw [be_ext t a b 0 8 (by omega) hb, be_ext t a b 8 8 (by omega) hb] at this
 exact this
theorem refSides_zero (w p q : Int) (t : ByteArray) : Ev (fun k => paymasterref18_Sides.j0 k w true p q t ⟨#[]⟩ 0 0) (⟨#[]⟩, 0, 0, ⟨#[]⟩, 0, 0, false) :=
 Ev.step (f := fun _ => some (⟨#[]⟩, 0, 0, ⟨#[]⟩, 0, 0, false)) (fun k => by simp [paymasterref18_Sides.j0]) (Ev.now _)
theorem refSides_two (n : Nat) (p q : Int) (t : ByteArray) (h1 : 1 ≤ n) (h2 : n ≤ 32) (hs : t.size = 33 + 2 * n) : Ev (fun k => paymasterref18_Sides.j0 k (n : Int) false p q t ⟨#[]⟩ 0 0)
  ((sideL n t).f0, (sideL n t).f1.f0, (sideL n t).f1.f1, (sideR n t).f0, (sideR n t).f1.f0, (sideR n t).f1.f1, true) := by
 have sT : (t.extract 1 t.size).size = 32 + 2 * n := by rw [ByteArray.size_extract]; omega
 have w16 : wrap64 ((n : Int) + 16) = ((n + 16 : Nat) : Int) := by rw [wrap64_id (by omega) (by omega)]; omega
 have e1 : (t.extract 1 t.size).extract n (n + 16) = t.extract (1 + n) (1 + n + 16) := by rw [ByteArray.extract_extract]; congr 1; omega
 have e2 : (t.extract 1 t.size).extract 0 n = t.extract 1 (1 + n) := by rw [ByteArray.extract_extract]; congr 1; omega
 have e5 : (t.extract 1 t.size).extract (n + 16) (t.extract 1 t.size).size = t.extract (1 + n + 16) t.size := by rw [sT, ByteArray.extract_extract]; congr 1; omega
 have e3 : (t.extract (1 + n + 16) t.size).extract 0 n = t.extract (1 + n + 16) (1 + n + 16 + n) := by rw [ByteArray.extract_extract]; congr 1; omega
 have e4 := rest_rest t (1 + n + 16) n (by omega)
 have s5 : (t.extract (1 + n + 16) t.size).size = 16 + n := by rw [ByteArray.size_extract]; omega
 refine Ev.step (f := fun k => (paymasterref18_sum.f k (t.extract (1 + n) (1 + n + 16))).bind fun bt107 => (paymasterref18_sum.f k (t.extract (1 + n + 16 + n) t.size)).bind fun bt110 => some (t.extract 1 (1 + n), bt107.1, bt107.2, t.extract (1 + n + 16) (1 + n + 16 + n), bt110.1, bt110.2, true)) (fun k => ?_) ?_
 ·
  simp only [paymasterref18_Sides.j0]
  rw [if_neg (by decide), if_pos (by omega), if_pos (by omega), if_pos (by omega), w16, if_pos (by omega), if_pos (by rw [sT]; omega)]
  have p1 : (0 : Int) ≤ ((n + 16 : Nat) : Int) := by omega
  have p2 : (n : Int) ≤ (((t.extract (1 + n + 16) t.size).size : Nat) : Int) := by rw [s5]; omega
  simp only [Int.toNat_natCast, e1, e2, e5, e3, e4, if_pos p1, if_pos p2]
 ·
  refine Ev.bind (ref18sum_at t (1 + n) (1 + n + 16) (by omega) (by omega)) ?_
  refine Ev.bind (ref18sum_at t (1 + n + 16 + n) t.size (by omega) (by omega)) ?_
  exact Ev.now _
theorem refSides_ev (w p q : Int) (t : ByteArray) (ht : t.size ≤ 400) : Ev (fun k => paymasterref18_Sides.f k w p q t)
  ((if isTwo w t = true then sideL w.toNat t else zN).f0, (if isTwo w t = true then sideL w.toNat t else zN).f1.f0, (if isTwo w t = true then sideL w.toNat t else zN).f1.f1, (if isTwo w t = true then sideR w.toNat t else zN).f0, (if isTwo w t = true then sideR w.toNat t else zN).f1.f0, (if isTwo w t = true then sideR w.toNat t else zN).f1.f1, isTwo w t) := by
 have hno : isTwo w t = false → Ev (fun k => paymasterref18_Sides.j0 k w true p q t ⟨#[]⟩ 0 0) ((if isTwo w t = true then sideL w.toNat t else zN).f0, (if isTwo w t = true then sideL w.toNat t else zN).f1.f0, (if isTwo w t = true then sideL w.toNat t else zN).f1.f1, (if isTwo w t = true then sideR w.toNat t else zN).f0, (if isTwo w t = true then sideR w.toNat t else zN).f1.f0, (if isTwo w t = true then sideR w.toNat t else zN).f1.f1, isTwo w t) := fun h => by
  rw [h, if_neg Bool.false_ne_true, if_neg Bool.false_ne_true]
  exact refSides_zero w p q t
 unfold paymasterref18_Sides.f
 by_cases h1 : w < 1
 ·
  exact Ev.congr (fun k => by rw [if_pos h1]) (hno (by unfold isTwo; exact decide_eq_false fun h => by omega))
 by_cases h2 : w > 32
 ·
  exact Ev.congr (fun k => by rw [if_neg h1, if_pos h2]) (hno (by unfold isTwo; exact decide_eq_false fun h => by omega))
 have hw : wrap64 (33 + wrap64 (2 * w)) = 33 + 2 * w := by rw [wrap64_id (x := 2 * w) (by omega) (by omega), wrap64_id (by omega) (by omega)]
 by_cases h3 : (t.size : Int) = 33 + 2 * w
 ·
  by_cases h4 : bt t 0 = 1
  ·
   obtain ⟨n, rfl⟩ := Int.eq_ofNat_of_zero_le (show 0 ≤ w by omega)
   have hi : isTwo (n : Int) t = true := by unfold isTwo; exact decide_eq_true ⟨by omega, h3, h4⟩
   refine Ev.congr (fun k => by rw [if_neg h1, if_neg h2, hw, if_pos h3, if_pos (by omega), h4]) ?_
   rw [hi, if_pos rfl, if_pos rfl, Int.toNat_natCast]
   exact refSides_two n p q t (by omega) (by omega) (by omega)
  ·
   refine Ev.congr (fun k => ?_) (hno (by unfold isTwo; exact decide_eq_false fun h => h4 h.2.2))
   rw [if_neg h1, if_neg h2, hw, if_pos h3, if_pos (by omega), show (bt t 0 != 1) = true by simp [h4]]
 ·
  exact Ev.congr (fun k => by rw [if_neg h1, if_neg h2, hw, if_neg h3]) (hno (by unfold isTwo; exact decide_eq_false fun h => h3 h.2.1))
end Go.Proofs.YtijfifphcchbbaaDoor.P
namespace Go.Proofs.YtijfifphcchbbaaDoor.P
open Go.RowKit Go.Proofs.YtijfifphcchbbaaDoorW.PrintWords Go.Proofs.YtijfifphcchbbaaDoorW.PrintLast Go.Proofs.YtijfifphcchbbaaDoorW.PrintMore
set_option linter.unusedVariables false
set_option linter.unusedSimpArgs false
set_option linter.unnecessarySimpa false
attribute [local go_sem] sel_true
def LfPost (w : World) (t : ByteArray) (e : Ending) (w' : World) : Prop :=
 (∃ r : SLeaf, e = .returned (.tuple #[.agg (acC r), .bool (isLeafT t)]) ∧ (isLeafT t = true → ∃ l n, leafEnd t = some (l, n) ∧ r.f3 = l.f3)) ∧ Below w.heap.size w w'
theorem LfPost.no {w w' : World} {t : ByteArray} {r : SLeaf} (h : isLeafT t = false) (hb : Below w.heap.size w w') : LfPost w t (.returned (.tuple #[.agg (acC r), .bool false])) w' := ⟨⟨r, by rw [h], fun h' => by rw [h] at h'; cases h'⟩, hb⟩
theorem byte_at (t : ByteArray) (a : Nat) (h : a < t.size) : ∀ g : 0 < (t.extract a t.size).size, (((t.extract a t.size)[0]'g).toNat : Int) = (nb t a : Int) := fun g => by
 rw [← bt_nb, ← bt_at t a (show (a : Int).toNat < t.size from h)]
 simp [ByteArray.getElem_extract]
theorem byte_first (t : ByteArray) : ∀ g : 0 < t.size, ((t[0]'g).toNat : Int) = (nb t 0 : Int) := fun g => by
 rw [← bt_nb]
 exact bt_at t ((0 : Nat) : Int) (show ((0 : Nat) : Int).toNat < t.size from g)
theorem nb_le (t : ByteArray) (o : Nat) : nb t o ≤ 255 := by have := bt_range t (o : Int); unfold nb; omega
theorem isLeaf_none {t : ByteArray} (h : leafEnd t = none) : isLeafT t = false := by unfold isLeafT; rw [h]
theorem leaf_short {t : ByteArray} (h : t.size < 2) : isLeafT t = false := isLeaf_none (by
 unfold leafEnd
 repeat' split
 all_goals first | rfl | omega)
theorem leaf_other {t : ByteArray} (h : nb t 0 ≠ 0) (h' : nb t 0 ≠ 2) : isLeafT t = false := isLeaf_none (by
 unfold leafEnd
 rw [if_neg h, if_neg h']
 split <;> rfl)
theorem leaf0_short1 {t : ByteArray} (h0 : nb t 0 = 0) (h : t.size < 2 + nb t 1 + 1) : isLeafT t = false := isLeaf_none (by
 unfold leafEnd
 rw [if_pos h0]
 repeat' split
 all_goals first | rfl | omega)
theorem leaf0_short2 {t : ByteArray} (h0 : nb t 0 = 0) (h : t.size < 2 + nb t 1 + 1 + nb t (2 + nb t 1)) : isLeafT t = false := isLeaf_none (by
 unfold leafEnd
 rw [if_pos h0]
 repeat' split
 all_goals first | rfl | omega)
theorem leaf0_ok {t : ByteArray} (h0 : nb t 0 = 0) (h : 2 + nb t 1 + 1 + nb t (2 + nb t 1) + 16 ≤ t.size) : leafEnd t = some (⟨false, t.extract 2 (2 + nb t 1), t.extract (2 + nb t 1 + 1) (2 + nb t 1 + 1 + nb t (2 + nb t 1)), ⟨beI t (2 + nb t 1 + 1 + nb t (2 + nb t 1)) 8, beI t (2 + nb t 1 + 1 + nb t (2 + nb t 1) + 8) 8⟩⟩, 2 + nb t 1 + 1 + nb t (2 + nb t 1) + 16) := by
 unfold leafEnd
 rw [if_neg (by omega), if_pos h0, if_neg (by omega), if_neg (by omega), if_neg (by omega), if_neg (by omega), if_neg (by omega)]
theorem leaf0_other {t : ByteArray} (h0 : nb t 0 = 0) (h : ¬ t.size = 2 + nb t 1 + 1 + nb t (2 + nb t 1) + 16) : isLeafT t = false := by
 by_cases h1 : 2 + nb t 1 + 1 + nb t (2 + nb t 1) + 16 ≤ t.size
 ·
  unfold isLeafT
  rw [leaf0_ok h0 h1]
  simp; intro h2; omega
 ·
  refine isLeaf_none ?_
  unfold leafEnd
  rw [if_pos h0]
  repeat' split
  all_goals first | rfl | omega
theorem leaf2_short {t : ByteArray} (h0 : nb t 0 = 2) (h : t.size < 2 + nb t 1) : isLeafT t = false := isLeaf_none (by
 unfold leafEnd
 rw [if_neg (show ¬ nb t 0 = 0 by omega), if_pos h0]
 repeat' split
 all_goals first | rfl | omega)
theorem leaf2_ok {t : ByteArray} (h0 : nb t 0 = 2) (h : 2 + nb t 1 ≤ t.size) : leafEnd t = some (⟨true, ⟨#[]⟩, t.extract 2 (2 + nb t 1), ⟨0, 0⟩⟩, 2 + nb t 1) := by
 unfold leafEnd
 rw [if_neg (by omega), if_neg (show ¬ nb t 0 = 0 by omega), if_pos h0, if_neg (by omega), if_neg (by omega)]
theorem LfPost.ok {w w' : World} {t : ByteArray} {lf : SLeaf} {n : Nat} (h : leafEnd t = some (lf, n)) (hn : n = t.size) (hb : Below w.heap.size w w') : LfPost w t (.returned (.tuple #[.agg (acC lf), .bool (mayLeafI lf)])) w' :=
 ⟨⟨lf, by rw [show isLeafT t = mayLeafI lf by unfold isLeafT; rw [h, hn]; simp], fun _ => ⟨lf, n, h, rfl⟩⟩, hb⟩
theorem leaf2_long {t : ByteArray} (h0 : nb t 0 = 2) (h : 2 + nb t 1 ≤ t.size) (h' : ¬ 2 + nb t 1 = t.size) : isLeafT t = false := by
 unfold isLeafT
 rw [leaf2_ok h0 h]
 simp [h']
structure RestT (t : ByteArray) (a : Nat) (R : ByteArray) (n : Nat) : Prop where
 e : R = t.extract a t.size
 sz : R.size = t.size - a
 nb : nb t a = n
 by0 : ∀ g : 0 < R.size, ((R[0]'g).toNat : Int) = (n : Int)
 le : n ≤ 255
theorem restT (t : ByteArray) (a : Nat) (h : a < t.size) : ∃ R n, t.extract a t.size = R ∧ RestT t a R n := ⟨_, _, rfl, rfl, rest_size t a (by omega), rfl, byte_at t a h, nb_le t a⟩
theorem cut_mid (R : ByteArray) (n : Nat) (h : n + 1 ≤ R.size) : ∀ wx : World, (Instr.slice 9 (.string R) (some (.int .i64 1)) (some (.int .i64 ((n : Int) + 1))) none).run Tryd.prog wx = .ok (.string (R.extract 1 (n + 1))) wx := fun wx => by
 rw [run_slice_string wx 9 R .i64 .i64 1 ((n : Int) + 1) Tryd.underlying9 (by omega) (by omega) (by omega), show ((n : Int) + 1).toNat = n + 1 by omega]
 rfl
theorem cut_end (R : ByteArray) (n : Nat) (h : n + 1 ≤ R.size) : ∀ wx : World, (Instr.slice 9 (.string R) (some (.int .i64 ((n : Int) + 1))) none none).run Tryd.prog wx = .ok (.string (R.extract (n + 1) R.size)) wx := fun wx => by
 rw [run_slice_string_from_if wx 9 R .i64 ((n : Int) + 1) Tryd.underlying9, if_pos (by omega), show ((n : Int) + 1).toNat = n + 1 by omega]
structure LfS (w W : World) (r l : SLeaf) : Prop where
 hB : Below w.heap.size w W
 hr : W.heap[w.heap.size]? = some (.cells (acC r) 57 (0, 0))
 hl : W.heap[w.heap.size + 1]? = some (.cells (acC l) 57 (0, 0))
theorem LfS.below {w W W' : World} {r l : SLeaf} (h : LfS w W r l) (hb : Below W.heap.size W W') : LfS w W' r l := ⟨h.hB.trans (hb.mono h.hB.size), blk_below h.hr hb, blk_below h.hl hb⟩
theorem LfS.start (w : World) (l : SLeaf) : LfS w ((w.alloc (.cells (acC zL0) 57)).alloc (.cells (acC l) 57)) zL0 l :=
 ⟨below_alloc (below_alloc (Below.refl _ _) _) _, blk_alloc (blk_new w _) _, by have := blk_new (w.alloc (.cells (acC zL0) 57)) (.cells (acC l) 57); rwa [World.size_alloc] at this⟩
theorem LfS.sum {w W : World} {r l : SLeaf} (h : LfS w W r l) (a b : Int) : LfS w ((W.setCell ⟨w.heap.size + 1, 3, none⟩ (.int .u64 a)).setCell ⟨w.heap.size + 1, 4, none⟩ (.int .u64 b)) r ⟨l.f0, l.f1, l.f2, ⟨a, b⟩⟩ :=
 ⟨below_set (below_set h.hB (by (try dsimp only); omega)) (by (try dsimp only); omega), blk_far (blk_far h.hr (by (try dsimp only); omega) _) (by (try dsimp only); omega) _,
  blk_put (cs' := acC ⟨l.f0, l.f1, l.f2, ⟨a, b⟩⟩) (blk_put (cs' := acC ⟨l.f0, l.f1, l.f2, ⟨a, l.f3.f1⟩⟩) h.hl 3 (.int .u64 a) rfl) 4 (.int .u64 b) rfl⟩
theorem LfS.put {w W : World} {r l : SLeaf} (h : LfS w W r l) (x : SLeaf) : LfS w (((((W.setCell ⟨w.heap.size, 0, none⟩ (.bool x.f0)).setCell ⟨w.heap.size, 1, none⟩ (.string x.f1)).setCell ⟨w.heap.size, 2, none⟩ (.string x.f2)).setCell ⟨w.heap.size, 3, none⟩ (.int .u64 x.f3.f0)).setCell ⟨w.heap.size, 4, none⟩ (.int .u64 x.f3.f1)) x l := by
 have h1 := blk_put (cs' := acC ⟨x.f0, r.f1, r.f2, r.f3⟩) h.hr 0 (.bool x.f0) rfl
 have h2 := blk_put (cs' := acC ⟨x.f0, x.f1, r.f2, r.f3⟩) h1 1 (.string x.f1) rfl
 have h3 := blk_put (cs' := acC ⟨x.f0, x.f1, x.f2, r.f3⟩) h2 2 (.string x.f2) rfl
 have h4 := blk_put (cs' := acC ⟨x.f0, x.f1, x.f2, ⟨x.f3.f0, r.f3.f1⟩⟩) h3 3 (.int .u64 x.f3.f0) rfl
 have h5 := blk_put (cs' := acC x) h4 4 (.int .u64 x.f3.f1) rfl
 exact ⟨below_set (below_set (below_set (below_set (below_set h.hB (Nat.le_refl _)) (Nat.le_refl _)) (Nat.le_refl _)) (Nat.le_refl _)) (Nat.le_refl _), h5, blk_far (blk_far (blk_far (blk_far (blk_far h.hl (by (try dsimp only); omega) _) (by (try dsimp only); omega) _) (by (try dsimp only); omega) _) (by (try dsimp only); omega) _) (by (try dsimp only); omega) _⟩
set_option maxRecDepth 100000 in
set_option maxHeartbeats 4000000 in
theorem refLeaf.calls (t : ByteArray) (w : World) (h4 : t.size ≤ 400) :
  Calls Tryd.prog 69 #[.string t] w (LfPost w t) := by
 have hu := Tryd.underlying57
 have H4 := aM' h4
 by_cases hs : t.size < 2
 ·
  have HNO := aM' (leaf_short hs)
  have b0 : decide ((t.size : Int) < 2) = true := decide_eq_true (by omega)
  clear hs h4
  go_enter Tryd.func69, Tryd.ntmps69
  go_wp2
  refine bodyPost_ret (v := .tuple #[.agg (acC zL0), .bool false]) ?_ rfl (LfPost.no HNO.out ?_)
  ·
   simp [results, Tryd.results69, go_sem, hu]
  ·
   (repeat (with_reducible first | exact Below.refl _ _ | apply below_alloc | refine below_set ?_ (by (try dsimp only); omega)))
 ·
  have hv := byte_first t
  have b0 : decide ((t.size : Int) < 2) = false := decide_eq_false (by omega)
  have b1 : decide (t.size < 1) = false := decide_eq_false (by omega)
  have g0 : 0 < t.size := by omega
  obtain ⟨n0, hn0⟩ : ∃ n, nb t 0 = n := ⟨_, rfl⟩
  rw [hn0] at hv
  have HN0 := aM' hn0
  obtain ⟨R1, n1, hR1, r1⟩ := restT t 1 (by omega)
  have HR1 := aM' r1
  clear hn0
  by_cases hz : n0 = 0
  ·
   subst hz
   have hv0 : ∀ g : 0 < t.size, ((t[0]'g).toNat : Int) = 0 := hv
   have hv1 := r1.by0
   have g1 : 0 < R1.size := by have := r1.sz; omega
   have w1 : wrap64 (n1 : Int) = (n1 : Int) := wrap64_id (by omega) (by have := r1.le; omega)
   have w2 : wrap64 ((n1 : Int) + 2) = (n1 : Int) + 2 := wrap64_id (by omega) (by have := r1.le; omega)
   have w3 : wrap64 ((n1 : Int) + 1) = (n1 : Int) + 1 := wrap64_id (by omega) (by have := r1.le; omega)
   by_cases h3 : t.size < 2 + n1 + 1
   ·
    have b2 : decide ((R1.size : Int) < (n1 : Int) + 2) = true := decide_eq_true (by have := r1.sz; omega)
    have H3 := aM' h3
    clear hv hs h3 r1 h4
    go_enter Tryd.func69, Tryd.ntmps69
    go_wp2
    refine bodyPost_ret (v := .tuple #[.agg (acC zL0), .bool false]) ?_ rfl (LfPost.no ?_ ?_)
    ·
     simp [results, Tryd.results69, go_sem, hu]
    ·
     exact leaf0_short1 HN0.out (by rw [HR1.out.nb]; exact H3.out)
    ·
     (repeat (with_reducible first | exact Below.refl _ _ | apply below_alloc | refine below_set ?_ (by (try dsimp only); omega)))
   ·
    have b2 : decide ((R1.size : Int) < (n1 : Int) + 2) = false := decide_eq_false (by have := r1.sz; omega)
    obtain ⟨R2, n2, hR2, r2⟩ := restT t (2 + n1) (by omega)
    have e2 : R1.extract (n1 + 1) R1.size = R2 := by rw [r1.e, rest_rest t 1 _ (by omega), ← hR2]; congr 1; omega
    have g2 : 0 < R2.size := by have := r2.sz; omega
    have hv2 := r2.by0
    have v1 : wrap64 (n2 : Int) = (n2 : Int) := wrap64_id (by omega) (by have := r2.le; omega)
    have v3 : wrap64 ((n2 : Int) + 1) = (n2 : Int) + 1 := wrap64_id (by omega) (by have := r2.le; omega)
    have q1 : decide (R1.size < n1 + 1) = false := decide_eq_false (by have := r1.sz; omega)
    have HR2 := aM' r2
    have c1 := cut_mid R1 n1 (by have := r1.sz; omega)
    have c2 := cut_end R1 n1 (by have := r1.sz; omega)
    rw [e2] at c2
    have c3 := fun h => cut_mid R2 n2 h
    have c4 := fun h => cut_end R2 n2 h
    have C3 := aM' c3
    have C4 := aM' c4
    clear c3 c4 e2
    have hn1 : nb t 1 = n1 := r1.nb
    have hn2 : nb t (2 + nb t 1) = n2 := by rw [hn1]; exact r2.nb
    have HN1 := aM' hn1
    have HN2 := aM' hn2
    have H3 := aM' h3
    by_cases h5 : t.size < 2 + n1 + 1 + n2
    ·
     have b3 : decide ((R2.size : Int) < (n2 : Int) + 1) = true := decide_eq_true (by have := r2.sz; omega)
     have HNO := aM' (leaf0_short2 HN0.out (by rw [hn1, r2.nb]; exact h5))
     clear hv hs h3 r1 h4 r2 h5 hR2 hn1 hn2
     go_enter Tryd.func69, Tryd.ntmps69
     go_wp2
     refine bodyPost_ret (v := .tuple #[.agg (acC zL0), .bool false]) ?_ rfl (LfPost.no HNO.out ?_)
     ·
      simp [results, Tryd.results69, go_sem, hu]
     ·
      (repeat (with_reducible first | exact Below.refl _ _ | apply below_alloc | refine below_set ?_ (by (try dsimp only); omega)))
    ·
     have b3 : decide ((R2.size : Int) < (n2 : Int) + 1) = false := decide_eq_false (by have := r2.sz; omega)
     obtain ⟨R3, hR3⟩ : ∃ R, t.extract (2 + n1 + 1 + n2) t.size = R := ⟨_, rfl⟩
     have hs3 : R3.size = t.size - (2 + n1 + 1 + n2) := by rw [← hR3]; exact rest_size t _ (by omega)
     have c3 := C3.out (by have := r2.sz; omega)
     have c4 := C4.out (by have := r2.sz; omega)
     have e3 : R2.extract (n2 + 1) R2.size = R3 := by rw [r2.e, rest_rest t _ _ (by omega), ← hR3]; congr 1; omega
     rw [e3] at c4
     have e4 : R1.extract 1 (n1 + 1) = t.extract 2 (2 + n1) := by rw [r1.e, ByteArray.extract_extract]; congr 1 <;> omega
     have e5 : R2.extract 1 (n2 + 1) = t.extract (2 + n1 + 1) (2 + n1 + 1 + n2) := by rw [r2.e, ByteArray.extract_extract]; congr 1 <;> omega
     rw [e4] at c1
     rw [e5] at c3
     generalize hid : t.extract 2 (2 + n1) = idT at c1 e4
     generalize hsa : t.extract (2 + n1 + 1) (2 + n1 + 1 + n2) = saT at c3 e5
     have HID := aM' hid
     have HSA := aM' hsa
     have HR3 := aM' hR3
     have HS3 := aM' hs3
     have H5 := aM' h5
     clear e3 e4 e5 hid hsa hR3 C3 C4
     by_cases h6 : t.size = 2 + n1 + 1 + n2 + 16
     ·
      have b4 : ((R3.size : Int) == 16) = true := by rw [hs3]; simp; omega
      have h16 : R3.size = 16 := by rw [hs3]; omega
      obtain ⟨ks, hks⟩ := (ref18sum_ev R3 (by omega)).rounds
      have f1 : beI R3 0 8 = beI t (2 + n1 + 1 + n2) 8 := by rw [← HR3.out, rest_be t _ 0 8 (by omega), Nat.add_zero]
      have f2 : beI R3 8 8 = beI t (2 + n1 + 1 + n2 + 8) 8 := by rw [← HR3.out, rest_be t _ 8 8 (by omega)]
      rw [f1, f2] at hks
      have HLE := aM' (leaf0_ok HN0.out (show 2 + nb t 1 + 1 + nb t (2 + nb t 1) + 16 ≤ t.size by rw [hn2, hn1]; omega))
      have hle := HLE.out
      rw [hn2, hn1, HID.out, HSA.out] at hle
      generalize hs1 : beI t (2 + n1 + 1 + n2) 8 = s1 at hks hle
      generalize hs2 : beI t (2 + n1 + 1 + n2 + 8) 8 = s2 at hks hle
      have HLE := aM' hle
      have H6 := aM' h6
      have KS := aM' hks
      obtain ⟨kl, hkl⟩ := refMayLeaf_ev ⟨false, idT, saT, ⟨s1, s2⟩⟩ (show idT.size ≤ _ by rw [← HID.out, ByteArray.size_extract]; omega)
      have HM := aM' (hkl kl (Nat.le_refl _))
      clear hv hs h3 r1 h4 r2 h5 hR2 hn1 hn2 hs3 f1 f2 hks hle hs1 hs2 h6 hkl h16
      go_enter Tryd.func69, Tryd.ntmps69
      go_wp2_with fail
      refine (paymasterref18_sum.calls ks _ _ _ _ KS.out).mono ?_
      rintro e w3 ⟨rfl, hb⟩
      have hS := LfS.below (LfS.start w ⟨false, idT, saT, ⟨0, 0⟩⟩) hb
      have HS3 := aM' hS
      have l0 := blk_cell hS.hl 0
      have l1 := blk_cell hS.hl 1
      have l2 := blk_cell hS.hl 2
      have l3 := blk_cell hS.hl 3
      have l4 := blk_cell hS.hl 4
      simp at l0 l1 l2 l3 l4
      have lfz : ∀ i, w3.frozen? ⟨w.heap.size + 1, i, none⟩ = false := fun i => blk_frozen hS.hl i
      clear hb hS
      go_upto_region 21 with (fail)
      have hS4 := HS3.out.sum s1 s2
      obtain ⟨W4, hW4⟩ : ∃ V, V = (w3.setCell ⟨w.heap.size + 1, 3, none⟩ (.int .u64 s1)).setCell ⟨w.heap.size + 1, 4, none⟩ (.int .u64 s2) := ⟨_, rfl⟩
      rw [← hW4] at hS4 ⊢
      clear hW4 l0 l1 l2 l3 l4 lfz
      refine region_inv (fun l a W => a = ({ tmps := #[.string t, undef, .pointer (some ⟨w.heap.size, 0, none⟩), sel (l 8) (.bool (mayLeafI ⟨false, idT, saT, ⟨s1, s2⟩⟩)) (.bool false), .pointer (some ⟨w.heap.size + 1, 0, none⟩), .string ⟨#[]⟩, .int .i64 (n1 : Int), .int .i64 (n2 : Int), .string t, .int .i64 (t.size : Int), .bool false, .bool false, .string t, .int .u8 0, .bool false, .bool false, undef, undef, undef, .bool false, .bool false, undef, .string t, .int .u8 0, .bool false, .agg #[.bool false, .string ⟨#[]⟩, .string ⟨#[]⟩, .int .u64 0, .int .u64 0], .string t, .string R1, .pointer (some ⟨w.heap.size + 1, 0, none⟩), .bool false, .bool true, .string R1, .int .u8 (n1 : Int), .int .i64 (n1 : Int), .string R1, .int .i64 (R1.size : Int), .int .i64 (n1 : Int), .int .i64 ((n1 : Int) + 2), .bool false, undef, .string R1, .int .i64 (n1 : Int), .int .i64 ((n1 : Int) + 1), .string idT, .pointer (some ⟨w.heap.size + 1, 1, none⟩), .string R1, .int .i64 (n1 : Int), .int .i64 ((n1 : Int) + 1), .string R2, .string R2, .int .u8 (n2 : Int), .int .i64 (n2 : Int), .string R2, .int .i64 (R2.size : Int), .int .i64 (n2 : Int), .int .i64 ((n2 : Int) + 1), .bool false, undef, .string R2, .int .i64 (n2 : Int), .int .i64 ((n2 : Int) + 1), .string saT, .pointer (some ⟨w.heap.size + 1, 2, none⟩), .string R2, .int .i64 (n2 : Int), .int .i64 ((n2 : Int) + 1), .string R3, .pointer (some ⟨w.heap.size + 1, 0, none⟩), .bool false, .bool true, .bool true, .string R3, .int .i64 (R3.size : Int), .bool true, .bool true, .string R3, .agg #[.int .u64 s1, .int .u64 s2], .pointer (some ⟨w.heap.size + 1, 3, none⟩), undef, undef, undef, undef, sel (l 0) (.agg #[.bool false, .string idT, .string saT, .int .u64 s1, .int .u64 s2]) (undef), sel (l 1) (.string ⟨#[]⟩) (undef), sel (l 2) (.bool true) (undef), sel (l 3) (.bool true) (undef), sel (l 4) (.agg #[.bool false, .string idT, .string saT, .int .u64 s1, .int .u64 s2]) (undef), sel (l 5) (.bool (mayLeafI ⟨false, idT, saT, ⟨s1, s2⟩⟩)) (undef), sel (l 6) (.bool (mayLeafI ⟨false, idT, saT, ⟨s1, s2⟩⟩)) (undef)], defers := [] } : Act) ∧ (LfS w W (if l 7 = true then ⟨false, idT, saT, ⟨s1, s2⟩⟩ else zL0) ⟨false, idT, saT, ⟨s1, s2⟩⟩)) 9 rfl rfl (by kernel_rfl) ?h0 ?hend ?hstep
      case h0 => exact ⟨rfl, hS4.below (below_drew (Below.refl _ _))⟩
      case hstep =>
       refine rg_cons (rg_cons (rg_cons (rg_cons (rg_cons (rg_cons (rg_cons (rg_cons (rg_cons (rg_nil) ?s0) ?s1) ?s2) ?s3) ?s4) ?s5) ?s6) ?s7) ?s8
       case s0 =>
        refine rg_step rfl ?_
        rintro l a W ⟨rfl, hI⟩ hl hd
        clear hd
        have x0 := blk_cell hI.hl 0
        have x1 := blk_cell hI.hl 1
        have x2 := blk_cell hI.hl 2
        have x3 := blk_cell hI.hl 3
        have x4 := blk_cell hI.hl 4
        simp at x0 x1 x2 x3 x4
        refine rg_val (v := .agg #[.bool false, .string idT, .string saT, .int .u64 s1, .int .u64 s2]) (w' := W) rfl (by go_simp) ?_
        refine ⟨?_, ?_⟩
        ·
         simp only [Act.put, List.setIfInBounds_toArray, List.set_cons_zero, List.set_cons_succ]; rfl
        ·
         exact hI
       case s1 =>
        refine rg_step rfl ?_
        rintro l a W ⟨rfl, hI⟩ hl hd
        clear hd
        refine rg_val (v := .string ⟨#[]⟩) (w' := W) rfl (by go_simp) ?_
        refine ⟨?_, ?_⟩
        ·
         simp only [Act.put, List.setIfInBounds_toArray, List.set_cons_zero, List.set_cons_succ]; rfl
        ·
         exact hI
       case s2 =>
        refine rg_step rfl ?_
        rintro l a W ⟨rfl, hI⟩ hl hd
        have d1 := hd 1 (by decide)
        clear hd
        refine rg_val (v := .bool true) (w' := W) rfl (by go_simp) ?_
        refine ⟨?_, ?_⟩
        ·
         simp only [Act.put, List.setIfInBounds_toArray, List.set_cons_zero, List.set_cons_succ]; rfl
        ·
         exact hI
       case s3 =>
        refine rg_step rfl ?_
        rintro l a W ⟨rfl, hI⟩ hl hd
        have d2 := hd 2 (by decide)
        clear hd
        refine rg_val (v := .bool true) (w' := W) rfl (by go_simp) ?_
        refine ⟨?_, ?_⟩
        ·
         simp only [Act.put, List.setIfInBounds_toArray, List.set_cons_zero, List.set_cons_succ]; rfl
        ·
         exact hI
       case s4 =>
        refine rg_step rfl ?_
        rintro l a W ⟨rfl, hI⟩ hl hd
        have d3 := hd 3 (by decide)
        clear hd
        have x0 := blk_cell hI.hl 0
        have x1 := blk_cell hI.hl 1
        have x2 := blk_cell hI.hl 2
        have x3 := blk_cell hI.hl 3
        have x4 := blk_cell hI.hl 4
        simp at x0 x1 x2 x3 x4
        refine rg_val (v := .agg #[.bool false, .string idT, .string saT, .int .u64 s1, .int .u64 s2]) (w' := W) (by simp only [d3, sel_true]; rfl) (by go_simp) ?_
        refine ⟨?_, ?_⟩
        ·
         simp only [Act.put, List.setIfInBounds_toArray, List.set_cons_zero, List.set_cons_succ]; rfl
        ·
         exact hI
       case s5 =>
        refine rg_step rfl ?_
        rintro l a W ⟨rfl, hI⟩ hl hd
        have d3 := hd 3 (by decide)
        have d4 := hd 4 (by decide)
        clear hd
        refine rg_call (by simp only [d3, sel_true]; rfl) (by go_simp; exact ⟨rfl, rfl⟩) ?_
        refine (paymasterref07_MayLeaf.calls kl _ _ _ _ _ (mayLeafI ⟨false, idT, saT, ⟨s1, s2⟩⟩) W HM.out).mono ?_
        rintro x W' ⟨rfl, hb⟩
        refine ⟨_, rfl, ?_, ?_⟩
        ·
         simp only [Act.put, List.setIfInBounds_toArray, List.set_cons_zero, List.set_cons_succ]; rfl
        ·
         exact hI.below hb
       case s6 =>
        refine rg_step rfl ?_
        rintro l a W ⟨rfl, hI⟩ hl hd
        have d3 := hd 3 (by decide)
        have d5 := hd 5 (by decide)
        clear hd
        refine rg_val (v := .bool (mayLeafI ⟨false, idT, saT, ⟨s1, s2⟩⟩)) (w' := W) rfl (by go_simp) ?_
        refine ⟨?_, ?_⟩
        ·
         simp only [Act.put, List.setIfInBounds_toArray, List.set_cons_zero, List.set_cons_succ]; rfl
        ·
         exact hI
       case s7 =>
        refine rg_step rfl ?_
        rintro l a W ⟨rfl, hI⟩ hl hd
        have d0 := hd 0 (by decide)
        clear hd
        have hg := hI.hr
        rw [show l 7 = false from hl, if_neg (by decide)] at hg
        have y0 := blk_cell hg 0
        have y1 := blk_cell hg 1
        have y2 := blk_cell hg 2
        have y3 := blk_cell hg 3
        have y4 := blk_cell hg 4
        have yf := fun i => blk_frozen hg i
        simp at y0 y1 y2 y3 y4
        refine rg_skip rfl (by go_simp; rfl) ?_
        refine ⟨?_, ?_⟩
        ·
         simp only [Act.put, List.setIfInBounds_toArray, List.set_cons_zero, List.set_cons_succ]; rfl
        ·
         exact (show LfS w W zL0 ⟨false, idT, saT, ⟨s1, s2⟩⟩ from ⟨hI.hB, hg, hI.hl⟩).put ⟨false, idT, saT, ⟨s1, s2⟩⟩
       case s8 =>
        refine rg_step rfl ?_
        rintro l a W ⟨rfl, hI⟩ hl hd
        have d6 := hd 6 (by decide)
        clear hd
        refine rg_val (v := .bool (mayLeafI ⟨false, idT, saT, ⟨s1, s2⟩⟩)) (w' := W) rfl (by go_simp) ?_
        refine ⟨?_, ?_⟩
        ·
         simp only [Act.put, List.setIfInBounds_toArray, List.set_cons_zero, List.set_cons_succ]; rfl
        ·
         exact hI
      case hend =>
       rintro l a W ⟨rfl, hI⟩ hall
       have e0 := hall 0 (by decide)
       have e1 := hall 1 (by decide)
       have e2 := hall 2 (by decide)
       have e3 := hall 3 (by decide)
       have e4 := hall 4 (by decide)
       have e5 := hall 5 (by decide)
       have e6 := hall 6 (by decide)
       have e7 := hall 7 (by decide)
       have e8 := hall 8 (by decide)
       clear hall
       rw [if_pos e7] at hI
       simp only [e0, e1, e2, e3, e4, e5, e6, e7, e8, sel_true]
       clear e0 e1 e2 e3 e4 e5 e6 e7 e8
       have x0 := blk_cell hI.hr 0
       have x1 := blk_cell hI.hr 1
       have x2 := blk_cell hI.hr 2
       have x3 := blk_cell hI.hr 3
       have x4 := blk_cell hI.hr 4
       simp at x0 x1 x2 x3 x4
       have HB := aM' hI.hB
       clear hI
       go_wp2
       refine bodyPost_ret (v := .tuple #[.agg (acC ⟨false, idT, saT, ⟨s1, s2⟩⟩), .bool (mayLeafI ⟨false, idT, saT, ⟨s1, s2⟩⟩)]) ?_ rfl (LfPost.ok HLE.out (by have := H6.out; omega) HB.out)
       simp [results, Tryd.results69, go_sem, hu, x0, x1, x2, x3, x4]
     ·
      have b4 : ((R3.size : Int) == 16) = false := by rw [hs3]; simp; omega
      have HNO := aM' (leaf0_other HN0.out (by rw [hn2, hn1]; exact h6))
      clear hv hs h3 r1 h4 r2 h5 hR2 hn1 hn2 hs3 h6
      go_enter Tryd.func69, Tryd.ntmps69
      go_wp2
      refine bodyPost_ret (v := .tuple #[.agg (acC zL0), .bool false]) ?_ rfl (LfPost.no HNO.out ?_)
      ·
       simp [results, Tryd.results69, go_sem, hu]
      ·
       (repeat (with_reducible first | exact Below.refl _ _ | apply below_alloc | refine below_set ?_ (by (try dsimp only); omega)))
  ·
   by_cases hz2 : n0 = 2
   ·
    subst hz2
    have hv0 : ∀ g : 0 < t.size, ((t[0]'g).toNat : Int) = 2 := hv
    have hv1 := r1.by0
    have g1 : 0 < R1.size := by have := r1.sz; omega
    have w1 : wrap64 (n1 : Int) = (n1 : Int) := wrap64_id (by omega) (by have := r1.le; omega)
    have w3 : wrap64 ((n1 : Int) + 1) = (n1 : Int) + 1 := wrap64_id (by omega) (by have := r1.le; omega)
    have hn1 : nb t 1 = n1 := r1.nb
    by_cases h3 : t.size < 2 + n1
    ·
     have b2 : decide ((R1.size : Int) < (n1 : Int) + 1) = true := decide_eq_true (by have := r1.sz; omega)
     have HNO := aM' (leaf2_short HN0.out (by rw [hn1]; exact h3))
     clear hv hs h3 r1 h4 hn1 hz
     go_enter Tryd.func69, Tryd.ntmps69
     go_wp2
     refine bodyPost_ret (v := .tuple #[.agg (acC zL0), .bool false]) ?_ rfl (LfPost.no HNO.out ?_)
     ·
      simp [results, Tryd.results69, go_sem, hu]
     ·
      (repeat (with_reducible first | exact Below.refl _ _ | apply below_alloc | refine below_set ?_ (by (try dsimp only); omega)))
    ·
     have b2 : decide ((R1.size : Int) < (n1 : Int) + 1) = false := decide_eq_false (by have := r1.sz; omega)
     have c1 := cut_mid R1 n1 (by have := r1.sz; omega)
     have c2 := cut_end R1 n1 (by have := r1.sz; omega)
     obtain ⟨R3, hR3⟩ : ∃ R, t.extract (2 + n1) t.size = R := ⟨_, rfl⟩
     have e2 : R1.extract (n1 + 1) R1.size = R3 := by rw [r1.e, rest_rest t 1 _ (by omega), ← hR3]; congr 1; omega
     rw [e2] at c2
     have e4 : R1.extract 1 (n1 + 1) = t.extract 2 (2 + n1) := by rw [r1.e, ByteArray.extract_extract]; congr 1 <;> omega
     rw [e4] at c1
     have hs3 : R3.size = t.size - (2 + n1) := by rw [← hR3]; exact rest_size t _ (by omega)
     have hle := leaf2_ok HN0.out (show 2 + nb t 1 ≤ t.size by rw [hn1]; omega)
     rw [hn1] at hle
     generalize t.extract 2 (2 + n1) = saT at c1 e4 hle
     have HLE := aM' hle
     by_cases h6 : 2 + n1 = t.size
     ·
      have b5 : R3.toList = [] := by
       have h3 : R3 = ⟨#[]⟩ := ByteArray.ext (by have : R3.data.size = 0 := (show R3.size = 0 by omega); exact Array.eq_empty_of_size_eq_zero this)
       rw [h3]; decide +kernel
      have b6 : R3.toList.isEmpty = true := by rw [b5]; rfl
      have H6 := aM' h6
      obtain ⟨kl, hkl⟩ := refMayLeaf_ev ⟨true, ⟨#[]⟩, saT, ⟨0, 0⟩⟩ (Nat.zero_le _)
      have HM := aM' (hkl kl (Nat.le_refl _))
      clear hv hs h3 r1 h4 hn1 hz hle hkl h6 hs3 e2 e4 hR3
      go_enter Tryd.func69, Tryd.ntmps69
      go_upto_region 21 with (fail)
      have hS4 := LfS.start w ⟨true, ⟨#[]⟩, saT, ⟨0, 0⟩⟩
      obtain ⟨W4, hW4⟩ : ∃ V, V = ((w.alloc (.cells (acC zL0) 57)).alloc (.cells (acC ⟨true, ⟨#[]⟩, saT, ⟨0, 0⟩⟩) 57)) := ⟨_, rfl⟩
      rw [← hW4] at hS4 ⊢
      clear hW4
      refine region_inv (fun l a W => a = ({ tmps := #[.string t, undef, .pointer (some ⟨w.heap.size, 0, none⟩), sel (l 8) (.bool (mayLeafI ⟨true, ⟨#[]⟩, saT, ⟨0, 0⟩⟩)) (.bool false), .pointer (some ⟨w.heap.size + 1, 0, none⟩), .string R3, undef, .int .i64 (wrap64 (n1 : Int)), .string t, .int .i64 (t.size : Int), .bool false, .bool false, .string t, .int .u8 2, .bool true, .bool true, .string t, .int .u8 2, .bool false, .bool false, .bool false, undef, .string t, .int .u8 2, .bool true, .agg #[.bool true, .string ⟨#[]⟩, .string ⟨#[]⟩, .int .u64 0, .int .u64 0], .string t, .string R1, .pointer (some ⟨w.heap.size + 1, 0, none⟩), .bool true, .bool false, undef, undef, undef, undef, undef, undef, undef, undef, undef, undef, undef, undef, undef, undef, undef, undef, undef, undef, .string R1, .int .u8 (n1 : Int), .int .i64 (wrap64 (n1 : Int)), .string R1, .int .i64 (R1.size : Int), .int .i64 (wrap64 (n1 : Int)), .int .i64 (wrap64 ((n1 : Int) + 1)), .bool false, undef, .string R1, .int .i64 (wrap64 (n1 : Int)), .int .i64 (wrap64 ((n1 : Int) + 1)), .string saT, .pointer (some ⟨w.heap.size + 1, 2, none⟩), .string R1, .int .i64 (wrap64 (n1 : Int)), .int .i64 (wrap64 ((n1 : Int) + 1)), .string R3, .pointer (some ⟨w.heap.size + 1, 0, none⟩), .bool true, .bool false, .bool false, undef, undef, undef, .bool false, undef, undef, undef, .pointer (some ⟨w.heap.size + 1, 0, none⟩), .bool true, .bool false, undef, sel (l 0) (.agg #[.bool true, .string ⟨#[]⟩, .string saT, .int .u64 0, .int .u64 0]) (undef), sel (l 1) (.string R3) (undef), sel (l 2) (.bool true) (undef), sel (l 3) (.bool true) (undef), sel (l 4) (.agg #[.bool true, .string ⟨#[]⟩, .string saT, .int .u64 0, .int .u64 0]) (undef), sel (l 5) (.bool (mayLeafI ⟨true, ⟨#[]⟩, saT, ⟨0, 0⟩⟩)) (undef), sel (l 6) (.bool (mayLeafI ⟨true, ⟨#[]⟩, saT, ⟨0, 0⟩⟩)) (undef)], defers := [] } : Act) ∧ (LfS w W (if l 7 = true then ⟨true, ⟨#[]⟩, saT, ⟨0, 0⟩⟩ else zL0) ⟨true, ⟨#[]⟩, saT, ⟨0, 0⟩⟩)) 9 rfl rfl (by kernel_rfl) ?h0 ?hend ?hstep
      case h0 => exact ⟨rfl, hS4.below (below_drew (Below.refl _ _))⟩
      case hstep =>
       refine rg_cons (rg_cons (rg_cons (rg_cons (rg_cons (rg_cons (rg_cons (rg_cons (rg_cons (rg_nil) ?s0) ?s1) ?s2) ?s3) ?s4) ?s5) ?s6) ?s7) ?s8
       case s0 =>
        refine rg_step rfl ?_
        rintro l a W ⟨rfl, hI⟩ hl hd
        clear hd
        have x0 := blk_cell hI.hl 0
        have x1 := blk_cell hI.hl 1
        have x2 := blk_cell hI.hl 2
        have x3 := blk_cell hI.hl 3
        have x4 := blk_cell hI.hl 4
        simp at x0 x1 x2 x3 x4
        refine rg_val (v := .agg #[.bool true, .string ⟨#[]⟩, .string saT, .int .u64 0, .int .u64 0]) (w' := W) rfl (by go_simp) ?_
        refine ⟨?_, ?_⟩
        ·
         simp only [Act.put, List.setIfInBounds_toArray, List.set_cons_zero, List.set_cons_succ]; rfl
        ·
         exact hI
       case s1 =>
        refine rg_step rfl ?_
        rintro l a W ⟨rfl, hI⟩ hl hd
        clear hd
        refine rg_val (v := .string R3) (w' := W) rfl (by go_simp) ?_
        refine ⟨?_, ?_⟩
        ·
         simp only [Act.put, List.setIfInBounds_toArray, List.set_cons_zero, List.set_cons_succ]; rfl
        ·
         exact hI
       case s2 =>
        refine rg_step rfl ?_
        rintro l a W ⟨rfl, hI⟩ hl hd
        have d1 := hd 1 (by decide)
        clear hd
        refine rg_val (v := .bool true) (w' := W) rfl (by go_simp) ?_
        refine ⟨?_, ?_⟩
        ·
         simp only [Act.put, List.setIfInBounds_toArray, List.set_cons_zero, List.set_cons_succ]; rfl
        ·
         exact hI
       case s3 =>
        refine rg_step rfl ?_
        rintro l a W ⟨rfl, hI⟩ hl hd
        have d2 := hd 2 (by decide)
        clear hd
        refine rg_val (v := .bool true) (w' := W) rfl (by go_simp) ?_
        refine ⟨?_, ?_⟩
        ·
         simp only [Act.put, List.setIfInBounds_toArray, List.set_cons_zero, List.set_cons_succ]; rfl
        ·
         exact hI
       case s4 =>
        refine rg_step rfl ?_
        rintro l a W ⟨rfl, hI⟩ hl hd
        have d3 := hd 3 (by decide)
        clear hd
        have x0 := blk_cell hI.hl 0
        have x1 := blk_cell hI.hl 1
        have x2 := blk_cell hI.hl 2
        have x3 := blk_cell hI.hl 3
        have x4 := blk_cell hI.hl 4
        simp at x0 x1 x2 x3 x4
        refine rg_val (v := .agg #[.bool true, .string ⟨#[]⟩, .string saT, .int .u64 0, .int .u64 0]) (w' := W) (by simp only [d3, sel_true]; rfl) (by go_simp) ?_
        refine ⟨?_, ?_⟩
        ·
         simp only [Act.put, List.setIfInBounds_toArray, List.set_cons_zero, List.set_cons_succ]; rfl
        ·
         exact hI
       case s5 =>
        refine rg_step rfl ?_
        rintro l a W ⟨rfl, hI⟩ hl hd
        have d3 := hd 3 (by decide)
        have d4 := hd 4 (by decide)
        clear hd
        refine rg_call (by simp only [d3, sel_true]; rfl) (by go_simp; exact ⟨rfl, rfl⟩) ?_
        refine (paymasterref07_MayLeaf.calls kl _ _ _ _ _ (mayLeafI ⟨true, ⟨#[]⟩, saT, ⟨0, 0⟩⟩) W HM.out).mono ?_
        rintro x W' ⟨rfl, hb⟩
        refine ⟨_, rfl, ?_, ?_⟩
        ·
         simp only [Act.put, List.setIfInBounds_toArray, List.set_cons_zero, List.set_cons_succ]; rfl
        ·
         exact hI.below hb
       case s6 =>
        refine rg_step rfl ?_
        rintro l a W ⟨rfl, hI⟩ hl hd
        have d3 := hd 3 (by decide)
        have d5 := hd 5 (by decide)
        clear hd
        refine rg_val (v := .bool (mayLeafI ⟨true, ⟨#[]⟩, saT, ⟨0, 0⟩⟩)) (w' := W) rfl (by go_simp) ?_
        refine ⟨?_, ?_⟩
        ·
         simp only [Act.put, List.setIfInBounds_toArray, List.set_cons_zero, List.set_cons_succ]; rfl
        ·
         exact hI
       case s7 =>
        refine rg_step rfl ?_
        rintro l a W ⟨rfl, hI⟩ hl hd
        have d0 := hd 0 (by decide)
        clear hd
        have hg := hI.hr
        rw [show l 7 = false from hl, if_neg (by decide)] at hg
        have y0 := blk_cell hg 0
        have y1 := blk_cell hg 1
        have y2 := blk_cell hg 2
        have y3 := blk_cell hg 3
        have y4 := blk_cell hg 4
        have yf := fun i => blk_frozen hg i
        simp at y0 y1 y2 y3 y4
        refine rg_skip rfl (by go_simp; rfl) ?_
        refine ⟨?_, ?_⟩
        ·
         simp only [Act.put, List.setIfInBounds_toArray, List.set_cons_zero, List.set_cons_succ]; rfl
        ·
         exact (show LfS w W zL0 ⟨true, ⟨#[]⟩, saT, ⟨0, 0⟩⟩ from ⟨hI.hB, hg, hI.hl⟩).put ⟨true, ⟨#[]⟩, saT, ⟨0, 0⟩⟩
       case s8 =>
        refine rg_step rfl ?_
        rintro l a W ⟨rfl, hI⟩ hl hd
        have d6 := hd 6 (by decide)
        clear hd
        refine rg_val (v := .bool (mayLeafI ⟨true, ⟨#[]⟩, saT, ⟨0, 0⟩⟩)) (w' := W) rfl (by go_simp) ?_
        refine ⟨?_, ?_⟩
        ·
         simp only [Act.put, List.setIfInBounds_toArray, List.set_cons_zero, List.set_cons_succ]; rfl
        ·
         exact hI
      case hend =>
       rintro l a W ⟨rfl, hI⟩ hall
       have e0 := hall 0 (by decide)
       have e1 := hall 1 (by decide)
       have e2 := hall 2 (by decide)
       have e3 := hall 3 (by decide)
       have e4 := hall 4 (by decide)
       have e5 := hall 5 (by decide)
       have e6 := hall 6 (by decide)
       have e7 := hall 7 (by decide)
       have e8 := hall 8 (by decide)
       clear hall
       rw [if_pos e7] at hI
       simp only [e0, e1, e2, e3, e4, e5, e6, e7, e8, sel_true]
       clear e0 e1 e2 e3 e4 e5 e6 e7 e8
       have x0 := blk_cell hI.hr 0
       have x1 := blk_cell hI.hr 1
       have x2 := blk_cell hI.hr 2
       have x3 := blk_cell hI.hr 3
       have x4 := blk_cell hI.hr 4
       simp at x0 x1 x2 x3 x4
       have HB := aM' hI.hB
       clear hI
       go_wp2
       refine bodyPost_ret (v := .tuple #[.agg (acC ⟨true, ⟨#[]⟩, saT, ⟨0, 0⟩⟩), .bool (mayLeafI ⟨true, ⟨#[]⟩, saT, ⟨0, 0⟩⟩)]) ?_ rfl (LfPost.ok HLE.out (by have := H6.out; omega) HB.out)
       simp [results, Tryd.results69, go_sem, hu, x0, x1, x2, x3, x4]
     ·
      have HNO := aM' (leaf2_long HN0.out (show 2 + nb t 1 ≤ t.size by rw [hn1]; omega) (by rw [hn1]; exact h6))
      have b5 : ¬ R3.toList = [] := fun h1 => by
       have h2 : R3 = ⟨#[]⟩ := toList_inj (h1.trans (show [] = (⟨#[]⟩ : ByteArray).toList by decide +kernel))
       have h4 : R3.size = 0 := by rw [h2]; rfl
       omega
      have b6 : R3.toList.isEmpty = false := by simpa using b5
      clear hv hs h3 r1 h4 hn1 hz hle h6 hs3 e2 e4 hR3
      go_enter Tryd.func69, Tryd.ntmps69
      go_upto_region 21 with (fail)
      have hS4 := LfS.start w ⟨true, ⟨#[]⟩, saT, ⟨0, 0⟩⟩
      obtain ⟨W4, hW4⟩ : ∃ V, V = ((w.alloc (.cells (acC zL0) 57)).alloc (.cells (acC ⟨true, ⟨#[]⟩, saT, ⟨0, 0⟩⟩) 57)) := ⟨_, rfl⟩
      rw [← hW4] at hS4 ⊢
      clear hW4
      refine region_inv (fun l a W => a = ({ tmps := #[.string t, undef, .pointer (some ⟨w.heap.size, 0, none⟩), sel (l 8) (.bool false) (.bool false), .pointer (some ⟨w.heap.size + 1, 0, none⟩), .string R3, undef, .int .i64 (wrap64 (n1 : Int)), .string t, .int .i64 (t.size : Int), .bool false, .bool false, .string t, .int .u8 2, .bool true, .bool true, .string t, .int .u8 2, .bool false, .bool false, .bool false, undef, .string t, .int .u8 2, .bool true, .agg #[.bool true, .string ⟨#[]⟩, .string ⟨#[]⟩, .int .u64 0, .int .u64 0], .string t, .string R1, .pointer (some ⟨w.heap.size + 1, 0, none⟩), .bool true, .bool false, undef, undef, undef, undef, undef, undef, undef, undef, undef, undef, undef, undef, undef, undef, undef, undef, undef, undef, .string R1, .int .u8 (n1 : Int), .int .i64 (wrap64 (n1 : Int)), .string R1, .int .i64 (R1.size : Int), .int .i64 (wrap64 (n1 : Int)), .int .i64 (wrap64 ((n1 : Int) + 1)), .bool false, undef, .string R1, .int .i64 (wrap64 (n1 : Int)), .int .i64 (wrap64 ((n1 : Int) + 1)), .string saT, .pointer (some ⟨w.heap.size + 1, 2, none⟩), .string R1, .int .i64 (wrap64 (n1 : Int)), .int .i64 (wrap64 ((n1 : Int) + 1)), .string R3, .pointer (some ⟨w.heap.size + 1, 0, none⟩), .bool true, .bool false, .bool false, undef, undef, undef, .bool false, undef, undef, undef, .pointer (some ⟨w.heap.size + 1, 0, none⟩), .bool true, .bool false, undef, sel (l 0) (.agg #[.bool true, .string ⟨#[]⟩, .string saT, .int .u64 0, .int .u64 0]) (undef), sel (l 1) (.string R3) (undef), sel (l 2) (.bool false) (undef), sel (l 3) (.bool false) (undef), sel (l 4) (undef) (undef), sel (l 5) (undef) (undef), sel (l 6) (.bool false) (undef)], defers := [] } : Act) ∧ (LfS w W (if l 7 = true then ⟨true, ⟨#[]⟩, saT, ⟨0, 0⟩⟩ else zL0) ⟨true, ⟨#[]⟩, saT, ⟨0, 0⟩⟩)) 9 rfl rfl (by kernel_rfl) ?h0 ?hend ?hstep
      case h0 => exact ⟨rfl, hS4.below (below_drew (Below.refl _ _))⟩
      case hstep =>
       refine rg_cons (rg_cons (rg_cons (rg_cons (rg_cons (rg_cons (rg_cons (rg_cons (rg_cons (rg_nil) ?s0) ?s1) ?s2) ?s3) ?s4) ?s5) ?s6) ?s7) ?s8
       case s0 =>
        refine rg_step rfl ?_
        rintro l a W ⟨rfl, hI⟩ hl hd
        clear hd
        have x0 := blk_cell hI.hl 0
        have x1 := blk_cell hI.hl 1
        have x2 := blk_cell hI.hl 2
        have x3 := blk_cell hI.hl 3
        have x4 := blk_cell hI.hl 4
        simp at x0 x1 x2 x3 x4
        refine rg_val (v := .agg #[.bool true, .string ⟨#[]⟩, .string saT, .int .u64 0, .int .u64 0]) (w' := W) rfl (by go_simp) ?_
        refine ⟨?_, ?_⟩
        ·
         simp only [Act.put, List.setIfInBounds_toArray, List.set_cons_zero, List.set_cons_succ]; rfl
        ·
         exact hI
       case s1 =>
        refine rg_step rfl ?_
        rintro l a W ⟨rfl, hI⟩ hl hd
        clear hd
        refine rg_val (v := .string R3) (w' := W) rfl (by go_simp) ?_
        refine ⟨?_, ?_⟩
        ·
         simp only [Act.put, List.setIfInBounds_toArray, List.set_cons_zero, List.set_cons_succ]; rfl
        ·
         exact hI
       case s2 =>
        refine rg_step rfl ?_
        rintro l a W ⟨rfl, hI⟩ hl hd
        have d1 := hd 1 (by decide)
        clear hd
        refine rg_val (v := .bool false) (w' := W) rfl (by go_simp) ?_
        refine ⟨?_, ?_⟩
        ·
         simp only [Act.put, List.setIfInBounds_toArray, List.set_cons_zero, List.set_cons_succ]; rfl
        ·
         exact hI
       case s3 =>
        refine rg_step rfl ?_
        rintro l a W ⟨rfl, hI⟩ hl hd
        have d2 := hd 2 (by decide)
        clear hd
        refine rg_val (v := .bool false) (w' := W) rfl (by go_simp) ?_
        refine ⟨?_, ?_⟩
        ·
         simp only [Act.put, List.setIfInBounds_toArray, List.set_cons_zero, List.set_cons_succ]; rfl
        ·
         exact hI
       case s4 =>
        refine rg_step rfl ?_
        rintro l a W ⟨rfl, hI⟩ hl hd
        have d3 := hd 3 (by decide)
        clear hd
        refine rg_not (by simp only [d3, sel_true]; rfl) ?_
        refine ⟨?_, ?_⟩
        ·
         simp only [Act.put, List.setIfInBounds_toArray, List.set_cons_zero, List.set_cons_succ]; rfl
        ·
         exact hI
       case s5 =>
        refine rg_step rfl ?_
        rintro l a W ⟨rfl, hI⟩ hl hd
        have d3 := hd 3 (by decide)
        have d4 := hd 4 (by decide)
        clear hd
        refine rg_not (by simp only [d3, sel_true]; rfl) ?_
        refine ⟨?_, ?_⟩
        ·
         simp only [Act.put, List.setIfInBounds_toArray, List.set_cons_zero, List.set_cons_succ]; rfl
        ·
         exact hI
       case s6 =>
        refine rg_step rfl ?_
        rintro l a W ⟨rfl, hI⟩ hl hd
        have d3 := hd 3 (by decide)
        clear hd
        refine rg_val (v := .bool false) (w' := W) rfl (by go_simp) ?_
        refine ⟨?_, ?_⟩
        ·
         simp only [Act.put, List.setIfInBounds_toArray, List.set_cons_zero, List.set_cons_succ]; rfl
        ·
         exact hI
       case s7 =>
        refine rg_step rfl ?_
        rintro l a W ⟨rfl, hI⟩ hl hd
        have d0 := hd 0 (by decide)
        clear hd
        have hg := hI.hr
        rw [show l 7 = false from hl, if_neg (by decide)] at hg
        have y0 := blk_cell hg 0
        have y1 := blk_cell hg 1
        have y2 := blk_cell hg 2
        have y3 := blk_cell hg 3
        have y4 := blk_cell hg 4
        have yf := fun i => blk_frozen hg i
        simp at y0 y1 y2 y3 y4
        refine rg_skip rfl (by go_simp; rfl) ?_
        refine ⟨?_, ?_⟩
        ·
         simp only [Act.put, List.setIfInBounds_toArray, List.set_cons_zero, List.set_cons_succ]; rfl
        ·
         exact (show LfS w W zL0 ⟨true, ⟨#[]⟩, saT, ⟨0, 0⟩⟩ from ⟨hI.hB, hg, hI.hl⟩).put ⟨true, ⟨#[]⟩, saT, ⟨0, 0⟩⟩
       case s8 =>
        refine rg_step rfl ?_
        rintro l a W ⟨rfl, hI⟩ hl hd
        have d6 := hd 6 (by decide)
        clear hd
        refine rg_val (v := .bool false) (w' := W) rfl (by go_simp) ?_
        refine ⟨?_, ?_⟩
        ·
         simp only [Act.put, List.setIfInBounds_toArray, List.set_cons_zero, List.set_cons_succ]; rfl
        ·
         exact hI
      case hend =>
       rintro l a W ⟨rfl, hI⟩ hall
       have e0 := hall 0 (by decide)
       have e1 := hall 1 (by decide)
       have e2 := hall 2 (by decide)
       have e3 := hall 3 (by decide)
       have e4 := hall 4 (by decide)
       have e5 := hall 5 (by decide)
       have e6 := hall 6 (by decide)
       have e7 := hall 7 (by decide)
       have e8 := hall 8 (by decide)
       clear hall
       rw [if_pos e7] at hI
       simp only [e0, e1, e2, e3, e4, e5, e6, e7, e8, sel_true]
       clear e0 e1 e2 e3 e4 e5 e6 e7 e8
       have x0 := blk_cell hI.hr 0
       have x1 := blk_cell hI.hr 1
       have x2 := blk_cell hI.hr 2
       have x3 := blk_cell hI.hr 3
       have x4 := blk_cell hI.hr 4
       simp at x0 x1 x2 x3 x4
       have HB := aM' hI.hB
       clear hI
       go_wp2
       refine bodyPost_ret (v := .tuple #[.agg (acC ⟨true, ⟨#[]⟩, saT, ⟨0, 0⟩⟩), .bool false]) ?_ rfl (LfPost.no HNO.out HB.out)
       simp [results, Tryd.results69, go_sem, hu, x0, x1, x2, x3, x4]
   ·
    have HNO := aM' (leaf_other (by rw [HN0.out]; exact hz) (by rw [HN0.out]; exact hz2))
    have d0 : ((n0 : Int) != 0) = true := by simp [hz]
    have d2 : ((n0 : Int) != 2) = true := by simp; omega
    have d3 : ((n0 : Int) == 0) = false := by simp [hz]
    have d4 : ((n0 : Int) == 2) = false := by simp; omega
    clear hs r1 h4 hz hz2
    go_enter Tryd.func69, Tryd.ntmps69
    go_wp2
    refine bodyPost_ret (v := .tuple #[.agg (acC zL0), .bool false]) ?_ rfl (LfPost.no HNO.out ?_)
    ·
     simp [results, Tryd.results69, go_sem, hu]
    ·
     (repeat (with_reducible first | exact Below.refl _ _ | apply below_alloc | refine below_set ?_ (by (try dsimp only); omega)))
end Go.Proofs.YtijfifphcchbbaaDoor.P
