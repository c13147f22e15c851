-- Written by a program of this workplace (wip/tool) out of the translation. Lean checks it.
import Derived.Test.YtlmmpncdemblbaaDoorPn0
import Derived.Test.YtlmmpncdemblbaaDoorHU128
import Derived.Test.YtlmmpncdemblbaaDoorWTab
namespace Go.Proofs.YtlmmpncdemblbaaDoor.P
open Go.RowKit Go.Proofs.YtlmmpncdemblbaaDoorW.PrintWords Go.Proofs.YtlmmpncdemblbaaDoorW.PrintLast Go.Proofs.YtlmmpncdemblbaaDoorW.PrintMore
attribute [local go_sem] max2_int min2_int max_two min_two max_three min_three max_four min_four   -- for this text's walks alone
set_option linter.unusedVariables false
set_option linter.unusedSimpArgs false

/-! ### tag_NodeText: function 44 -/
def tag_NodeText.f (a0_0 : ByteArray) (a0_1 : Int) (a0_2 : Int) (a1_0 : ByteArray) (a1_1 : Int) (a1_2 : Int) : Option (ByteArray) := (some (([1] : List Int) : List Int)).bind fun y212 => (if (strOfNums y212).size + a0_0.size ≤ 9223372036854775807 then ((u128_Bytes.f a0_1 a0_2).bind fun t215 => (if ((strOfNums y212) ++ a0_0).size + t215.size ≤ 9223372036854775807 then (if (((strOfNums y212) ++ a0_0) ++ t215).size + a1_0.size ≤ 9223372036854775807 then ((u128_Bytes.f a1_1 a1_2).bind fun t216 => (if ((((strOfNums y212) ++ a0_0) ++ t215) ++ a1_0).size + t216.size ≤ 9223372036854775807 then (some (((((strOfNums y212) ++ a0_0) ++ t215) ++ a1_0) ++ t216)) else (none))) else (none)) else (none))) else (none))
def tag_NodeText.T1 : Bool × List (List Nat × List Nat) := (true, [([], []), ([0], [0]), ([], []), ([2], [2]), ([1, 3], [1, 3]), ([], []), ([5], [5]), ([6], [6]), ([4, 7], [4, 7]), ([], []), ([9], [9]), ([8, 10], [8, 10]), ([], []), ([12], [12]), ([13, 7], [13]), ([11, 14], [11, 14]), ([15, 14, 0, 1, 2, 3, 4, 5, 6, 7, 8, 9, 10, 11, 12, 13, 14, 15], [15])])
def tag_NodeText.B1 : List Nat := [0, 1, 0, 4, 15, 0, 32, 96, 255, 0, 512, 2047, 0, 4096, 12512, 32767, 65535]
theorem tag_NodeText.tab1 : rtab .any (opsOf Tryd.f44 1) = tag_NodeText.T1 := by kernel_rfl
theorem tag_NodeText.bits1 : waitsOk tag_NodeText.T1.2 tag_NodeText.B1 = true := by kernel_rfl
set_option maxHeartbeats 8000000 in
set_option maxRecDepth 100000 in
theorem tag_NodeText.calls (a0_0 : ByteArray) (a0_1 : Int) (a0_2 : Int) (a1_0 : ByteArray) (a1_1 : Int) (a1_2 : Int) (r : ByteArray) (w : World) (h : tag_NodeText.f a0_0 a0_1 a0_2 a1_0 a1_1 a1_2 = some r) :
    Calls Tryd.prog 44 #[.agg #[.string a0_0, .int .u64 a0_1, .int .u64 a0_2], .agg #[.string a1_0, .int .u64 a1_1, .int .u64 a1_2]] w fun e w' => e = .returned (.string r) ∧ Below w.heap.size w w' := by
  have hu26 := Tryd.underlying26
  have hu24 := Tryd.underlying24
  have HB := Aside0.mk (Below.refl w.heap.size w)
  have H : ((some (([1] : List Int) : List Int)).bind fun y212 => (if (strOfNums y212).size + a0_0.size ≤ 9223372036854775807 then ((u128_Bytes.f a0_1 a0_2).bind fun t215 => (if ((strOfNums y212) ++ a0_0).size + t215.size ≤ 9223372036854775807 then (if (((strOfNums y212) ++ a0_0) ++ t215).size + a1_0.size ≤ 9223372036854775807 then ((u128_Bytes.f a1_1 a1_2).bind fun t216 => (if ((((strOfNums y212) ++ a0_0) ++ t215) ++ a1_0).size + t216.size ≤ 9223372036854775807 then (some (((((strOfNums y212) ++ a0_0) ++ t215) ++ a1_0) ++ t216)) else (none))) else (none)) else (none))) else (none))) = some r := h
  clear h
  obtain ⟨y212, hy212⟩ : ∃ y_ : List Int, y_ = (([1] : List Int)) := ⟨_, rfl⟩
  replace H : (if (strOfNums y212).size + a0_0.size ≤ 9223372036854775807 then ((u128_Bytes.f a0_1 a0_2).bind fun t215 => (if ((strOfNums y212) ++ a0_0).size + t215.size ≤ 9223372036854775807 then (if (((strOfNums y212) ++ a0_0) ++ t215).size + a1_0.size ≤ 9223372036854775807 then ((u128_Bytes.f a1_1 a1_2).bind fun t216 => (if ((((strOfNums y212) ++ a0_0) ++ t215) ++ a1_0).size + t216.size ≤ 9223372036854775807 then (some (((((strOfNums y212) ++ a0_0) ++ t215) ++ a1_0) ++ t216)) else (none))) else (none)) else (none))) else (none)) = some r := by first | (rw [hy212]; with_reducible exact H) | (have H2_ := (Option.bind_some _ _).symm.trans H; rw [hy212]; with_reducible exact H2_) | (have H2_ := (Option.bind_some _ _).symm.trans H; with_reducible exact H2_) | with_reducible exact H | (rw [hy212]; exact H) | exact H
  have Ny212 := Aside0.mk hy212
  clear hy212
  by_cases c3 : (strOfNums y212).size + a0_0.size ≤ 9223372036854775807
  · rw [if_pos c3] at H
    have c3b0 := eq_true c3
    have c3b1 : decide ((strOfNums y212).size + a0_0.size ≤ 9223372036854775807) = true := decide_eq_true c3
    try have c3b2 : (9223372036854775807 < (strOfNums y212).size + a0_0.size) = False := eq_false (Nat.not_lt.2 c3)
    try (have c3b9 := c3; simp only [ByteArray.size_append, ba_size, List.length_cons, List.length_nil, Nat.zero_add, Nat.reduceAdd] at c3b9; have c3b8 := eq_false (Nat.not_lt.2 c3b9))
    replace H := Option.bind_eq_some_iff.mp H
    obtain ⟨t215, A40, H⟩ := H
    replace H : (if ((strOfNums y212) ++ a0_0).size + t215.size ≤ 9223372036854775807 then (if (((strOfNums y212) ++ a0_0) ++ t215).size + a1_0.size ≤ 9223372036854775807 then ((u128_Bytes.f a1_1 a1_2).bind fun t216 => (if ((((strOfNums y212) ++ a0_0) ++ t215) ++ a1_0).size + t216.size ≤ 9223372036854775807 then (some (((((strOfNums y212) ++ a0_0) ++ t215) ++ a1_0) ++ t216)) else (none))) else (none)) else (none)) = some r := H
    have A4 := Aside0.mk A40
    clear A40
    by_cases c5 : ((strOfNums y212) ++ a0_0).size + t215.size ≤ 9223372036854775807
    · rw [if_pos c5] at H
      have c5b0 := eq_true c5
      have c5b1 : decide (((strOfNums y212) ++ a0_0).size + t215.size ≤ 9223372036854775807) = true := decide_eq_true c5
      try have c5b2 : (9223372036854775807 < ((strOfNums y212) ++ a0_0).size + t215.size) = False := eq_false (Nat.not_lt.2 c5)
      try (have c5b9 := c5; simp only [ByteArray.size_append, ba_size, List.length_cons, List.length_nil, Nat.zero_add, Nat.reduceAdd] at c5b9; have c5b8 := eq_false (Nat.not_lt.2 c5b9))
      by_cases c6 : (((strOfNums y212) ++ a0_0) ++ t215).size + a1_0.size ≤ 9223372036854775807
      · rw [if_pos c6] at H
        have c6b0 := eq_true c6
        have c6b1 : decide ((((strOfNums y212) ++ a0_0) ++ t215).size + a1_0.size ≤ 9223372036854775807) = true := decide_eq_true c6
        try have c6b2 : (9223372036854775807 < (((strOfNums y212) ++ a0_0) ++ t215).size + a1_0.size) = False := eq_false (Nat.not_lt.2 c6)
        try (have c6b9 := c6; simp only [ByteArray.size_append, ba_size, List.length_cons, List.length_nil, Nat.zero_add, Nat.reduceAdd] at c6b9; have c6b8 := eq_false (Nat.not_lt.2 c6b9))
        replace H := Option.bind_eq_some_iff.mp H
        obtain ⟨t216, A70, H⟩ := H
        replace H : (if ((((strOfNums y212) ++ a0_0) ++ t215) ++ a1_0).size + t216.size ≤ 9223372036854775807 then (some (((((strOfNums y212) ++ a0_0) ++ t215) ++ a1_0) ++ t216)) else (none)) = some r := H
        have A7 := Aside0.mk A70
        clear A70
        by_cases c8 : ((((strOfNums y212) ++ a0_0) ++ t215) ++ a1_0).size + t216.size ≤ 9223372036854775807
        · rw [if_pos c8] at H
          have c8b0 := eq_true c8
          have c8b1 : decide (((((strOfNums y212) ++ a0_0) ++ t215) ++ a1_0).size + t216.size ≤ 9223372036854775807) = true := decide_eq_true c8
          try have c8b2 : (9223372036854775807 < ((((strOfNums y212) ++ a0_0) ++ t215) ++ a1_0).size + t216.size) = False := eq_false (Nat.not_lt.2 c8)
          try (have c8b9 := c8; simp only [ByteArray.size_append, ba_size, List.length_cons, List.length_nil, Nat.zero_add, Nat.reduceAdd] at c8b9; have c8b8 := eq_false (Nat.not_lt.2 c8b9))
          obtain rfl := Option.some.inj H
          go_enter Tryd.func44, Tryd.ntmps44
          try go_wp2_with (first | ((with_reducible refine gate_dst (N := 2) rfl ?_); refine box_event ?hg (N := 2) ?hd (cs := #[.string a0_0, .int .u64 a0_1, .int .u64 a0_2]) (t := 26) ?hr ?_; (case hd => rfl); (case hg => rfl); (case hr => first | (go_simp; done) | (go_simp; rfl)); intro gb210 hg w9 hbox hb; have n0_ := Aside0.mk (below_step (by repeat (first | (with_reducible first | exact HB.out | apply below_alloc | apply pw_below_drewN | apply below_drew1) | exact HB.out)) hb); have n1_ := Aside0.mk (hbox); have n2_ := Aside0.mk ((by rw [hg]; exact (below_size (by repeat (first | (with_reducible first | exact HB.out | apply below_alloc | apply pw_below_drewN | apply below_drew1) | exact HB.out))) : w.heap.size ≤ gb210)); have n3_ := Aside0.mk ((by rw [hg]; exact (below_size (by repeat (first | (with_reducible first | exact HB.out | apply below_alloc | apply pw_below_drewN | apply below_drew1) | exact HB.out))) : w.heap.size ≤ gb210)); clear HB; have HB := n0_; have BK210 := n1_; have GW210 := n2_; have GE210 := n3_; clear n0_ n1_ n2_ n3_; clear hb hbox hg) | ((with_reducible refine gate_dst (N := 3) rfl ?_); refine box_event ?hg (N := 3) ?hd (cs := #[.string a1_0, .int .u64 a1_1, .int .u64 a1_2]) (t := 26) ?hr ?_; (case hd => rfl); (case hg => rfl); (case hr => first | (go_simp; done) | (go_simp; rfl)); intro gb211 hg w10 hbox hb; have n0_ := Aside0.mk (blk_below (g := gb210) (o := .cells #[.string a0_0, .int .u64 a0_1, .int .u64 a0_2] 26 (0, 0)) (by (with_reducible repeat (first | refine blk_drewN ?_ _ | refine blk_drew ?_ | refine blk_alloc ?_ _)); exact BK210.out) hb); have n1_ := Aside0.mk (below_step (by repeat (first | (with_reducible first | exact HB.out | apply below_alloc | apply pw_below_drewN | apply below_drew1 | refine below_set ?_ GE210.out) | exact HB.out)) hb); have n2_ := Aside0.mk (hbox); have n3_ := Aside0.mk ((by rw [hg]; exact (below_size (by repeat (first | (with_reducible first | exact HB.out | apply below_alloc | apply pw_below_drewN | apply below_drew1 | refine below_set ?_ GE210.out) | exact HB.out))) : w.heap.size ≤ gb211)); have n4_ := Aside0.mk ((by rw [hg]; exact (below_size (by repeat (first | (with_reducible first | exact HB.out | apply below_alloc | apply pw_below_drewN | apply below_drew1 | refine below_set ?_ GE210.out) | exact HB.out))) : w.heap.size ≤ gb211)); have n5_ := Aside0.mk ((by rw [hg]; exact Nat.ne_of_lt (blk_lt (g := gb210) (o := .cells #[.string a0_0, .int .u64 a0_1, .int .u64 a0_2] 26 (0, 0)) (by (with_reducible repeat (first | refine blk_drewN ?_ _ | refine blk_drew ?_ | refine blk_alloc ?_ _)); exact BK210.out)) : gb210 ≠ gb211)); have n6_ := Aside0.mk ((by rw [hg]; exact Nat.ne_of_gt (blk_lt (g := gb210) (o := .cells #[.string a0_0, .int .u64 a0_1, .int .u64 a0_2] 26 (0, 0)) (by (with_reducible repeat (first | refine blk_drewN ?_ _ | refine blk_drew ?_ | refine blk_alloc ?_ _)); exact BK210.out)) : gb211 ≠ gb210)); clear BK210; clear HB; have BK210 := n0_; have HB := n1_; have BK211 := n2_; have GW211 := n3_; have GE211 := n4_; have NB210_211 := n5_; have NB211_210 := n6_; clear n0_ n1_ n2_ n3_ n4_ n5_ n6_; clear hb hbox hg))
          have n0_ := Aside0.mk (blk_drew BK210.out)
          have n1_ := Aside0.mk (blk_drew BK211.out)
          have n2_ := Aside0.mk (below_drew1 HB.out)
          clear BK210
          clear BK211
          clear HB
          have BK210 := n0_
          have BK211 := n1_
          have HB := n2_
          clear n0_ n1_ n2_
          refine start_ (n := 17) (S := fun w' => w'.cell? ⟨gb210, 0, none⟩ = some (.string a0_0) ∧ w'.cell? ⟨gb210, 1, none⟩ = some (.int .u64 a0_1) ∧ w'.cell? ⟨gb210, 2, none⟩ = some (.int .u64 a0_2) ∧ w'.cell? ⟨gb211, 0, none⟩ = some (.string a1_0) ∧ w'.cell? ⟨gb211, 1, none⟩ = some (.int .u64 a1_1) ∧ w'.cell? ⟨gb211, 2, none⟩ = some (.int .u64 a1_2)) (ds := []) #[false, false, false, false, false, false, false, false, false, false, false, false, false, false, false, false, false] (by kernel_rfl) rfl rfl ⟨(blk_cell BK210.out 0).trans rfl, (blk_cell BK210.out 1).trans rfl, (blk_cell BK210.out 2).trans rfl, (blk_cell BK211.out 0).trans rfl, (blk_cell BK211.out 1).trans rfl, (blk_cell BK211.out 2).trans rfl⟩ (fun hHeld => ?_); refine with_tabW tag_NodeText.tab1 tag_NodeText.bits1 (fun HT_ HW_ => ?_)
          generalize w10.drew = w11 at BK210 BK211 HB hHeld ⊢
          refine pure_ (i := 2) (N := some 7) (v := ?_) (a' := ?_) #[false, false, true, false, false, false, false, false, false, false, false, false, false, false, false, false, false] rfl rfl (any_of HT_.out (by kernel_rfl)) (fun _ _ _ h => h) (Or.inl ⟨by rfl, ?_⟩) ?_ ?_
          rotate_left
          · intro w'
            go_simp
            with_reducible rfl
          rotate_left
          · simp only [Act.put, List.setIfInBounds_toArray, List.set_cons_zero, List.set_cons_succ, i64_w, i32_w]
            rfl
          refine pure_ (i := 5) (N := some 10) (v := ?_) (a' := ?_) #[false, false, true, false, false, true, false, false, false, false, false, false, false, false, false, false, false] rfl rfl (any_of HT_.out (by kernel_rfl)) (fun _ _ _ h => h) (Or.inl ⟨by rfl, ?_⟩) ?_ ?_
          rotate_left
          · intro w'
            go_simp
            with_reducible rfl
          rotate_left
          · simp only [Act.put, List.setIfInBounds_toArray, List.set_cons_zero, List.set_cons_succ, i64_w, i32_w]
            rfl
          refine pure_ (i := 9) (N := some 14) (v := ?_) (a' := ?_) #[false, false, true, false, false, true, false, false, false, true, false, false, false, false, false, false, false] rfl rfl (any_of HT_.out (by kernel_rfl)) (fun _ _ _ h => h) (Or.inl ⟨by rfl, ?_⟩) ?_ ?_
          rotate_left
          · intro w'
            go_simp
            with_reducible rfl
          rotate_left
          · simp only [Act.put, List.setIfInBounds_toArray, List.set_cons_zero, List.set_cons_succ, i64_w, i32_w]
            rfl
          refine pure_ (i := 12) (N := some 17) (v := ?_) (a' := ?_) #[false, false, true, false, false, true, false, false, false, true, false, false, true, false, false, false, false] rfl rfl (any_of HT_.out (by kernel_rfl)) (fun _ _ _ h => h) (Or.inl ⟨by rfl, ?_⟩) ?_ ?_
          rotate_left
          · intro w'
            go_simp
            with_reducible rfl
          rotate_left
          · simp only [Act.put, List.setIfInBounds_toArray, List.set_cons_zero, List.set_cons_succ, i64_w, i32_w]
            rfl
          refine take_ (i := 3) (N := some 8) (v := ?_) (a' := ?_) #[false, false, true, true, false, true, false, false, false, true, false, false, true, false, false, false, false] rfl rfl (take_ofW HT_.out HW_.out (by kernel_rfl)) (fun _ _ _ h => h) (Or.inl ⟨by rfl, ?_⟩) hHeld ?_ ?_
          rotate_left
          · rintro w' ⟨s0, s1, s2, s3, s4, s5⟩
            go_simp
            with_reducible rfl
          rotate_left
          · simp only [Act.put, List.setIfInBounds_toArray, List.set_cons_zero, List.set_cons_succ, i64_w, i32_w]
            rfl
          refine take_ (i := 6) (N := some 11) (v := ?_) (a' := ?_) #[false, false, true, true, false, true, true, false, false, true, false, false, true, false, false, false, false] rfl rfl (take_ofW HT_.out HW_.out (by kernel_rfl)) (fun _ _ _ h => h) (Or.inl ⟨by rfl, ?_⟩) hHeld ?_ ?_
          rotate_left
          · rintro w' ⟨s0, s1, s2, s3, s4, s5⟩
            go_simp
            with_reducible rfl
          rotate_left
          · simp only [Act.put, List.setIfInBounds_toArray, List.set_cons_zero, List.set_cons_succ, i64_w, i32_w]
            rfl
          refine take_ (i := 10) (N := some 15) (v := ?_) (a' := ?_) #[false, false, true, true, false, true, true, false, false, true, true, false, true, false, false, false, false] rfl rfl (take_ofW HT_.out HW_.out (by kernel_rfl)) (fun _ _ _ h => h) (Or.inl ⟨by rfl, ?_⟩) hHeld ?_ ?_
          rotate_left
          · rintro w' ⟨s0, s1, s2, s3, s4, s5⟩
            go_simp
            with_reducible rfl
          rotate_left
          · simp only [Act.put, List.setIfInBounds_toArray, List.set_cons_zero, List.set_cons_succ, i64_w, i32_w]
            rfl
          refine take_ (i := 13) (N := some 18) (v := ?_) (a' := ?_) #[false, false, true, true, false, true, true, false, false, true, true, false, true, true, false, false, false] rfl rfl (take_ofW HT_.out HW_.out (by kernel_rfl)) (fun _ _ _ h => h) (Or.inl ⟨by rfl, ?_⟩) hHeld ?_ ?_
          rotate_left
          · rintro w' ⟨s0, s1, s2, s3, s4, s5⟩
            go_simp
            with_reducible rfl
          rotate_left
          · simp only [Act.put, List.setIfInBounds_toArray, List.set_cons_zero, List.set_cons_succ, i64_w, i32_w]
            rfl
          refine join_ (σ := Value) 2 #[true, true, true, true, true, true, true, true, true, true, true, true, true, true, true, false, false] (fun s_ => [(5, s_), (6, .string (strOfNums y212)), (12, .string t215), (19, .string t216), (9, .string ((strOfNums y212) ++ a0_0)), (13, .string (((strOfNums y212) ++ a0_0) ++ t215)), (16, .string ((((strOfNums y212) ++ a0_0) ++ t215) ++ a1_0))]) (fun s_ w' => (w'.cell? ⟨gb210, 0, none⟩ = some (.string a0_0) ∧ w'.cell? ⟨gb210, 1, none⟩ = some (.int .u64 a0_1) ∧ w'.cell? ⟨gb210, 2, none⟩ = some (.int .u64 a0_2) ∧ w'.cell? ⟨gb211, 0, none⟩ = some (.string a1_0) ∧ w'.cell? ⟨gb211, 1, none⟩ = some (.int .u64 a1_1) ∧ w'.cell? ⟨gb211, 2, none⟩ = some (.int .u64 a1_2)) ∧ (Kd.R (Kd.int .u8) 5 w' w.heap.size (fun _ => True) s_ y212) ∧ (w'.heap[gb210]? = some (.cells #[.string a0_0, .int .u64 a0_1, .int .u64 a0_2] 26 (0, 0))) ∧ (w'.heap[gb211]? = some (.cells #[.string a1_0, .int .u64 a1_1, .int .u64 a1_2] 26 (0, 0))) ∧ (Below w.heap.size w w')) ?_ ?_
          rotate_left
          · intro hJ0_1_7_14
            refine join_ (σ := Value) 3 #[true, true, true, true, true, true, true, true, true, true, true, true, true, true, false, false, false] (fun s_ => [(5, s_), (6, .string (strOfNums y212)), (12, .string t215), (9, .string ((strOfNums y212) ++ a0_0)), (13, .string (((strOfNums y212) ++ a0_0) ++ t215)), (16, .string ((((strOfNums y212) ++ a0_0) ++ t215) ++ a1_0))]) (fun s_ w' => (w'.cell? ⟨gb210, 0, none⟩ = some (.string a0_0) ∧ w'.cell? ⟨gb210, 1, none⟩ = some (.int .u64 a0_1) ∧ w'.cell? ⟨gb210, 2, none⟩ = some (.int .u64 a0_2) ∧ w'.cell? ⟨gb211, 0, none⟩ = some (.string a1_0) ∧ w'.cell? ⟨gb211, 1, none⟩ = some (.int .u64 a1_1) ∧ w'.cell? ⟨gb211, 2, none⟩ = some (.int .u64 a1_2)) ∧ (Kd.R (Kd.int .u8) 5 w' w.heap.size (fun _ => True) s_ y212) ∧ (w'.heap[gb210]? = some (.cells #[.string a0_0, .int .u64 a0_1, .int .u64 a0_2] 26 (0, 0))) ∧ (w'.heap[gb211]? = some (.cells #[.string a1_0, .int .u64 a1_1, .int .u64 a1_2] 26 (0, 0))) ∧ (Below w.heap.size w w')) ?_ ?_
            rotate_left
            · intro hJ0_1_7
              refine join_ (σ := Value) 6 #[true, false, true, true, false, true, true, true, false, true, true, false, true, true, true, false, false] (fun s_ => [(5, s_), (12, .string t215), (19, .string t216)]) (fun s_ w' => (w'.cell? ⟨gb210, 0, none⟩ = some (.string a0_0) ∧ w'.cell? ⟨gb210, 1, none⟩ = some (.int .u64 a0_1) ∧ w'.cell? ⟨gb210, 2, none⟩ = some (.int .u64 a0_2) ∧ w'.cell? ⟨gb211, 0, none⟩ = some (.string a1_0) ∧ w'.cell? ⟨gb211, 1, none⟩ = some (.int .u64 a1_1) ∧ w'.cell? ⟨gb211, 2, none⟩ = some (.int .u64 a1_2)) ∧ (Kd.R (Kd.int .u8) 5 w' w.heap.size (fun _ => True) s_ y212) ∧ (w'.heap[gb210]? = some (.cells #[.string a0_0, .int .u64 a0_1, .int .u64 a0_2] 26 (0, 0))) ∧ (w'.heap[gb211]? = some (.cells #[.string a1_0, .int .u64 a1_1, .int .u64 a1_2] 26 (0, 0))) ∧ (Below w.heap.size w w')) ?_ ?_
              rotate_left
              · intro hJ0_7_14
                refine join_ (σ := Value) 6 #[true, true, true, true, true, true, true, false, false, true, true, false, true, true, false, false, false] (fun s_ => [(5, s_), (6, .string (strOfNums y212)), (9, .string ((strOfNums y212) ++ a0_0))]) (fun s_ w' => (w'.cell? ⟨gb210, 0, none⟩ = some (.string a0_0) ∧ w'.cell? ⟨gb210, 1, none⟩ = some (.int .u64 a0_1) ∧ w'.cell? ⟨gb210, 2, none⟩ = some (.int .u64 a0_2) ∧ w'.cell? ⟨gb211, 0, none⟩ = some (.string a1_0) ∧ w'.cell? ⟨gb211, 1, none⟩ = some (.int .u64 a1_1) ∧ w'.cell? ⟨gb211, 2, none⟩ = some (.int .u64 a1_2)) ∧ (Kd.R (Kd.int .u8) 5 w' w.heap.size (fun _ => True) s_ y212) ∧ (w'.heap[gb210]? = some (.cells #[.string a0_0, .int .u64 a0_1, .int .u64 a0_2] 26 (0, 0))) ∧ (w'.heap[gb211]? = some (.cells #[.string a1_0, .int .u64 a1_1, .int .u64 a1_2] 26 (0, 0))) ∧ (Below w.heap.size w w')) ?_ ?_
                rotate_left
                · intro hJ0_1
                  refine join_ (σ := Value) 7 #[true, false, true, true, false, true, true, true, false, true, true, false, true, true, false, false, false] (fun s_ => [(5, s_), (12, .string t215)]) (fun s_ w' => (w'.cell? ⟨gb210, 0, none⟩ = some (.string a0_0) ∧ w'.cell? ⟨gb210, 1, none⟩ = some (.int .u64 a0_1) ∧ w'.cell? ⟨gb210, 2, none⟩ = some (.int .u64 a0_2) ∧ w'.cell? ⟨gb211, 0, none⟩ = some (.string a1_0) ∧ w'.cell? ⟨gb211, 1, none⟩ = some (.int .u64 a1_1) ∧ w'.cell? ⟨gb211, 2, none⟩ = some (.int .u64 a1_2)) ∧ (Kd.R (Kd.int .u8) 5 w' w.heap.size (fun _ => True) s_ y212) ∧ (w'.heap[gb210]? = some (.cells #[.string a0_0, .int .u64 a0_1, .int .u64 a0_2] 26 (0, 0))) ∧ (w'.heap[gb211]? = some (.cells #[.string a1_0, .int .u64 a1_1, .int .u64 a1_2] 26 (0, 0))) ∧ (Below w.heap.size w w')) ?_ ?_
                  rotate_left
                  · intro hJ0_7
                    refine join_ (σ := Unit) 7 #[false, false, true, true, false, true, true, true, false, true, true, false, true, true, true, false, false] (fun s_ => [(12, .string t215), (19, .string t216)]) (fun s_ w' => (w'.cell? ⟨gb210, 0, none⟩ = some (.string a0_0) ∧ w'.cell? ⟨gb210, 1, none⟩ = some (.int .u64 a0_1) ∧ w'.cell? ⟨gb210, 2, none⟩ = some (.int .u64 a0_2) ∧ w'.cell? ⟨gb211, 0, none⟩ = some (.string a1_0) ∧ w'.cell? ⟨gb211, 1, none⟩ = some (.int .u64 a1_1) ∧ w'.cell? ⟨gb211, 2, none⟩ = some (.int .u64 a1_2)) ∧ (w'.heap[gb210]? = some (.cells #[.string a0_0, .int .u64 a0_1, .int .u64 a0_2] 26 (0, 0))) ∧ (w'.heap[gb211]? = some (.cells #[.string a1_0, .int .u64 a1_1, .int .u64 a1_2] 26 (0, 0))) ∧ (Below w.heap.size w w')) ?_ ?_
                    rotate_left
                    · intro hJ7_14
                      refine join_ (σ := Value) 8 #[true, false, true, true, false, true, true, false, false, true, true, false, true, true, false, false, false] (fun s_ => [(5, s_)]) (fun s_ w' => (w'.cell? ⟨gb210, 0, none⟩ = some (.string a0_0) ∧ w'.cell? ⟨gb210, 1, none⟩ = some (.int .u64 a0_1) ∧ w'.cell? ⟨gb210, 2, none⟩ = some (.int .u64 a0_2) ∧ w'.cell? ⟨gb211, 0, none⟩ = some (.string a1_0) ∧ w'.cell? ⟨gb211, 1, none⟩ = some (.int .u64 a1_1) ∧ w'.cell? ⟨gb211, 2, none⟩ = some (.int .u64 a1_2)) ∧ (Kd.R (Kd.int .u8) 5 w' w.heap.size (fun _ => True) s_ y212) ∧ (w'.heap[gb210]? = some (.cells #[.string a0_0, .int .u64 a0_1, .int .u64 a0_2] 26 (0, 0))) ∧ (w'.heap[gb211]? = some (.cells #[.string a1_0, .int .u64 a1_1, .int .u64 a1_2] 26 (0, 0))) ∧ (Below w.heap.size w w')) ?_ ?_
                      rotate_left
                      · intro hJ0
                        refine join_ (σ := Unit) 8 #[false, false, true, true, false, true, true, true, false, true, true, false, true, true, false, false, false] (fun s_ => [(12, .string t215)]) (fun s_ w' => (w'.cell? ⟨gb210, 0, none⟩ = some (.string a0_0) ∧ w'.cell? ⟨gb210, 1, none⟩ = some (.int .u64 a0_1) ∧ w'.cell? ⟨gb210, 2, none⟩ = some (.int .u64 a0_2) ∧ w'.cell? ⟨gb211, 0, none⟩ = some (.string a1_0) ∧ w'.cell? ⟨gb211, 1, none⟩ = some (.int .u64 a1_1) ∧ w'.cell? ⟨gb211, 2, none⟩ = some (.int .u64 a1_2)) ∧ (w'.heap[gb210]? = some (.cells #[.string a0_0, .int .u64 a0_1, .int .u64 a0_2] 26 (0, 0))) ∧ (w'.heap[gb211]? = some (.cells #[.string a1_0, .int .u64 a1_1, .int .u64 a1_2] 26 (0, 0))) ∧ (Below w.heap.size w w')) ?_ ?_
                        rotate_left
                        · intro hJ7
                          refine two_ (i := 0) (j := 7) (Ni := some 5) (Nj := some 12) #[true, false, true, true, false, true, true, false, false, true, true, false, true, true, false, false, false] #[false, false, true, true, false, true, true, true, false, true, true, false, true, true, false, false, false] rfl rfl rfl rfl (two_of HT_.out (by kernel_rfl)) (by decide) (by decide) (fun K hK => ?_) (fun K hK => ?_)
                          · skip
                            refine Kd.R_lit_step (Kd.int .u8) _ 5 ?hg (N := 5) ?hd (xs := ([1] : List Int)) (inner := [.int .u8 1]) (ok := fun _ => True) (okp := fun _ => True) ?hr ?hp (fun _ hk => hk) trivial (Below.refl _ _) (Nat.le_refl _) (by simp) ?_; (case hd => rfl); (case hg => rfl); (case hr => first | (go_simp; done) | (go_simp; rfl)); (case hp => exact (Reps.one (show Kd.M (Kd.int .u8) _ _ _ 1 [.int .u8 1] from rfl) (Reps.none _ _)))
                            intro v213 w12 ho13 hb hg_ hnew_
                            clear hg_ hnew_
                            (first | rw [← Ny212.out] at ho13 | (simp only [Int.reduceToNat] at ho13; rw [← Ny212.out] at ho13))
                            have n0_ := Aside0.mk (Kd.R_lower ho13 (below_size (by repeat (first | (with_reducible first | exact HB.out | apply below_alloc | apply pw_below_drewN | apply below_drew1 | refine below_set ?_ GE210.out | refine below_set ?_ GE211.out) | exact HB.out))))
                            have n1_ := Aside0.mk (blk_below (g := gb210) (o := .cells #[.string a0_0, .int .u64 a0_1, .int .u64 a0_2] 26 (0, 0)) (by (with_reducible repeat (first | refine blk_drewN ?_ _ | refine blk_drew ?_ | refine blk_alloc ?_ _)); exact BK210.out) hb)
                            have n2_ := Aside0.mk (blk_below (g := gb211) (o := .cells #[.string a1_0, .int .u64 a1_1, .int .u64 a1_2] 26 (0, 0)) (by (with_reducible repeat (first | refine blk_drewN ?_ _ | refine blk_drew ?_ | refine blk_alloc ?_ _)); exact BK211.out) hb)
                            have n3_ := Aside0.mk (below_step (by repeat (first | (with_reducible first | exact HB.out | apply below_alloc | apply pw_below_drewN | apply below_drew1 | refine below_set ?_ GE210.out | refine below_set ?_ GE211.out) | exact HB.out)) hb)
                            clear BK210
                            clear BK211
                            clear HB
                            have HO214 := n0_
                            have BK210 := n1_
                            have BK211 := n2_
                            have HB := n3_
                            clear n0_ n1_ n2_ n3_
                            clear hb ho13
                            refine hK.out _ _ ⟨(blk_cell BK210.out 0).trans rfl, (blk_cell BK210.out 1).trans rfl, (blk_cell BK210.out 2).trans rfl, (blk_cell BK211.out 0).trans rfl, (blk_cell BK211.out 1).trans rfl, (blk_cell BK211.out 2).trans rfl⟩ (fun hHeld => ?_)
                            clear hK K
                            refine norm_ (a' := ?_) ?_ ?_
                            rotate_left
                            · show Act.put _ (some 5) _ = _
                              simp only [Act.put, List.setIfInBounds_toArray, List.set_cons_zero, List.set_cons_succ, i64_w, i32_w]
                              rfl
                            exact norm_ (by first | (simp only [putAll, Act.put, List.setIfInBounds_toArray, List.set_cons_zero, List.set_cons_succ]; done) | (simp only [putAll, Act.put, List.setIfInBounds_toArray, List.set_cons_zero, List.set_cons_succ]; rfl)) (hJ0 (v213) _ ⟨hHeld, (by (with_reducible repeat (first | apply Kd.R_alloc | apply Kd.R_drewN | apply Kd.R_drew)); exact HO214.out), (by (with_reducible repeat (first | refine blk_drewN ?_ _ | refine blk_drew ?_ | refine blk_alloc ?_ _)); exact BK210.out), (by (with_reducible repeat (first | refine blk_drewN ?_ _ | refine blk_drew ?_ | refine blk_alloc ?_ _)); exact BK211.out), (by repeat (first | (with_reducible first | exact HB.out | apply below_alloc | apply pw_below_drewN | apply below_drew1 | refine below_set ?_ GE210.out | refine below_set ?_ GE211.out) | exact HB.out))⟩)
                          · skip
                            refine goes_ Tryd.func76 (by kernel_rfl) rfl #[.agg #[.int .u64 a0_1, .int .u64 a0_2]] (by rfl) rfl rfl (by (try simp only [List.map_toArray, List.map_cons, List.map_nil]); first | done | rfl | (simp only [List.length_drop, List.length_take]; rfl)) ?_
                            with_reducible refine (u128_Bytes.calls a0_1 a0_2 t215 _ A4.out).mono ?_
                            rintro e w12 ⟨rfl, hb⟩
                            refine ⟨_, rfl, ?_⟩
                            have n0_ := Aside0.mk (blk_below (g := gb210) (o := .cells #[.string a0_0, .int .u64 a0_1, .int .u64 a0_2] 26 (0, 0)) (by (with_reducible repeat (first | refine blk_drewN ?_ _ | refine blk_drew ?_ | refine blk_alloc ?_ _)); exact BK210.out) hb)
                            have n1_ := Aside0.mk (blk_below (g := gb211) (o := .cells #[.string a1_0, .int .u64 a1_1, .int .u64 a1_2] 26 (0, 0)) (by (with_reducible repeat (first | refine blk_drewN ?_ _ | refine blk_drew ?_ | refine blk_alloc ?_ _)); exact BK211.out) hb)
                            have n2_ := Aside0.mk (below_step (by repeat (first | (with_reducible first | exact HB.out | apply below_alloc | apply pw_below_drewN | apply below_drew1 | refine below_set ?_ GE210.out | refine below_set ?_ GE211.out) | exact HB.out)) hb)
                            clear BK210
                            clear BK211
                            clear HB
                            have BK210 := n0_
                            have BK211 := n1_
                            have HB := n2_
                            clear n0_ n1_ n2_
                            (try clear hb)
                            (try clear hb2)
                            (try clear hk)
                            (try clear hi)
                            refine hK.out _ _ ⟨(blk_cell BK210.out 0).trans rfl, (blk_cell BK210.out 1).trans rfl, (blk_cell BK210.out 2).trans rfl, (blk_cell BK211.out 0).trans rfl, (blk_cell BK211.out 1).trans rfl, (blk_cell BK211.out 2).trans rfl⟩ (fun hHeld => ?_)
                            clear hK K
                            refine norm_ (a' := ?_) ?_ ?_
                            rotate_left
                            · show Act.put _ (some 12) _ = _
                              simp only [Act.put, List.setIfInBounds_toArray, List.set_cons_zero, List.set_cons_succ, i64_w, i32_w]
                              rfl
                            exact norm_ (by first | (simp only [putAll, Act.put, List.setIfInBounds_toArray, List.set_cons_zero, List.set_cons_succ]; done) | (simp only [putAll, Act.put, List.setIfInBounds_toArray, List.set_cons_zero, List.set_cons_succ]; rfl)) (hJ7 () _ ⟨hHeld, (by (with_reducible repeat (first | refine blk_drewN ?_ _ | refine blk_drew ?_ | refine blk_alloc ?_ _)); exact BK210.out), (by (with_reducible repeat (first | refine blk_drewN ?_ _ | refine blk_drew ?_ | refine blk_alloc ?_ _)); exact BK211.out), (by repeat (first | (with_reducible first | exact HB.out | apply below_alloc | apply pw_below_drewN | apply below_drew1 | refine below_set ?_ GE210.out | refine below_set ?_ GE211.out) | exact HB.out))⟩)
                        · skip
                          rintro _ w13 ⟨hS_, h0_, h1_, h2_⟩
                          have n0_ : Aside0 (w13.heap[gb210]? = some (.cells #[.string a0_0, .int .u64 a0_1, .int .u64 a0_2] 26 (0, 0))) := ⟨h0_⟩
                          have n1_ : Aside0 (w13.heap[gb211]? = some (.cells #[.string a1_0, .int .u64 a1_1, .int .u64 a1_2] 26 (0, 0))) := ⟨h1_⟩
                          have n2_ : Aside0 (Below w.heap.size w w13) := ⟨h2_⟩
                          clear BK210
                          clear BK211
                          clear HB
                          clear h0_ h1_ h2_
                          have BK210 := n0_
                          have BK211 := n1_
                          have HB := n2_
                          clear n0_ n1_ n2_
                          have hHeld : w13.cell? ⟨gb210, 0, none⟩ = some (.string a0_0) ∧ w13.cell? ⟨gb210, 1, none⟩ = some (.int .u64 a0_1) ∧ w13.cell? ⟨gb210, 2, none⟩ = some (.int .u64 a0_2) ∧ w13.cell? ⟨gb211, 0, none⟩ = some (.string a1_0) ∧ w13.cell? ⟨gb211, 1, none⟩ = some (.int .u64 a1_1) ∧ w13.cell? ⟨gb211, 2, none⟩ = some (.int .u64 a1_2) := hS_
                          refine norm_ (a' := ?_) ?_ ?_
                          rotate_left
                          · simp only [putAll, Act.put, List.setIfInBounds_toArray, List.set_cons_zero, List.set_cons_succ]
                            rfl
                          refine two_ (i := 0) (j := 14) (Ni := some 5) (Nj := some 19) #[true, false, true, true, false, true, true, true, false, true, true, false, true, true, false, false, false] #[false, false, true, true, false, true, true, true, false, true, true, false, true, true, true, false, false] rfl rfl rfl rfl (two_of HT_.out (by kernel_rfl)) (by decide) (by decide) (fun K hK => ?_) (fun K hK => ?_)
                          · skip
                            refine Kd.R_lit_step (Kd.int .u8) _ 5 ?hg (N := 5) ?hd (xs := ([1] : List Int)) (inner := [.int .u8 1]) (ok := fun _ => True) (okp := fun _ => True) ?hr ?hp (fun _ hk => hk) trivial (Below.refl _ _) (Nat.le_refl _) (by simp) ?_; (case hd => rfl); (case hg => rfl); (case hr => first | (go_simp; done) | (go_simp; rfl)); (case hp => exact (Reps.one (show Kd.M (Kd.int .u8) _ _ _ 1 [.int .u8 1] from rfl) (Reps.none _ _)))
                            intro v213 w14 ho15 hb hg_ hnew_
                            clear hg_ hnew_
                            (first | rw [← Ny212.out] at ho15 | (simp only [Int.reduceToNat] at ho15; rw [← Ny212.out] at ho15))
                            have n0_ := Aside0.mk (Kd.R_lower ho15 (below_size (by repeat (first | (with_reducible first | exact HB.out | apply below_alloc | apply pw_below_drewN | apply below_drew1 | refine below_set ?_ GE210.out | refine below_set ?_ GE211.out) | exact HB.out))))
                            have n1_ := Aside0.mk (blk_below (g := gb210) (o := .cells #[.string a0_0, .int .u64 a0_1, .int .u64 a0_2] 26 (0, 0)) (by (with_reducible repeat (first | refine blk_drewN ?_ _ | refine blk_drew ?_ | refine blk_alloc ?_ _)); exact BK210.out) hb)
                            have n2_ := Aside0.mk (blk_below (g := gb211) (o := .cells #[.string a1_0, .int .u64 a1_1, .int .u64 a1_2] 26 (0, 0)) (by (with_reducible repeat (first | refine blk_drewN ?_ _ | refine blk_drew ?_ | refine blk_alloc ?_ _)); exact BK211.out) hb)
                            have n3_ := Aside0.mk (below_step (by repeat (first | (with_reducible first | exact HB.out | apply below_alloc | apply pw_below_drewN | apply below_drew1 | refine below_set ?_ GE210.out | refine below_set ?_ GE211.out) | exact HB.out)) hb)
                            clear BK210
                            clear BK211
                            clear HB
                            have HO214 := n0_
                            have BK210 := n1_
                            have BK211 := n2_
                            have HB := n3_
                            clear n0_ n1_ n2_ n3_
                            clear hb ho15
                            refine hK.out _ _ ⟨(blk_cell BK210.out 0).trans rfl, (blk_cell BK210.out 1).trans rfl, (blk_cell BK210.out 2).trans rfl, (blk_cell BK211.out 0).trans rfl, (blk_cell BK211.out 1).trans rfl, (blk_cell BK211.out 2).trans rfl⟩ (fun hHeld => ?_)
                            clear hK K
                            refine norm_ (a' := ?_) ?_ ?_
                            rotate_left
                            · show Act.put _ (some 5) _ = _
                              simp only [Act.put, List.setIfInBounds_toArray, List.set_cons_zero, List.set_cons_succ, i64_w, i32_w]
                              rfl
                            exact norm_ (by first | (simp only [putAll, Act.put, List.setIfInBounds_toArray, List.set_cons_zero, List.set_cons_succ]; done) | (simp only [putAll, Act.put, List.setIfInBounds_toArray, List.set_cons_zero, List.set_cons_succ]; rfl)) (hJ0_7 (v213) _ ⟨hHeld, (by (with_reducible repeat (first | apply Kd.R_alloc | apply Kd.R_drewN | apply Kd.R_drew)); exact HO214.out), (by (with_reducible repeat (first | refine blk_drewN ?_ _ | refine blk_drew ?_ | refine blk_alloc ?_ _)); exact BK210.out), (by (with_reducible repeat (first | refine blk_drewN ?_ _ | refine blk_drew ?_ | refine blk_alloc ?_ _)); exact BK211.out), (by repeat (first | (with_reducible first | exact HB.out | apply below_alloc | apply pw_below_drewN | apply below_drew1 | refine below_set ?_ GE210.out | refine below_set ?_ GE211.out) | exact HB.out))⟩)
                          · skip
                            refine goes_ Tryd.func76 (by kernel_rfl) rfl #[.agg #[.int .u64 a1_1, .int .u64 a1_2]] (by rfl) rfl rfl (by (try simp only [List.map_toArray, List.map_cons, List.map_nil]); first | done | rfl | (simp only [List.length_drop, List.length_take]; rfl)) ?_
                            with_reducible refine (u128_Bytes.calls a1_1 a1_2 t216 _ A7.out).mono ?_
                            rintro e w14 ⟨rfl, hb⟩
                            refine ⟨_, rfl, ?_⟩
                            have n0_ := Aside0.mk (blk_below (g := gb210) (o := .cells #[.string a0_0, .int .u64 a0_1, .int .u64 a0_2] 26 (0, 0)) (by (with_reducible repeat (first | refine blk_drewN ?_ _ | refine blk_drew ?_ | refine blk_alloc ?_ _)); exact BK210.out) hb)
                            have n1_ := Aside0.mk (blk_below (g := gb211) (o := .cells #[.string a1_0, .int .u64 a1_1, .int .u64 a1_2] 26 (0, 0)) (by (with_reducible repeat (first | refine blk_drewN ?_ _ | refine blk_drew ?_ | refine blk_alloc ?_ _)); exact BK211.out) hb)
                            have n2_ := Aside0.mk (below_step (by repeat (first | (with_reducible first | exact HB.out | apply below_alloc | apply pw_below_drewN | apply below_drew1 | refine below_set ?_ GE210.out | refine below_set ?_ GE211.out) | exact HB.out)) hb)
                            clear BK210
                            clear BK211
                            clear HB
                            have BK210 := n0_
                            have BK211 := n1_
                            have HB := n2_
                            clear n0_ n1_ n2_
                            (try clear hb)
                            (try clear hb2)
                            (try clear hk)
                            (try clear hi)
                            refine hK.out _ _ ⟨(blk_cell BK210.out 0).trans rfl, (blk_cell BK210.out 1).trans rfl, (blk_cell BK210.out 2).trans rfl, (blk_cell BK211.out 0).trans rfl, (blk_cell BK211.out 1).trans rfl, (blk_cell BK211.out 2).trans rfl⟩ (fun hHeld => ?_)
                            clear hK K
                            refine norm_ (a' := ?_) ?_ ?_
                            rotate_left
                            · show Act.put _ (some 19) _ = _
                              simp only [Act.put, List.setIfInBounds_toArray, List.set_cons_zero, List.set_cons_succ, i64_w, i32_w]
                              rfl
                            exact norm_ (by first | (simp only [putAll, Act.put, List.setIfInBounds_toArray, List.set_cons_zero, List.set_cons_succ]; done) | (simp only [putAll, Act.put, List.setIfInBounds_toArray, List.set_cons_zero, List.set_cons_succ]; rfl)) (hJ7_14 () _ ⟨hHeld, (by (with_reducible repeat (first | refine blk_drewN ?_ _ | refine blk_drew ?_ | refine blk_alloc ?_ _)); exact BK210.out), (by (with_reducible repeat (first | refine blk_drewN ?_ _ | refine blk_drew ?_ | refine blk_alloc ?_ _)); exact BK211.out), (by repeat (first | (with_reducible first | exact HB.out | apply below_alloc | apply pw_below_drewN | apply below_drew1 | refine below_set ?_ GE210.out | refine below_set ?_ GE211.out) | exact HB.out))⟩)
                      · skip
                        rintro v213 w14 ⟨hS_, h0_, h1_, h2_, h3_⟩
                        have n0_ : Aside0 (Kd.R (Kd.int .u8) 5 w14 w.heap.size (fun _ => True) v213 y212) := ⟨h0_⟩
                        have n1_ : Aside0 (w14.heap[gb210]? = some (.cells #[.string a0_0, .int .u64 a0_1, .int .u64 a0_2] 26 (0, 0))) := ⟨h1_⟩
                        have n2_ : Aside0 (w14.heap[gb211]? = some (.cells #[.string a1_0, .int .u64 a1_1, .int .u64 a1_2] 26 (0, 0))) := ⟨h2_⟩
                        have n3_ : Aside0 (Below w.heap.size w w14) := ⟨h3_⟩
                        clear BK210
                        clear BK211
                        clear HB
                        clear h0_ h1_ h2_ h3_
                        have HO214 := n0_
                        have BK210 := n1_
                        have BK211 := n2_
                        have HB := n3_
                        clear n0_ n1_ n2_ n3_
                        have hHeld : w14.cell? ⟨gb210, 0, none⟩ = some (.string a0_0) ∧ w14.cell? ⟨gb210, 1, none⟩ = some (.int .u64 a0_1) ∧ w14.cell? ⟨gb210, 2, none⟩ = some (.int .u64 a0_2) ∧ w14.cell? ⟨gb211, 0, none⟩ = some (.string a1_0) ∧ w14.cell? ⟨gb211, 1, none⟩ = some (.int .u64 a1_1) ∧ w14.cell? ⟨gb211, 2, none⟩ = some (.int .u64 a1_2) := hS_
                        refine norm_ (a' := ?_) ?_ ?_
                        rotate_left
                        · simp only [putAll, Act.put, List.setIfInBounds_toArray, List.set_cons_zero, List.set_cons_succ]
                          rfl
                        refine two_ (i := 1) (j := 7) (Ni := some 6) (Nj := some 12) #[true, true, true, true, false, true, true, false, false, true, true, false, true, true, false, false, false] #[true, false, true, true, false, true, true, true, false, true, true, false, true, true, false, false, false] rfl rfl rfl rfl (two_of HT_.out (by kernel_rfl)) (by decide) (by decide) (fun K hK => ?_) (fun K hK => ?_)
                        · skip
                          have hcv15 := own_string (P := Tryd.prog) Tryd.underlying56 Tryd.underlying5 Tryd.underlying9 (Kd.own_of_R HO214.out)
                          refine value_ (w1 := ?_) (v := ?_) (by rfl) rfl ?_ ?_
                          rotate_left 2
                          · go_simp
                            constructor
                            · rfl
                            · rfl
                          clear hcv15
                          refine hK.out _ _ ⟨(blk_cell BK210.out 0).trans rfl, (blk_cell BK210.out 1).trans rfl, (blk_cell BK210.out 2).trans rfl, (blk_cell BK211.out 0).trans rfl, (blk_cell BK211.out 1).trans rfl, (blk_cell BK211.out 2).trans rfl⟩ (fun hHeld => ?_)
                          clear hK K
                          refine norm_ (a' := ?_) ?_ ?_
                          rotate_left
                          · show Act.put _ (some 6) _ = _
                            simp only [Act.put, List.setIfInBounds_toArray, List.set_cons_zero, List.set_cons_succ, i64_w, i32_w]
                            rfl
                          refine pure_ (i := 4) (N := some 9) (v := ?_) (a' := ?_) #[true, true, true, true, true, true, true, false, false, true, true, false, true, true, false, false, false] rfl rfl (any_of HT_.out (by kernel_rfl)) (fun _ _ _ h => h) (Or.inl ⟨by rfl, ?_⟩) ?_ ?_
                          rotate_left
                          · intro w'
                            go_simp
                            with_reducible rfl
                          rotate_left
                          · simp only [Act.put, List.setIfInBounds_toArray, List.set_cons_zero, List.set_cons_succ, i64_w, i32_w]
                            rfl
                          exact norm_ (by first | (simp only [putAll, Act.put, List.setIfInBounds_toArray, List.set_cons_zero, List.set_cons_succ]; done) | (simp only [putAll, Act.put, List.setIfInBounds_toArray, List.set_cons_zero, List.set_cons_succ]; rfl)) (hJ0_1 (v213) _ ⟨hHeld, (by (with_reducible repeat (first | apply Kd.R_alloc | apply Kd.R_drewN | apply Kd.R_drew)); exact HO214.out), (by (with_reducible repeat (first | refine blk_drewN ?_ _ | refine blk_drew ?_ | refine blk_alloc ?_ _)); exact BK210.out), (by (with_reducible repeat (first | refine blk_drewN ?_ _ | refine blk_drew ?_ | refine blk_alloc ?_ _)); exact BK211.out), (by repeat (first | (with_reducible first | exact HB.out | apply below_alloc | apply pw_below_drewN | apply below_drew1 | refine below_set ?_ GE210.out | refine below_set ?_ GE211.out) | exact HB.out))⟩)
                        · skip
                          refine goes_ Tryd.func76 (by kernel_rfl) rfl #[.agg #[.int .u64 a0_1, .int .u64 a0_2]] (by rfl) rfl rfl (by (try simp only [List.map_toArray, List.map_cons, List.map_nil]); first | done | rfl | (simp only [List.length_drop, List.length_take]; rfl)) ?_
                          with_reducible refine (u128_Bytes.calls a0_1 a0_2 t215 _ A4.out).mono ?_
                          rintro e w15 ⟨rfl, hb⟩
                          refine ⟨_, rfl, ?_⟩
                          have n0_ := Aside0.mk (Kd.R_below (by (with_reducible repeat (first | apply Kd.R_alloc | apply Kd.R_drewN | apply Kd.R_drew)); exact HO214.out) hb)
                          have n1_ := Aside0.mk (blk_below (g := gb210) (o := .cells #[.string a0_0, .int .u64 a0_1, .int .u64 a0_2] 26 (0, 0)) (by (with_reducible repeat (first | refine blk_drewN ?_ _ | refine blk_drew ?_ | refine blk_alloc ?_ _)); exact BK210.out) hb)
                          have n2_ := Aside0.mk (blk_below (g := gb211) (o := .cells #[.string a1_0, .int .u64 a1_1, .int .u64 a1_2] 26 (0, 0)) (by (with_reducible repeat (first | refine blk_drewN ?_ _ | refine blk_drew ?_ | refine blk_alloc ?_ _)); exact BK211.out) hb)
                          have n3_ := Aside0.mk (below_step (by repeat (first | (with_reducible first | exact HB.out | apply below_alloc | apply pw_below_drewN | apply below_drew1 | refine below_set ?_ GE210.out | refine below_set ?_ GE211.out) | exact HB.out)) hb)
                          clear HO214
                          clear BK210
                          clear BK211
                          clear HB
                          have HO214 := n0_
                          have BK210 := n1_
                          have BK211 := n2_
                          have HB := n3_
                          clear n0_ n1_ n2_ n3_
                          (try clear hb)
                          (try clear hb2)
                          (try clear hk)
                          (try clear hi)
                          refine hK.out _ _ ⟨(blk_cell BK210.out 0).trans rfl, (blk_cell BK210.out 1).trans rfl, (blk_cell BK210.out 2).trans rfl, (blk_cell BK211.out 0).trans rfl, (blk_cell BK211.out 1).trans rfl, (blk_cell BK211.out 2).trans rfl⟩ (fun hHeld => ?_)
                          clear hK K
                          refine norm_ (a' := ?_) ?_ ?_
                          rotate_left
                          · show Act.put _ (some 12) _ = _
                            simp only [Act.put, List.setIfInBounds_toArray, List.set_cons_zero, List.set_cons_succ, i64_w, i32_w]
                            rfl
                          exact norm_ (by first | (simp only [putAll, Act.put, List.setIfInBounds_toArray, List.set_cons_zero, List.set_cons_succ]; done) | (simp only [putAll, Act.put, List.setIfInBounds_toArray, List.set_cons_zero, List.set_cons_succ]; rfl)) (hJ0_7 (v213) _ ⟨hHeld, (by (with_reducible repeat (first | apply Kd.R_alloc | apply Kd.R_drewN | apply Kd.R_drew)); exact HO214.out), (by (with_reducible repeat (first | refine blk_drewN ?_ _ | refine blk_drew ?_ | refine blk_alloc ?_ _)); exact BK210.out), (by (with_reducible repeat (first | refine blk_drewN ?_ _ | refine blk_drew ?_ | refine blk_alloc ?_ _)); exact BK211.out), (by repeat (first | (with_reducible first | exact HB.out | apply below_alloc | apply pw_below_drewN | apply below_drew1 | refine below_set ?_ GE210.out | refine below_set ?_ GE211.out) | exact HB.out))⟩)
                    · skip
                      rintro _ w14 ⟨hS_, h0_, h1_, h2_⟩
                      have n0_ : Aside0 (w14.heap[gb210]? = some (.cells #[.string a0_0, .int .u64 a0_1, .int .u64 a0_2] 26 (0, 0))) := ⟨h0_⟩
                      have n1_ : Aside0 (w14.heap[gb211]? = some (.cells #[.string a1_0, .int .u64 a1_1, .int .u64 a1_2] 26 (0, 0))) := ⟨h1_⟩
                      have n2_ : Aside0 (Below w.heap.size w w14) := ⟨h2_⟩
                      clear BK210
                      clear BK211
                      clear HB
                      clear h0_ h1_ h2_
                      have BK210 := n0_
                      have BK211 := n1_
                      have HB := n2_
                      clear n0_ n1_ n2_
                      have hHeld : w14.cell? ⟨gb210, 0, none⟩ = some (.string a0_0) ∧ w14.cell? ⟨gb210, 1, none⟩ = some (.int .u64 a0_1) ∧ w14.cell? ⟨gb210, 2, none⟩ = some (.int .u64 a0_2) ∧ w14.cell? ⟨gb211, 0, none⟩ = some (.string a1_0) ∧ w14.cell? ⟨gb211, 1, none⟩ = some (.int .u64 a1_1) ∧ w14.cell? ⟨gb211, 2, none⟩ = some (.int .u64 a1_2) := hS_
                      refine norm_ (a' := ?_) ?_ ?_
                      rotate_left
                      · simp only [putAll, Act.put, List.setIfInBounds_toArray, List.set_cons_zero, List.set_cons_succ]
                        rfl
                      refine one_ (i := 0) (N := some 5) #[true, false, true, true, false, true, true, true, false, true, true, false, true, true, true, false, false] rfl rfl (one_of HT_.out (by kernel_rfl)) (by decide) (fun K hK => ?_)
                      refine Kd.R_lit_step (Kd.int .u8) _ 5 ?hg (N := 5) ?hd (xs := ([1] : List Int)) (inner := [.int .u8 1]) (ok := fun _ => True) (okp := fun _ => True) ?hr ?hp (fun _ hk => hk) trivial (Below.refl _ _) (Nat.le_refl _) (by simp) ?_; (case hd => rfl); (case hg => rfl); (case hr => first | (go_simp; done) | (go_simp; rfl)); (case hp => exact (Reps.one (show Kd.M (Kd.int .u8) _ _ _ 1 [.int .u8 1] from rfl) (Reps.none _ _)))
                      intro v213 w15 ho16 hb hg_ hnew_
                      clear hg_ hnew_
                      (first | rw [← Ny212.out] at ho16 | (simp only [Int.reduceToNat] at ho16; rw [← Ny212.out] at ho16))
                      have n0_ := Aside0.mk (Kd.R_lower ho16 (below_size (by repeat (first | (with_reducible first | exact HB.out | apply below_alloc | apply pw_below_drewN | apply below_drew1 | refine below_set ?_ GE210.out | refine below_set ?_ GE211.out) | exact HB.out))))
                      have n1_ := Aside0.mk (blk_below (g := gb210) (o := .cells #[.string a0_0, .int .u64 a0_1, .int .u64 a0_2] 26 (0, 0)) (by (with_reducible repeat (first | refine blk_drewN ?_ _ | refine blk_drew ?_ | refine blk_alloc ?_ _)); exact BK210.out) hb)
                      have n2_ := Aside0.mk (blk_below (g := gb211) (o := .cells #[.string a1_0, .int .u64 a1_1, .int .u64 a1_2] 26 (0, 0)) (by (with_reducible repeat (first | refine blk_drewN ?_ _ | refine blk_drew ?_ | refine blk_alloc ?_ _)); exact BK211.out) hb)
                      have n3_ := Aside0.mk (below_step (by repeat (first | (with_reducible first | exact HB.out | apply below_alloc | apply pw_below_drewN | apply below_drew1 | refine below_set ?_ GE210.out | refine below_set ?_ GE211.out) | exact HB.out)) hb)
                      clear BK210
                      clear BK211
                      clear HB
                      have HO214 := n0_
                      have BK210 := n1_
                      have BK211 := n2_
                      have HB := n3_
                      clear n0_ n1_ n2_ n3_
                      clear hb ho16
                      refine hK.out _ _ ⟨(blk_cell BK210.out 0).trans rfl, (blk_cell BK210.out 1).trans rfl, (blk_cell BK210.out 2).trans rfl, (blk_cell BK211.out 0).trans rfl, (blk_cell BK211.out 1).trans rfl, (blk_cell BK211.out 2).trans rfl⟩ (fun hHeld => ?_)
                      clear hK K
                      refine norm_ (a' := ?_) ?_ ?_
                      rotate_left
                      · show Act.put _ (some 5) _ = _
                        simp only [Act.put, List.setIfInBounds_toArray, List.set_cons_zero, List.set_cons_succ, i64_w, i32_w]
                        rfl
                      exact norm_ (by first | (simp only [putAll, Act.put, List.setIfInBounds_toArray, List.set_cons_zero, List.set_cons_succ]; done) | (simp only [putAll, Act.put, List.setIfInBounds_toArray, List.set_cons_zero, List.set_cons_succ]; rfl)) (hJ0_7_14 (v213) _ ⟨hHeld, (by (with_reducible repeat (first | apply Kd.R_alloc | apply Kd.R_drewN | apply Kd.R_drew)); exact HO214.out), (by (with_reducible repeat (first | refine blk_drewN ?_ _ | refine blk_drew ?_ | refine blk_alloc ?_ _)); exact BK210.out), (by (with_reducible repeat (first | refine blk_drewN ?_ _ | refine blk_drew ?_ | refine blk_alloc ?_ _)); exact BK211.out), (by repeat (first | (with_reducible first | exact HB.out | apply below_alloc | apply pw_below_drewN | apply below_drew1 | refine below_set ?_ GE210.out | refine below_set ?_ GE211.out) | exact HB.out))⟩)
                  · skip
                    rintro v213 w15 ⟨hS_, h0_, h1_, h2_, h3_⟩
                    have n0_ : Aside0 (Kd.R (Kd.int .u8) 5 w15 w.heap.size (fun _ => True) v213 y212) := ⟨h0_⟩
                    have n1_ : Aside0 (w15.heap[gb210]? = some (.cells #[.string a0_0, .int .u64 a0_1, .int .u64 a0_2] 26 (0, 0))) := ⟨h1_⟩
                    have n2_ : Aside0 (w15.heap[gb211]? = some (.cells #[.string a1_0, .int .u64 a1_1, .int .u64 a1_2] 26 (0, 0))) := ⟨h2_⟩
                    have n3_ : Aside0 (Below w.heap.size w w15) := ⟨h3_⟩
                    clear BK210
                    clear BK211
                    clear HB
                    clear h0_ h1_ h2_ h3_
                    have HO214 := n0_
                    have BK210 := n1_
                    have BK211 := n2_
                    have HB := n3_
                    clear n0_ n1_ n2_ n3_
                    have hHeld : w15.cell? ⟨gb210, 0, none⟩ = some (.string a0_0) ∧ w15.cell? ⟨gb210, 1, none⟩ = some (.int .u64 a0_1) ∧ w15.cell? ⟨gb210, 2, none⟩ = some (.int .u64 a0_2) ∧ w15.cell? ⟨gb211, 0, none⟩ = some (.string a1_0) ∧ w15.cell? ⟨gb211, 1, none⟩ = some (.int .u64 a1_1) ∧ w15.cell? ⟨gb211, 2, none⟩ = some (.int .u64 a1_2) := hS_
                    refine norm_ (a' := ?_) ?_ ?_
                    rotate_left
                    · simp only [putAll, Act.put, List.setIfInBounds_toArray, List.set_cons_zero, List.set_cons_succ]
                      rfl
                    refine two_ (i := 1) (j := 14) (Ni := some 6) (Nj := some 19) #[true, true, true, true, false, true, true, true, false, true, true, false, true, true, false, false, false] #[true, false, true, true, false, true, true, true, false, true, true, false, true, true, true, false, false] rfl rfl rfl rfl (two_of HT_.out (by kernel_rfl)) (by decide) (by decide) (fun K hK => ?_) (fun K hK => ?_)
                    · skip
                      have hcv16 := own_string (P := Tryd.prog) Tryd.underlying56 Tryd.underlying5 Tryd.underlying9 (Kd.own_of_R HO214.out)
                      refine value_ (w1 := ?_) (v := ?_) (by rfl) rfl ?_ ?_
                      rotate_left 2
                      · go_simp
                        constructor
                        · rfl
                        · rfl
                      clear hcv16
                      refine hK.out _ _ ⟨(blk_cell BK210.out 0).trans rfl, (blk_cell BK210.out 1).trans rfl, (blk_cell BK210.out 2).trans rfl, (blk_cell BK211.out 0).trans rfl, (blk_cell BK211.out 1).trans rfl, (blk_cell BK211.out 2).trans rfl⟩ (fun hHeld => ?_)
                      clear hK K
                      refine norm_ (a' := ?_) ?_ ?_
                      rotate_left
                      · show Act.put _ (some 6) _ = _
                        simp only [Act.put, List.setIfInBounds_toArray, List.set_cons_zero, List.set_cons_succ, i64_w, i32_w]
                        rfl
                      refine pure_ (i := 4) (N := some 9) (v := ?_) (a' := ?_) #[true, true, true, true, true, true, true, true, false, true, true, false, true, true, false, false, false] rfl rfl (any_of HT_.out (by kernel_rfl)) (fun _ _ _ h => h) (Or.inl ⟨by rfl, ?_⟩) ?_ ?_
                      rotate_left
                      · intro w'
                        go_simp
                        with_reducible rfl
                      rotate_left
                      · simp only [Act.put, List.setIfInBounds_toArray, List.set_cons_zero, List.set_cons_succ, i64_w, i32_w]
                        rfl
                      refine pure_ (i := 8) (N := some 13) (v := ?_) (a' := ?_) #[true, true, true, true, true, true, true, true, true, true, true, false, true, true, false, false, false] rfl rfl (any_of HT_.out (by kernel_rfl)) (fun _ _ _ h => h) (Or.inl ⟨by rfl, ?_⟩) ?_ ?_
                      rotate_left
                      · intro w'
                        go_simp
                        with_reducible rfl
                      rotate_left
                      · simp only [Act.put, List.setIfInBounds_toArray, List.set_cons_zero, List.set_cons_succ, i64_w, i32_w]
                        rfl
                      refine pure_ (i := 11) (N := some 16) (v := ?_) (a' := ?_) #[true, true, true, true, true, true, true, true, true, true, true, true, true, true, false, false, false] rfl rfl (any_of HT_.out (by kernel_rfl)) (fun _ _ _ h => h) (Or.inl ⟨by rfl, ?_⟩) ?_ ?_
                      rotate_left
                      · intro w'
                        go_simp
                        with_reducible rfl
                      rotate_left
                      · simp only [Act.put, List.setIfInBounds_toArray, List.set_cons_zero, List.set_cons_succ, i64_w, i32_w]
                        rfl
                      exact norm_ (by first | (simp only [putAll, Act.put, List.setIfInBounds_toArray, List.set_cons_zero, List.set_cons_succ]; done) | (simp only [putAll, Act.put, List.setIfInBounds_toArray, List.set_cons_zero, List.set_cons_succ]; rfl)) (hJ0_1_7 (v213) _ ⟨hHeld, (by (with_reducible repeat (first | apply Kd.R_alloc | apply Kd.R_drewN | apply Kd.R_drew)); exact HO214.out), (by (with_reducible repeat (first | refine blk_drewN ?_ _ | refine blk_drew ?_ | refine blk_alloc ?_ _)); exact BK210.out), (by (with_reducible repeat (first | refine blk_drewN ?_ _ | refine blk_drew ?_ | refine blk_alloc ?_ _)); exact BK211.out), (by repeat (first | (with_reducible first | exact HB.out | apply below_alloc | apply pw_below_drewN | apply below_drew1 | refine below_set ?_ GE210.out | refine below_set ?_ GE211.out) | exact HB.out))⟩)
                    · skip
                      refine goes_ Tryd.func76 (by kernel_rfl) rfl #[.agg #[.int .u64 a1_1, .int .u64 a1_2]] (by rfl) rfl rfl (by (try simp only [List.map_toArray, List.map_cons, List.map_nil]); first | done | rfl | (simp only [List.length_drop, List.length_take]; rfl)) ?_
                      with_reducible refine (u128_Bytes.calls a1_1 a1_2 t216 _ A7.out).mono ?_
                      rintro e w16 ⟨rfl, hb⟩
                      refine ⟨_, rfl, ?_⟩
                      have n0_ := Aside0.mk (Kd.R_below (by (with_reducible repeat (first | apply Kd.R_alloc | apply Kd.R_drewN | apply Kd.R_drew)); exact HO214.out) hb)
                      have n1_ := Aside0.mk (blk_below (g := gb210) (o := .cells #[.string a0_0, .int .u64 a0_1, .int .u64 a0_2] 26 (0, 0)) (by (with_reducible repeat (first | refine blk_drewN ?_ _ | refine blk_drew ?_ | refine blk_alloc ?_ _)); exact BK210.out) hb)
                      have n2_ := Aside0.mk (blk_below (g := gb211) (o := .cells #[.string a1_0, .int .u64 a1_1, .int .u64 a1_2] 26 (0, 0)) (by (with_reducible repeat (first | refine blk_drewN ?_ _ | refine blk_drew ?_ | refine blk_alloc ?_ _)); exact BK211.out) hb)
                      have n3_ := Aside0.mk (below_step (by repeat (first | (with_reducible first | exact HB.out | apply below_alloc | apply pw_below_drewN | apply below_drew1 | refine below_set ?_ GE210.out | refine below_set ?_ GE211.out) | exact HB.out)) hb)
                      clear HO214
                      clear BK210
                      clear BK211
                      clear HB
                      have HO214 := n0_
                      have BK210 := n1_
                      have BK211 := n2_
                      have HB := n3_
                      clear n0_ n1_ n2_ n3_
                      (try clear hb)
                      (try clear hb2)
                      (try clear hk)
                      (try clear hi)
                      refine hK.out _ _ ⟨(blk_cell BK210.out 0).trans rfl, (blk_cell BK210.out 1).trans rfl, (blk_cell BK210.out 2).trans rfl, (blk_cell BK211.out 0).trans rfl, (blk_cell BK211.out 1).trans rfl, (blk_cell BK211.out 2).trans rfl⟩ (fun hHeld => ?_)
                      clear hK K
                      refine norm_ (a' := ?_) ?_ ?_
                      rotate_left
                      · show Act.put _ (some 19) _ = _
                        simp only [Act.put, List.setIfInBounds_toArray, List.set_cons_zero, List.set_cons_succ, i64_w, i32_w]
                        rfl
                      exact norm_ (by first | (simp only [putAll, Act.put, List.setIfInBounds_toArray, List.set_cons_zero, List.set_cons_succ]; done) | (simp only [putAll, Act.put, List.setIfInBounds_toArray, List.set_cons_zero, List.set_cons_succ]; rfl)) (hJ0_7_14 (v213) _ ⟨hHeld, (by (with_reducible repeat (first | apply Kd.R_alloc | apply Kd.R_drewN | apply Kd.R_drew)); exact HO214.out), (by (with_reducible repeat (first | refine blk_drewN ?_ _ | refine blk_drew ?_ | refine blk_alloc ?_ _)); exact BK210.out), (by (with_reducible repeat (first | refine blk_drewN ?_ _ | refine blk_drew ?_ | refine blk_alloc ?_ _)); exact BK211.out), (by repeat (first | (with_reducible first | exact HB.out | apply below_alloc | apply pw_below_drewN | apply below_drew1 | refine below_set ?_ GE210.out | refine below_set ?_ GE211.out) | exact HB.out))⟩)
                · skip
                  rintro v213 w15 ⟨hS_, h0_, h1_, h2_, h3_⟩
                  have n0_ : Aside0 (Kd.R (Kd.int .u8) 5 w15 w.heap.size (fun _ => True) v213 y212) := ⟨h0_⟩
                  have n1_ : Aside0 (w15.heap[gb210]? = some (.cells #[.string a0_0, .int .u64 a0_1, .int .u64 a0_2] 26 (0, 0))) := ⟨h1_⟩
                  have n2_ : Aside0 (w15.heap[gb211]? = some (.cells #[.string a1_0, .int .u64 a1_1, .int .u64 a1_2] 26 (0, 0))) := ⟨h2_⟩
                  have n3_ : Aside0 (Below w.heap.size w w15) := ⟨h3_⟩
                  clear BK210
                  clear BK211
                  clear HB
                  clear h0_ h1_ h2_ h3_
                  have HO214 := n0_
                  have BK210 := n1_
                  have BK211 := n2_
                  have HB := n3_
                  clear n0_ n1_ n2_ n3_
                  have hHeld : w15.cell? ⟨gb210, 0, none⟩ = some (.string a0_0) ∧ w15.cell? ⟨gb210, 1, none⟩ = some (.int .u64 a0_1) ∧ w15.cell? ⟨gb210, 2, none⟩ = some (.int .u64 a0_2) ∧ w15.cell? ⟨gb211, 0, none⟩ = some (.string a1_0) ∧ w15.cell? ⟨gb211, 1, none⟩ = some (.int .u64 a1_1) ∧ w15.cell? ⟨gb211, 2, none⟩ = some (.int .u64 a1_2) := hS_
                  refine norm_ (a' := ?_) ?_ ?_
                  rotate_left
                  · simp only [putAll, Act.put, List.setIfInBounds_toArray, List.set_cons_zero, List.set_cons_succ]
                    rfl
                  refine one_ (i := 7) (N := some 12) #[true, true, true, true, true, true, true, true, false, true, true, false, true, true, false, false, false] rfl rfl (one_of HT_.out (by kernel_rfl)) (by decide) (fun K hK => ?_)
                  refine goes_ Tryd.func76 (by kernel_rfl) rfl #[.agg #[.int .u64 a0_1, .int .u64 a0_2]] (by rfl) rfl rfl (by (try simp only [List.map_toArray, List.map_cons, List.map_nil]); first | done | rfl | (simp only [List.length_drop, List.length_take]; rfl)) ?_
                  with_reducible refine (u128_Bytes.calls a0_1 a0_2 t215 _ A4.out).mono ?_
                  rintro e w16 ⟨rfl, hb⟩
                  refine ⟨_, rfl, ?_⟩
                  have n0_ := Aside0.mk (Kd.R_below (by (with_reducible repeat (first | apply Kd.R_alloc | apply Kd.R_drewN | apply Kd.R_drew)); exact HO214.out) hb)
                  have n1_ := Aside0.mk (blk_below (g := gb210) (o := .cells #[.string a0_0, .int .u64 a0_1, .int .u64 a0_2] 26 (0, 0)) (by (with_reducible repeat (first | refine blk_drewN ?_ _ | refine blk_drew ?_ | refine blk_alloc ?_ _)); exact BK210.out) hb)
                  have n2_ := Aside0.mk (blk_below (g := gb211) (o := .cells #[.string a1_0, .int .u64 a1_1, .int .u64 a1_2] 26 (0, 0)) (by (with_reducible repeat (first | refine blk_drewN ?_ _ | refine blk_drew ?_ | refine blk_alloc ?_ _)); exact BK211.out) hb)
                  have n3_ := Aside0.mk (below_step (by repeat (first | (with_reducible first | exact HB.out | apply below_alloc | apply pw_below_drewN | apply below_drew1 | refine below_set ?_ GE210.out | refine below_set ?_ GE211.out) | exact HB.out)) hb)
                  clear HO214
                  clear BK210
                  clear BK211
                  clear HB
                  have HO214 := n0_
                  have BK210 := n1_
                  have BK211 := n2_
                  have HB := n3_
                  clear n0_ n1_ n2_ n3_
                  (try clear hb)
                  (try clear hb2)
                  (try clear hk)
                  (try clear hi)
                  refine hK.out _ _ ⟨(blk_cell BK210.out 0).trans rfl, (blk_cell BK210.out 1).trans rfl, (blk_cell BK210.out 2).trans rfl, (blk_cell BK211.out 0).trans rfl, (blk_cell BK211.out 1).trans rfl, (blk_cell BK211.out 2).trans rfl⟩ (fun hHeld => ?_)
                  clear hK K
                  refine norm_ (a' := ?_) ?_ ?_
                  rotate_left
                  · show Act.put _ (some 12) _ = _
                    simp only [Act.put, List.setIfInBounds_toArray, List.set_cons_zero, List.set_cons_succ, i64_w, i32_w]
                    rfl
                  refine pure_ (i := 8) (N := some 13) (v := ?_) (a' := ?_) #[true, true, true, true, true, true, true, true, true, true, true, false, true, true, false, false, false] rfl rfl (any_of HT_.out (by kernel_rfl)) (fun _ _ _ h => h) (Or.inl ⟨by rfl, ?_⟩) ?_ ?_
                  rotate_left
                  · intro w'
                    go_simp
                    with_reducible rfl
                  rotate_left
                  · simp only [Act.put, List.setIfInBounds_toArray, List.set_cons_zero, List.set_cons_succ, i64_w, i32_w]
                    rfl
                  refine pure_ (i := 11) (N := some 16) (v := ?_) (a' := ?_) #[true, true, true, true, true, true, true, true, true, true, true, true, true, true, false, false, false] rfl rfl (any_of HT_.out (by kernel_rfl)) (fun _ _ _ h => h) (Or.inl ⟨by rfl, ?_⟩) ?_ ?_
                  rotate_left
                  · intro w'
                    go_simp
                    with_reducible rfl
                  rotate_left
                  · simp only [Act.put, List.setIfInBounds_toArray, List.set_cons_zero, List.set_cons_succ, i64_w, i32_w]
                    rfl
                  exact norm_ (by first | (simp only [putAll, Act.put, List.setIfInBounds_toArray, List.set_cons_zero, List.set_cons_succ]; done) | (simp only [putAll, Act.put, List.setIfInBounds_toArray, List.set_cons_zero, List.set_cons_succ]; rfl)) (hJ0_1_7 (v213) _ ⟨hHeld, (by (with_reducible repeat (first | apply Kd.R_alloc | apply Kd.R_drewN | apply Kd.R_drew)); exact HO214.out), (by (with_reducible repeat (first | refine blk_drewN ?_ _ | refine blk_drew ?_ | refine blk_alloc ?_ _)); exact BK210.out), (by (with_reducible repeat (first | refine blk_drewN ?_ _ | refine blk_drew ?_ | refine blk_alloc ?_ _)); exact BK211.out), (by repeat (first | (with_reducible first | exact HB.out | apply below_alloc | apply pw_below_drewN | apply below_drew1 | refine below_set ?_ GE210.out | refine below_set ?_ GE211.out) | exact HB.out))⟩)
              · skip
                rintro v213 w16 ⟨hS_, h0_, h1_, h2_, h3_⟩
                have n0_ : Aside0 (Kd.R (Kd.int .u8) 5 w16 w.heap.size (fun _ => True) v213 y212) := ⟨h0_⟩
                have n1_ : Aside0 (w16.heap[gb210]? = some (.cells #[.string a0_0, .int .u64 a0_1, .int .u64 a0_2] 26 (0, 0))) := ⟨h1_⟩
                have n2_ : Aside0 (w16.heap[gb211]? = some (.cells #[.string a1_0, .int .u64 a1_1, .int .u64 a1_2] 26 (0, 0))) := ⟨h2_⟩
                have n3_ : Aside0 (Below w.heap.size w w16) := ⟨h3_⟩
                clear BK210
                clear BK211
                clear HB
                clear h0_ h1_ h2_ h3_
                have HO214 := n0_
                have BK210 := n1_
                have BK211 := n2_
                have HB := n3_
                clear n0_ n1_ n2_ n3_
                have hHeld : w16.cell? ⟨gb210, 0, none⟩ = some (.string a0_0) ∧ w16.cell? ⟨gb210, 1, none⟩ = some (.int .u64 a0_1) ∧ w16.cell? ⟨gb210, 2, none⟩ = some (.int .u64 a0_2) ∧ w16.cell? ⟨gb211, 0, none⟩ = some (.string a1_0) ∧ w16.cell? ⟨gb211, 1, none⟩ = some (.int .u64 a1_1) ∧ w16.cell? ⟨gb211, 2, none⟩ = some (.int .u64 a1_2) := hS_
                refine norm_ (a' := ?_) ?_ ?_
                rotate_left
                · simp only [putAll, Act.put, List.setIfInBounds_toArray, List.set_cons_zero, List.set_cons_succ]
                  rfl
                refine one_ (i := 1) (N := some 6) #[true, true, true, true, false, true, true, true, false, true, true, false, true, true, true, false, false] rfl rfl (one_of HT_.out (by kernel_rfl)) (by decide) (fun K hK => ?_)
                have hcv17 := own_string (P := Tryd.prog) Tryd.underlying56 Tryd.underlying5 Tryd.underlying9 (Kd.own_of_R HO214.out)
                refine value_ (w1 := ?_) (v := ?_) (by rfl) rfl ?_ ?_
                rotate_left 2
                · go_simp
                  constructor
                  · rfl
                  · rfl
                clear hcv17
                refine hK.out _ _ ⟨(blk_cell BK210.out 0).trans rfl, (blk_cell BK210.out 1).trans rfl, (blk_cell BK210.out 2).trans rfl, (blk_cell BK211.out 0).trans rfl, (blk_cell BK211.out 1).trans rfl, (blk_cell BK211.out 2).trans rfl⟩ (fun hHeld => ?_)
                clear hK K
                refine norm_ (a' := ?_) ?_ ?_
                rotate_left
                · show Act.put _ (some 6) _ = _
                  simp only [Act.put, List.setIfInBounds_toArray, List.set_cons_zero, List.set_cons_succ, i64_w, i32_w]
                  rfl
                refine pure_ (i := 4) (N := some 9) (v := ?_) (a' := ?_) #[true, true, true, true, true, true, true, true, false, true, true, false, true, true, true, false, false] rfl rfl (any_of HT_.out (by kernel_rfl)) (fun _ _ _ h => h) (Or.inl ⟨by rfl, ?_⟩) ?_ ?_
                rotate_left
                · intro w'
                  go_simp
                  with_reducible rfl
                rotate_left
                · simp only [Act.put, List.setIfInBounds_toArray, List.set_cons_zero, List.set_cons_succ, i64_w, i32_w]
                  rfl
                refine pure_ (i := 8) (N := some 13) (v := ?_) (a' := ?_) #[true, true, true, true, true, true, true, true, true, true, true, false, true, true, true, false, false] rfl rfl (any_of HT_.out (by kernel_rfl)) (fun _ _ _ h => h) (Or.inl ⟨by rfl, ?_⟩) ?_ ?_
                rotate_left
                · intro w'
                  go_simp
                  with_reducible rfl
                rotate_left
                · simp only [Act.put, List.setIfInBounds_toArray, List.set_cons_zero, List.set_cons_succ, i64_w, i32_w]
                  rfl
                refine pure_ (i := 11) (N := some 16) (v := ?_) (a' := ?_) #[true, true, true, true, true, true, true, true, true, true, true, true, true, true, true, false, false] rfl rfl (any_of HT_.out (by kernel_rfl)) (fun _ _ _ h => h) (Or.inl ⟨by rfl, ?_⟩) ?_ ?_
                rotate_left
                · intro w'
                  go_simp
                  with_reducible rfl
                rotate_left
                · simp only [Act.put, List.setIfInBounds_toArray, List.set_cons_zero, List.set_cons_succ, i64_w, i32_w]
                  rfl
                exact norm_ (by first | (simp only [putAll, Act.put, List.setIfInBounds_toArray, List.set_cons_zero, List.set_cons_succ]; done) | (simp only [putAll, Act.put, List.setIfInBounds_toArray, List.set_cons_zero, List.set_cons_succ]; rfl)) (hJ0_1_7_14 (v213) _ ⟨hHeld, (by (with_reducible repeat (first | apply Kd.R_alloc | apply Kd.R_drewN | apply Kd.R_drew)); exact HO214.out), (by (with_reducible repeat (first | refine blk_drewN ?_ _ | refine blk_drew ?_ | refine blk_alloc ?_ _)); exact BK210.out), (by (with_reducible repeat (first | refine blk_drewN ?_ _ | refine blk_drew ?_ | refine blk_alloc ?_ _)); exact BK211.out), (by repeat (first | (with_reducible first | exact HB.out | apply below_alloc | apply pw_below_drewN | apply below_drew1 | refine below_set ?_ GE210.out | refine below_set ?_ GE211.out) | exact HB.out))⟩)
            · skip
              rintro v213 w16 ⟨hS_, h0_, h1_, h2_, h3_⟩
              have n0_ : Aside0 (Kd.R (Kd.int .u8) 5 w16 w.heap.size (fun _ => True) v213 y212) := ⟨h0_⟩
              have n1_ : Aside0 (w16.heap[gb210]? = some (.cells #[.string a0_0, .int .u64 a0_1, .int .u64 a0_2] 26 (0, 0))) := ⟨h1_⟩
              have n2_ : Aside0 (w16.heap[gb211]? = some (.cells #[.string a1_0, .int .u64 a1_1, .int .u64 a1_2] 26 (0, 0))) := ⟨h2_⟩
              have n3_ : Aside0 (Below w.heap.size w w16) := ⟨h3_⟩
              clear BK210
              clear BK211
              clear HB
              clear h0_ h1_ h2_ h3_
              have HO214 := n0_
              have BK210 := n1_
              have BK211 := n2_
              have HB := n3_
              clear n0_ n1_ n2_ n3_
              have hHeld : w16.cell? ⟨gb210, 0, none⟩ = some (.string a0_0) ∧ w16.cell? ⟨gb210, 1, none⟩ = some (.int .u64 a0_1) ∧ w16.cell? ⟨gb210, 2, none⟩ = some (.int .u64 a0_2) ∧ w16.cell? ⟨gb211, 0, none⟩ = some (.string a1_0) ∧ w16.cell? ⟨gb211, 1, none⟩ = some (.int .u64 a1_1) ∧ w16.cell? ⟨gb211, 2, none⟩ = some (.int .u64 a1_2) := hS_
              refine norm_ (a' := ?_) ?_ ?_
              rotate_left
              · simp only [putAll, Act.put, List.setIfInBounds_toArray, List.set_cons_zero, List.set_cons_succ]
                rfl
              refine one_ (i := 14) (N := some 19) #[true, true, true, true, true, true, true, true, true, true, true, true, true, true, true, false, false] rfl rfl (one_of HT_.out (by kernel_rfl)) (by decide) (fun K hK => ?_)
              refine goes_ Tryd.func76 (by kernel_rfl) rfl #[.agg #[.int .u64 a1_1, .int .u64 a1_2]] (by rfl) rfl rfl (by (try simp only [List.map_toArray, List.map_cons, List.map_nil]); first | done | rfl | (simp only [List.length_drop, List.length_take]; rfl)) ?_
              with_reducible refine (u128_Bytes.calls a1_1 a1_2 t216 _ A7.out).mono ?_
              rintro e w17 ⟨rfl, hb⟩
              refine ⟨_, rfl, ?_⟩
              have n0_ := Aside0.mk (Kd.R_below (by (with_reducible repeat (first | apply Kd.R_alloc | apply Kd.R_drewN | apply Kd.R_drew)); exact HO214.out) hb)
              have n1_ := Aside0.mk (blk_below (g := gb210) (o := .cells #[.string a0_0, .int .u64 a0_1, .int .u64 a0_2] 26 (0, 0)) (by (with_reducible repeat (first | refine blk_drewN ?_ _ | refine blk_drew ?_ | refine blk_alloc ?_ _)); exact BK210.out) hb)
              have n2_ := Aside0.mk (blk_below (g := gb211) (o := .cells #[.string a1_0, .int .u64 a1_1, .int .u64 a1_2] 26 (0, 0)) (by (with_reducible repeat (first | refine blk_drewN ?_ _ | refine blk_drew ?_ | refine blk_alloc ?_ _)); exact BK211.out) hb)
              have n3_ := Aside0.mk (below_step (by repeat (first | (with_reducible first | exact HB.out | apply below_alloc | apply pw_below_drewN | apply below_drew1 | refine below_set ?_ GE210.out | refine below_set ?_ GE211.out) | exact HB.out)) hb)
              clear HO214
              clear BK210
              clear BK211
              clear HB
              have HO214 := n0_
              have BK210 := n1_
              have BK211 := n2_
              have HB := n3_
              clear n0_ n1_ n2_ n3_
              (try clear hb)
              (try clear hb2)
              (try clear hk)
              (try clear hi)
              refine hK.out _ _ ⟨(blk_cell BK210.out 0).trans rfl, (blk_cell BK210.out 1).trans rfl, (blk_cell BK210.out 2).trans rfl, (blk_cell BK211.out 0).trans rfl, (blk_cell BK211.out 1).trans rfl, (blk_cell BK211.out 2).trans rfl⟩ (fun hHeld => ?_)
              clear hK K
              refine norm_ (a' := ?_) ?_ ?_
              rotate_left
              · show Act.put _ (some 19) _ = _
                simp only [Act.put, List.setIfInBounds_toArray, List.set_cons_zero, List.set_cons_succ, i64_w, i32_w]
                rfl
              exact norm_ (by first | (simp only [putAll, Act.put, List.setIfInBounds_toArray, List.set_cons_zero, List.set_cons_succ]; done) | (simp only [putAll, Act.put, List.setIfInBounds_toArray, List.set_cons_zero, List.set_cons_succ]; rfl)) (hJ0_1_7_14 (v213) _ ⟨hHeld, (by (with_reducible repeat (first | apply Kd.R_alloc | apply Kd.R_drewN | apply Kd.R_drew)); exact HO214.out), (by (with_reducible repeat (first | refine blk_drewN ?_ _ | refine blk_drew ?_ | refine blk_alloc ?_ _)); exact BK210.out), (by (with_reducible repeat (first | refine blk_drewN ?_ _ | refine blk_drew ?_ | refine blk_alloc ?_ _)); exact BK211.out), (by repeat (first | (with_reducible first | exact HB.out | apply below_alloc | apply pw_below_drewN | apply below_drew1 | refine below_set ?_ GE210.out | refine below_set ?_ GE211.out) | exact HB.out))⟩)
          rintro v213 w17 ⟨hS_, h0_, h1_, h2_, h3_⟩
          have n0_ : Aside0 (Kd.R (Kd.int .u8) 5 w17 w.heap.size (fun _ => True) v213 y212) := ⟨h0_⟩
          have n1_ : Aside0 (w17.heap[gb210]? = some (.cells #[.string a0_0, .int .u64 a0_1, .int .u64 a0_2] 26 (0, 0))) := ⟨h1_⟩
          have n2_ : Aside0 (w17.heap[gb211]? = some (.cells #[.string a1_0, .int .u64 a1_1, .int .u64 a1_2] 26 (0, 0))) := ⟨h2_⟩
          have n3_ : Aside0 (Below w.heap.size w w17) := ⟨h3_⟩
          clear BK210
          clear BK211
          clear HB
          clear h0_ h1_ h2_ h3_
          have HO214 := n0_
          have BK210 := n1_
          have BK211 := n2_
          have HB := n3_
          clear n0_ n1_ n2_ n3_
          have hHeld : w17.cell? ⟨gb210, 0, none⟩ = some (.string a0_0) ∧ w17.cell? ⟨gb210, 1, none⟩ = some (.int .u64 a0_1) ∧ w17.cell? ⟨gb210, 2, none⟩ = some (.int .u64 a0_2) ∧ w17.cell? ⟨gb211, 0, none⟩ = some (.string a1_0) ∧ w17.cell? ⟨gb211, 1, none⟩ = some (.int .u64 a1_1) ∧ w17.cell? ⟨gb211, 2, none⟩ = some (.int .u64 a1_2) := hS_
          refine norm_ (a' := ?_) ?_ ?_
          rotate_left
          · simp only [putAll, Act.put, List.setIfInBounds_toArray, List.set_cons_zero, List.set_cons_succ]
            rfl
          refine pure_ (i := 15) (N := some 20) (v := ?_) (a' := ?_) #[true, true, true, true, true, true, true, true, true, true, true, true, true, true, true, true, false] rfl rfl (any_of HT_.out (by kernel_rfl)) (fun _ _ _ h => h) (Or.inl ⟨by rfl, ?_⟩) ?_ ?_
          rotate_left
          · intro w'
            go_simp
            with_reducible rfl
          rotate_left
          · simp only [Act.put, List.setIfInBounds_toArray, List.set_cons_zero, List.set_cons_succ, i64_w, i32_w]
            rfl
          refine pure_ (i := 16) (N := some 4) (v := ?_) (a' := ?_) #[true, true, true, true, true, true, true, true, true, true, true, true, true, true, true, true, true] rfl rfl (any_of HT_.out (by kernel_rfl)) (fun _ _ _ h => h) (Or.inl ⟨by rfl, ?_⟩) ?_ ?_
          rotate_left
          · intro w'
            go_simp
            with_reducible rfl
          rotate_left
          · simp only [Act.put, List.setIfInBounds_toArray, List.set_cons_zero, List.set_cons_succ, i64_w, i32_w]
            rfl
          refine done_ (done_of HT_.out (by kernel_rfl)) ?_
          try go_wp2
          go_ret
          exact ⟨by first | rfl | (simp [errW_none, errW_some] <;> rfl) | (simp [*, errW_none, errW_some] <;> rfl), by repeat (first | (with_reducible first | exact HB.out | apply below_alloc | apply pw_below_drewN | apply below_drew1 | refine below_set ?_ GE210.out | refine below_set ?_ GE211.out) | exact HB.out)⟩
        · rw [if_neg c8] at H
          exact absurd H (by simp)
      · rw [if_neg c6] at H
        exact absurd H (by simp)
    · rw [if_neg c5] at H
      exact absurd H (by simp)
  · rw [if_neg c3] at H
    exact absurd H (by simp)

end Go.Proofs.YtlmmpncdemblbaaDoor.P
