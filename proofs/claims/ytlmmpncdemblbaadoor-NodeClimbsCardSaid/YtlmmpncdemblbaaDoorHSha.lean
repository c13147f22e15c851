-- Hand-written contracts of this workplace, filled for this seat by a program.
import Derived.Test.YtlmmpncdemblbaaDoorPx0
import Derived.Test.YtlmmpncdemblbaaDoorHTakes
import Derived.Test.YtlmmpncdemblbaaDoorHPad
namespace Go.Proofs.YtlmmpncdemblbaaDoor.P
open Go.RowKit Go.Proofs.YtlmmpncdemblbaaDoorW.PrintWords Go.Proofs.YtlmmpncdemblbaaDoorW.PrintLast Go.Proofs.YtlmmpncdemblbaaDoorW.PrintMore
set_option linter.unusedVariables false
set_option linter.unusedSimpArgs false
set_option linter.unnecessarySimpa false

/-- The first state. -/
def firstI : S8 := ⟨1779033703, 3144134277, 1013904242, 2773480762, 1359893119, 2600822924, 528734635, 1541459225⟩
theorem first.calls (w : World) : Calls Tryd.prog 105 #[] w fun e w' => e = .returned (stV firstI) ∧ Below w.heap.size w w' := by
  have hu := Tryd.underlying154
  go_enter Tryd.func105, Tryd.ntmps105
  go_wp2_with fail
  refine bodyPost_ret (v := stV firstI) ?_ rfl ⟨rfl, ?_⟩
  · simp [results, Tryd.results105, go_sem, firstI]
  · repeat (with_reducible first | exact Below.refl _ _ | apply below_alloc | refine below_set ?_ (Nat.le_refl _))
/-- A new running one. -/
def newRun : Run := ⟨firstI, ByteArray.empty, 0⟩
theorem new.calls (w : World) : Calls Tryd.prog 94 #[] w fun e w' => ∃ g, e = .returned (.pointer (some ⟨g, 0, none⟩)) ∧ w.heap.size ≤ g ∧ IsRun w' g newRun ∧ Below w.heap.size w w' := by
  have hu := Tryd.underlying154
  go_enter Tryd.func94, Tryd.ntmps94
  go_wp2_with fail
  refine (first.calls _).mono ?_
  rintro e w1 ⟨rfl, hB⟩
  go_wp2
  go_ret
  exact ⟨w1.heap.size, rfl, hB.size, blk_new w1 _, hB.alloc hB.size _⟩
theorem none.calls (g : Nat) (r : Run) (w : World) (hg : IsRun w g r) : Calls Tryd.prog 109 #[.pointer (some ⟨g, 0, none⟩)] w fun e w' => e = .returned (.bool false) ∧ w' = w := by
  have h0 : w.cell? ⟨g, 0, none⟩ = some (.bool true) := blk_cell hg 0
  go_enter Tryd.func109, Tryd.ntmps109
  go_wp2_with fail
  go_ret
  exact ⟨rfl, rfl⟩
theorem none_nil.calls (w : World) : Calls Tryd.prog 109 #[.pointer none] w fun e w' => e = .returned (.bool true) ∧ w' = w := by
  go_enter Tryd.func109, Tryd.ntmps109
  go_wp2_with fail
  go_ret
  exact ⟨rfl, rfl⟩
theorem none_at.calls (g : Nat) (m : Bool) (w : World) (h0 : w.cell? ⟨g, 0, none⟩ = some (.bool m)) : Calls Tryd.prog 109 #[.pointer (some ⟨g, 0, none⟩)] w fun e w' => e = .returned (.bool (!m)) ∧ w' = w := by
  go_enter Tryd.func109, Tryd.ntmps109
  go_wp2_with fail
  go_ret
  exact ⟨rfl, rfl⟩
theorem copy.calls (g : Nat) (r : Run) (w : World) (hg : IsRun w g r) : Calls Tryd.prog 110 #[.pointer (some ⟨g, 0, none⟩)] w fun e w' => ∃ g', e = .returned (.pointer (some ⟨g', 0, none⟩)) ∧ w.heap.size ≤ g' ∧ IsRun w' g' r ∧ Below w.heap.size w w' := by
  obtain ⟨e1, e2, e3, e4, e5, e6, e7, e8⟩ := run_cells hg
  have e0 : w.cell? ⟨g, 0, none⟩ = some (.bool true) := blk_cell hg 0
  have e9 : w.cell? ⟨g, 9, none⟩ = some (.string r.rest) := blk_cell hg 9
  have e10 : w.cell? ⟨g, 10, none⟩ = some (.int .u64 r.n) := blk_cell hg 10
  have hlt : g < w.heap.size := blk_lt hg
  have hne : g ≠ w.heap.size := Nat.ne_of_lt hlt
  have hu := Tryd.underlying154
  clear hg
  go_enter Tryd.func110, Tryd.ntmps110
  go_wp2_with fail
  go_ret
  exact ⟨w.heap.size, rfl, Nat.le_refl _, blk_new w _, below_alloc (Below.refl _ _) _⟩
theorem copy_nil.calls (w : World) : Calls Tryd.prog 110 #[.pointer none] w fun e w' => e = .returned (.pointer none) ∧ w' = w := by
  go_enter Tryd.func110, Tryd.ntmps110
  go_wp2_with fail
  go_ret
  exact ⟨rfl, rfl⟩
/-- What a running one is asked for. -/
def Run.sum (r : Run) : ByteArray := digestI (takeI r (padI r.n)).s
theorem padI_size (n : Int) : (padI n).size = 9 + padZ n := by simp [padI, padL, ByteArray.size]; omega
set_option maxRecDepth 100000 in
set_option maxHeartbeats 1000000 in
theorem sum_run.calls (g : Nat) (r : Run) (w : World) (hK : Laid w) (hg : IsRun w g r) (h0 : 0 ≤ r.n) (h1 : r.n < 18446744073709551616) (hr : r.rest.size < 64) :
    Calls Tryd.prog 96 #[.pointer (some ⟨g, 0, none⟩)] w fun e w' => e = .returned (.tuple #[.string r.sum, .int .i64 0]) ∧ Below w.heap.size w w' := by
  have HK := Aside0.mk hK
  have HG := Aside0.mk hg
  have hu := Tryd.underlying154
  clear hK hg
  go_enter Tryd.func96, Tryd.ntmps96
  go_wp2_with fail
  refine (none.calls g r _ HG.out).mono ?_
  rintro e w1 ⟨rfl, rfl⟩
  go_wp2_with fail
  refine (copy.calls g r _ HG.out).mono ?_
  rintro e w1 ⟨g2, rfl, hg2, hr2, hB1⟩
  have h10 : w1.cell? ⟨g, 10, none⟩ = some (.int .u64 r.n) := blk_cell (blk_below HG.out hB1) 10
  have HB1 := Aside0.mk hB1
  have HR2 := Aside0.mk hr2
  have HG2 := Aside0.mk hg2
  clear hB1 hr2 hg2
  go_wp2_with fail
  refine (padding.calls r.n h0 h1 _).mono ?_
  rintro e w2 ⟨rfl, hB2⟩
  have HB2 := Aside0.mk (HB1.out.trans (hB2.mono HB1.out.size))
  have HR3 : IsRun w2 g2 r := blk_below HR2.out hB2
  clear hB2 h10
  go_wp2_with fail
  refine (takes.calls g2 r (padI r.n) _ (HK.out.below HB2.out) HR3 (by rw [padI_size]; unfold padZ; omega)).mono ?_
  rintro e w3 ⟨rfl, hr3, hb3⟩
  have HB3 := Aside0.mk (HB2.out.grown hb3 HB2.out.size (fun k e => by cases e; exact HG2.out))
  obtain ⟨c1, c2, c3, c4, c5, c6, c7, c8⟩ := run_cells hr3
  clear hr3 hb3
  have HS := Aside0.mk (show (takeI r (padI r.n)).s = (takeI r (padI r.n)).s from rfl)
  have hs : r.sum = digestI (takeI r (padI r.n)).s := rfl
  generalize (takeI r (padI r.n)).s = y at c1 c2 c3 c4 c5 c6 c7 c8 hs
  have HY := Aside0.mk hs
  clear hs HR3 HS
  go_wp2_with fail
  refine (digest.calls y _).mono ?_
  rintro e w4 ⟨rfl, hB4⟩
  go_wp2_with fail
  go_ret2
  rw [HY.out]
  exact ⟨rfl, HB3.out.trans (hB4.mono HB3.out.size)⟩
/-- A text's digest, as it is made. -/
def sumI (t : ByteArray) : ByteArray := (takeI newRun t).sum
theorem u64_wrap_range (x : Int) : 0 ≤ IntKind.u64.wrap x ∧ IntKind.u64.wrap x < 18446744073709551616 := by rw [IntKind.wrap_u64]; omega
theorem eat_rest (l : List (ByteArray × Bool)) : ∀ (r : Run), (∀ x ∈ l, x.2 = false → x.1.size < 64) → r.rest.size < 64 → (l.foldl eat r).rest.size < 64 ∧ (l.foldl eat r).n = r.n := by
  induction l with
  | nil => intro r _ h; exact ⟨h, rfl⟩
  | cons x l ih =>
    intro r hx hr
    rw [List.foldl_cons]
    have h1 : (eat r x).rest.size < 64 ∧ (eat r x).n = r.n := by
      unfold eat
      split
      · exact ⟨by show ByteArray.empty.size < 64; decide, rfl⟩
      · exact ⟨hx x (by simp) (by simp_all), rfl⟩
    obtain ⟨h2, h3⟩ := ih (eat r x) (fun y hy => hx y (by simp [hy])) h1.1
    exact ⟨h2, h3.trans h1.2⟩
theorem blksN_small : ∀ (n : Nat) (t : ByteArray), t.size / 64 = n → ∀ x ∈ blksN n t, x.2 = false → x.1.size < 64
  | 0, t, h, x, hx, _ => by simp [blksN] at hx; subst hx; show t.size < 64; omega
  | n + 1, t, h, x, hx, hf => by
    rw [blksN, List.mem_cons] at hx
    rcases hx with hx | hx
    · subst hx; cases hf
    · exact blksN_small n _ (by rw [ByteArray.size_extract]; omega) x hx hf
theorem takeI_small (r : Run) (t : ByteArray) (h : r.rest.size < 64) : (takeI r t).rest.size < 64 ∧ (takeI r t).n = IntKind.u64.wrap (r.n + (t.size : Int)) :=
  eat_rest _ _ (blksN_small _ _ rfl) h
set_option maxRecDepth 100000 in
set_option maxHeartbeats 1000000 in
theorem sum.calls (t : ByteArray) (w : World) (hK : Laid w) (ht : t.size ≤ 4611686018427387904) :
    Calls Tryd.prog 75 #[.string t] w fun e w' => e = .returned (.string (sumI t)) ∧ Below w.heap.size w w' := by
  have HK := Aside0.mk hK
  clear hK
  go_enter Tryd.func75, Tryd.ntmps75
  go_wp2_with fail
  refine (new.calls _).mono ?_
  rintro e w1 ⟨g, rfl, hg, hr, hB⟩
  have HB := Aside0.mk hB
  have HR := Aside0.mk hr
  have HG := Aside0.mk hg
  clear hB hr hg
  go_wp2_with fail
  refine (takes.calls g newRun t _ (HK.out.below HB.out) HR.out (by show 0 + t.size ≤ _; omega)).mono ?_
  rintro e w2 ⟨rfl, hr2, hb2⟩
  have HB2 := Aside0.mk (HB.out.grown hb2 HB.out.size (fun k e => by cases e; exact HG.out))
  have HR2 := Aside0.mk hr2
  clear hr2 hb2
  obtain ⟨s1, s2⟩ := takeI_small newRun t (by decide)
  have r1 : 0 ≤ (takeI newRun t).n := by rw [s2]; exact (u64_wrap_range _).1
  have r2 : (takeI newRun t).n < 18446744073709551616 := by rw [s2]; exact (u64_wrap_range _).2
  go_wp2_with fail
  refine (sum_run.calls g (takeI newRun t) _ (HK.out.below HB2.out) HR2.out r1 r2 s1).mono ?_
  rintro e w3 ⟨rfl, hB3⟩
  go_wp2
  go_ret
  exact ⟨rfl, HB2.out.trans (hB3.mono HB2.out.size)⟩

end Go.Proofs.YtlmmpncdemblbaaDoor.P
