-- Hand-written contracts of this workplace, filled for this seat by a program.
import Derived.Test.YtcidfahoajmcmaaDoorPx0
import Derived.Test.YtcidfahoajmcmaaDoorPn10
import Derived.Test.YtcidfahoajmcmaaDoorPn5
import Derived.Test.YtcidfahoajmcmaaDoorHFind
import Derived.Test.YtcidfahoajmcmaaDoorUJoin
namespace Go.Proofs.YtcidfahoajmcmaaDoor.P
open Go.RowKit Go.Proofs.YtcidfahoajmcmaaDoorW.PrintWords Go.Proofs.YtcidfahoajmcmaaDoorW.PrintLast Go.Proofs.YtcidfahoajmcmaaDoorW.PrintMore
set_option linter.unusedVariables false
set_option linter.unusedSimpArgs false
set_option linter.unnecessarySimpa false

/-! The reference's first collision is the program's. -/
def refGo (dg : ByteArray → ByteArray) : List ByteArray → List ByteArray → ByteArray × ByteArray × Bool
  | _, [] => (ByteArray.empty, ByteArray.empty, false)
  | pre, s :: l => match pre.find? (fun t => decide (t ≠ s) && decide (dg t = dg s)) with
    | some t => (t, s, true)
    | none => refGo dg (pre ++ [s]) l
theorem ref_find {dg : ByteArray → ByteArray} : ∀ (l pre seen : List ByteArray), (∀ t ∈ pre, seen.find? (fun u => decide (dg u = dg t)) = some t) → (∀ t ∈ seen, t ∈ pre) → refGo dg pre l = findGo dg seen l
  | [], _, _, _, _ => rfl
  | s :: l, pre, seen, h1, h2 => by
    rw [refGo, findGo]
    cases hf : seen.find? (fun t => decide (dg t = dg s)) with
    | none =>
      have hn : pre.find? (fun t => decide (t ≠ s) && decide (dg t = dg s)) = none := by
        rw [List.find?_eq_none]
        intro t ht hc
        simp only [Bool.and_eq_true, decide_eq_true_eq] at hc
        have := h1 t ht
        rw [hc.2, hf] at this
        cases this
      simp only [hn]
      refine ref_find l _ _ (fun t ht => ?_) (fun t ht => ?_)
      · rw [List.find?_append]
        rcases List.mem_append.1 ht with ht | ht
        · rw [h1 t ht]; rfl
        · obtain rfl := List.mem_singleton.1 ht
          rw [hf]; simp
      · rcases List.mem_append.1 ht with ht | ht
        · exact List.mem_append_left _ (h2 t ht)
        · exact List.mem_append_right _ ht
    | some t =>
      have htm := List.mem_of_find?_eq_some hf
      have hte : dg t = dg s := by simpa using List.find?_some hf
      have huniq : ∀ u ∈ pre, dg u = dg s → u = t := fun u hu he => by
        have := h1 u hu
        rw [he, hf] at this
        exact (Option.some.inj this).symm
      by_cases hts : t = s
      · have hn : pre.find? (fun t => decide (t ≠ s) && decide (dg t = dg s)) = none := by
          rw [List.find?_eq_none]
          intro u hu hc
          simp only [Bool.and_eq_true, decide_eq_true_eq] at hc
          exact hc.1 ((huniq u hu hc.2).trans hts)
        simp only [hn, if_pos hts]
        refine ref_find l _ _ (fun u hu => ?_) (fun u hu => List.mem_append_left _ (h2 u hu))
        rcases List.mem_append.1 hu with hu | hu
        · exact h1 u hu
        · obtain rfl := List.mem_singleton.1 hu
          rw [hf, hts]
      · have hs : pre.find? (fun t => decide (t ≠ s) && decide (dg t = dg s)) = some t := by
          cases hp : pre.find? (fun t => decide (t ≠ s) && decide (dg t = dg s)) with
          | none =>
            have := (List.find?_eq_none.1 hp) t (h2 t htm)
            simp [hts, hte] at this
          | some u =>
            have hu := List.find?_some hp
            simp only [Bool.and_eq_true, decide_eq_true_eq] at hu
            rw [huniq u (List.mem_of_find?_eq_some hp) hu.2]
        simp only [hs, if_neg hts]
theorem ref_find0 (dg : ByteArray → ByteArray) (l : List ByteArray) : refGo dg [] l = findGo dg [] l := ref_find l [] [] (fun t ht => by cases ht) (fun t ht => by cases ht)
theorem rdS_nat (l : List ByteArray) (i : Nat) (h : i < l.length) : rdOf ByteArray.empty l (i : Int) = l[i] := by simp [rdOf, h]
theorem ba_inj {a b : ByteArray} : a.toList = b.toList ↔ a = b := ⟨fun h => dat_inj (by rw [← ba_toList a, ← ba_toList b]; exact h), fun h => by rw [h]⟩
theorem refFind_l1 {a : Int} {l : List ByteArray} {i : Nat} {s d : ByteArray} {r : ByteArray × ByteArray × Bool} (hi : i < l.length) (hs : s = l[i]) (hd : d = dgI a s) (hl : l.length < 1000000000)
    (hr : Ev (fun k => paymasterref19_Find.l0 k a l ((l.take i).map (dgI a) ++ [d]) ((i + 1 : Nat) : Int)) r) :
    ∀ n j, j + n = i → Ev (fun k => paymasterref19_Find.l1 k a l ((l.take i).map (dgI a)) (i : Int) d (j : Int)) (match ((l.take i).drop j).find? (fun t => decide (t ≠ s) && decide (dgI a t = d)) with | some t => (t, s, true) | none => r)
  | 0, j, h => by
    rw [List.drop_of_length_le (by simp; omega)]
    refine Ev.step (f := fun k => paymasterref19_Find.l0 k a l ((l.take i).map (dgI a) ++ [d]) ((i + 1 : Nat) : Int)) (fun k => ?_) hr
    rw [paymasterref19_Find.l1, if_neg (by omega), if_pos (by simp; omega), wrap64_id (by omega) (by omega)]
    rfl
  | n + 1, j, h => by
    have hj : j < l.length := by omega
    have hjt : j < (l.take i).length := by simp; omega
    have ih := refFind_l1 hi hs hd hl hr n (j + 1) (by omega)
    have ew : wrap64 ((j : Int) + 1) = ((j + 1 : Nat) : Int) := by rw [wrap64_id (by omega) (by omega)]; rfl
    have eg : (l.take i)[j] = l[j] := by simp
    rw [List.drop_eq_getElem_cons hjt, List.find?_cons, eg]
    by_cases e : l[j] = s
    · refine Ev.step (f := fun k => paymasterref19_Find.l1 k a l ((l.take i).map (dgI a)) (i : Int) d ((j + 1 : Nat) : Int)) (fun k => ?_) (ev_eq ih (by simp [e]))
      rw [paymasterref19_Find.l1, if_pos (by omega), if_pos (by omega), if_pos (by omega), if_pos (by omega), if_pos (by omega), rdS_nat l j hj, rdS_nat l i hi, ← hs, if_pos (ba_inj.2 e), ew]
    · have hrd : rdOf ByteArray.empty ((l.take i).map (dgI a)) (j : Int) = dgI a l[j] := by
        rw [rdS_nat _ j (by simp; omega)]; simp
      by_cases e2 : dgI a l[j] = d
      · refine Ev.step (f := fun _ => some (l[j], s, true)) (fun k => ?_) (ev_eq (Ev.now _) (by simp [e, e2]))
        rw [paymasterref19_Find.l1, if_pos (by omega), if_pos (by omega), if_pos (by omega), if_pos (by omega), if_pos (by omega), rdS_nat l j hj, rdS_nat l i hi, ← hs, if_neg (fun h => e (ba_inj.1 h)), if_pos (by simp; omega), hrd, if_pos (ba_inj.2 e2)]
      · refine Ev.step (f := fun k => paymasterref19_Find.l1 k a l ((l.take i).map (dgI a)) (i : Int) d ((j + 1 : Nat) : Int)) (fun k => ?_) (ev_eq ih (by simp [e, e2]))
        rw [paymasterref19_Find.l1, if_pos (by omega), if_pos (by omega), if_pos (by omega), if_pos (by omega), if_pos (by omega), rdS_nat l j hj, rdS_nat l i hi, ← hs, if_neg (fun h => e (ba_inj.1 h)), if_pos (by simp; omega), hrd, if_neg (fun h => e2 (ba_inj.1 h)), ew]
theorem refFind_l0 {a : Int} (w1 : 1 ≤ a) (w2 : a ≤ 32) {l : List ByteArray} (hl : l.length < 1000000000) (hx : ∀ x ∈ l, x.size ≤ 100000000) : ∀ n i, i + n = l.length → Ev (fun k => paymasterref19_Find.l0 k a l ((l.take i).map (dgI a)) (i : Int)) (refGo (dgI a) (l.take i) (l.drop i))
  | 0, i, h => by
    rw [List.drop_of_length_le (by omega)]
    refine Ev.step (f := fun _ => some (⟨#[]⟩, ⟨#[]⟩, false)) (fun k => ?_) (Ev.now _)
    rw [paymasterref19_Find.l0, if_neg (by omega)]
  | n + 1, i, h => by
    have hi : i < l.length := by omega
    have ih := refFind_l0 w1 w2 hl hx n (i + 1) (by omega)
    have et : l.take (i + 1) = l.take i ++ [l[i]] := List.take_succ_eq_append_getElem hi
    rw [et, List.map_append] at ih
    rw [List.drop_eq_getElem_cons hi, refGo]
    have := refFind_l1 (a := a) hi rfl rfl hl ih i 0 (by omega)
    refine Ev.step (f := fun k => paymasterref19_Find.l1 k a l ((l.take i).map (dgI a)) (i : Int) (dgI a l[i]) 0) (fun k => ?_) this
    rw [paymasterref19_Find.l0, if_pos (by omega), if_pos (by omega), rdS_nat l i hi, refDigest_eq a l[i] w1 w2 (hx _ (List.getElem_mem _))]
    rfl
theorem refFind_ev (a : Int) (l : List ByteArray) (hl : l.length < 1000000000) (hx : ∀ x ∈ l, x.size ≤ 100000000) : Ev (fun k => paymasterref19_Find.f k a l) (findI a l) := by
  unfold paymasterref19_Find.f findI
  by_cases h1 : a < 1
  · rw [if_neg (by omega)]
    exact Ev.congr (fun k => by rw [if_pos h1]) (Ev.step (f := fun _ => some (⟨#[]⟩, ⟨#[]⟩, false)) (fun k => by rw [paymasterref19_Find.j0, if_pos rfl]) (Ev.now _))
  · by_cases h2 : a > 32
    · rw [if_neg (by omega)]
      exact Ev.congr (fun k => by rw [if_neg h1]) (Ev.step (f := fun _ => some (⟨#[]⟩, ⟨#[]⟩, false)) (fun k => by rw [paymasterref19_Find.j0, if_pos (by simpa using h2)]) (Ev.now _))
    · rw [if_pos (by omega), ← ref_find0]
      refine Ev.congr (fun k => by rw [if_neg h1]) (Ev.step (f := fun k => paymasterref19_Find.l0 k a l [] 0) (fun k => by rw [paymasterref19_Find.j0, if_neg (by simpa using h2)]) ?_)
      exact refFind_l0 (by omega) (by omega) hl hx l.length 0 (by omega)
theorem longTexts_loop (l : List ByteArray) (hl : l.length < 1000000000) : ∀ n i, i + n = l.length → Ev (fun k => paymasterlaw19_LongTexts.l0 k l (i : Int)) ((l.drop i).any fun t => decide (400 < t.size))
  | 0, i, h => by
    rw [List.drop_of_length_le (by omega)]
    exact Ev.step (f := fun _ => some false) (fun k => by rw [paymasterlaw19_LongTexts.l0, if_neg (by omega)]) (Ev.now _)
  | n + 1, i, h => by
    have hi : i < l.length := by omega
    rw [any_drop_succ _ l i hi]
    by_cases hb : 400 < l[i].size
    · refine Ev.step (f := fun _ => some true) (fun k => ?_) (ev_eq (Ev.now true) (by simp [hb]))
      rw [paymasterlaw19_LongTexts.l0, if_pos (by omega), if_pos (by omega), rdS_nat l i hi, if_pos (by omega)]
    · refine Ev.step (f := fun k => paymasterlaw19_LongTexts.l0 k l ((i + 1 : Nat) : Int)) (fun k => ?_) (ev_eq (longTexts_loop l hl n (i + 1) (by omega)) (by simp [hb]))
      rw [paymasterlaw19_LongTexts.l0, if_pos (by omega), if_pos (by omega), rdS_nat l i hi, if_neg (by omega), wrap64_id (by omega) (by omega)]; rfl
def longT (l : List ByteArray) : Bool := decide (300 < l.length) || l.any fun t => decide (400 < t.size)
theorem longTexts_ev (l : List ByteArray) : Ev (fun k => paymasterlaw19_LongTexts.f k l) (longT l) := by
  unfold paymasterlaw19_LongTexts.f longT
  by_cases h : 300 < l.length
  · exact Ev.some_ (fun k => by rw [if_pos (by omega)]; simp [h])
  · refine Ev.congr (fun k => by rw [if_neg (by omega)]; rfl) (ev_eq (longTexts_loop l (by omega) l.length 0 (by omega)) (by simp [h]))

end Go.Proofs.YtcidfahoajmcmaaDoor.P
