-- Hand-written contracts of this workplace, filled for this seat by a program.
import Derived.Test.YtcidfahoajmcmaaDoorPx0
import Derived.Test.YtcidfahoajmcmaaDoorPy1
import Derived.Test.YtcidfahoajmcmaaDoorPy2
import Derived.Test.YtcidfahoajmcmaaDoorPy3
import Derived.Test.YtcidfahoajmcmaaDoorRd
import Derived.Test.YtcidfahoajmcmaaDoorHExtSha
import Derived.Test.YtcidfahoajmcmaaDoorUBytes
import Derived.Test.YtcidfahoajmcmaaDoorHHex
namespace Go.Proofs.YtcidfahoajmcmaaDoor.P
open Go.RowKit Go.Proofs.YtcidfahoajmcmaaDoorW.PrintWords Go.Proofs.YtcidfahoajmcmaaDoorW.PrintLast Go.Proofs.YtcidfahoajmcmaaDoorW.PrintMore
set_option linter.unusedVariables false
set_option linter.unusedSimpArgs false
set_option linter.unnecessarySimpa false
set_option maxRecDepth 1000000 in
theorem awake_eq : paymasterlaw05_awake.f = some true := by decide +kernel
/-- What a digit's byte stands for. -/
def valI (a : Int) : Int := if 48 ≤ a ∧ a ≤ 57 then (a - 48) % 256 else if 97 ≤ a ∧ a ≤ 102 then (a - 97) % 256 + 10 else -1
theorem value_ev (a : Int) : Ev (fun k => paymasterlaw05_value.f k a) (valI a) := by
  refine Ev.step (f := fun _ => some (valI a)) (fun k => ?_) (Ev.now _)
  unfold paymasterlaw05_value.f valI
  simp only [paymasterlaw05_value.j0, decide_eq_true_eq, Bool.false_eq_true, if_false]
  repeat' split
  all_goals first | rfl | (exfalso; omega)
theorem val_dig (n : Nat) (h : n < 16) : valI ((digI n).toNat : Int) = (n : Int) := by
  have : ∀ m ∈ List.range 16, valI ((digI m).toNat : Int) = (m : Int) := by decide +kernel
  exact this n (List.mem_range.2 h)
theorem hexL_get : ∀ (l : List UInt8) (i : Nat) (h : i < l.length), (hexL l)[2 * i]? = some (digI (l[i].toNat / 16)) ∧ (hexL l)[2 * i + 1]? = some (digI (l[i].toNat % 16))
  | c :: l, 0, _ => ⟨rfl, rfl⟩
  | c :: l, i + 1, h => by
    have ih := hexL_get l i (by simpa using h)
    have e : hexL (c :: l) = digI (c.toNat / 16) :: digI (c.toNat % 16) :: hexL l := rfl
    rw [e, show 2 * (i + 1) = 2 * i + 1 + 1 by omega]
    simpa using ih
theorem hex_bt (s : ByteArray) (i : Nat) (h : i < s.size) : bt (hexI s) ((2 * i : Nat) : Int) = ((digI ((bt s (i : Int)).toNat / 16)).toNat : Int) ∧ bt (hexI s) ((2 * i + 1 : Nat) : Int) = ((digI ((bt s (i : Int)).toNat % 16)).toNat : Int) := by
  have hl : i < s.data.toList.length := by simpa using h
  obtain ⟨g1, g2⟩ := hexL_get s.data.toList i hl
  have hb : (bt s (i : Int)).toNat = (s.data.toList[i]).toNat := by simp [bt, h]; rfl
  have hz : (hexI s).size = 2 * s.size := by show (hexL s.data.toList).toArray.size = _; simp [hexL_length]
  have key : ∀ (j : Nat) (d : UInt8), (hexL s.data.toList)[j]? = some d → bt (hexI s) (j : Int) = (d.toNat : Int) := by
    intro j d hd
    have hj : j < (hexL s.data.toList).length := (List.getElem?_eq_some_iff.1 hd).1
    have hj2 : j < (hexI s).size := by rw [hz]; rw [hexL_length] at hj; simpa using hj
    have hd2 : (hexL s.data.toList)[j] = d := (List.getElem?_eq_some_iff.1 hd).2
    simp only [bt, Int.toNat_natCast, hj2, dif_pos]
    have : (hexI s)[j]'hj2 = d := by
      show (hexI s).data[j]'hj2 = d
      exact hd2
    rw [this]
  rw [hb]
  exact ⟨key _ _ g1, key _ _ g2⟩
theorem hexI_append (s t : ByteArray) : hexI (s ++ t) = hexI s ++ hexI t := by
  apply ByteArray.ext
  rw [ByteArray.data_append]
  apply Array.toList_inj.1
  simp [hexI, hexL]
theorem hexI_inj (s t : ByteArray) (h : hexI s = hexI t) : s = t := by
  have hz : ∀ s : ByteArray, (hexI s).size = 2 * s.size := fun s => by show (hexL s.data.toList).toArray.size = _; simp [hexL_length]
  have hs : s.size = t.size := by have := congrArg ByteArray.size h; rw [hz, hz] at this; omega
  apply ByteArray.ext
  apply Array.ext
  · exact hs
  · intro i h1 h2
    have a1 := hex_bt s i h1
    have a2 := hex_bt t i h2
    rw [h] at a1
    have r1 := bt_range s (i : Int)
    have r2 := bt_range t (i : Int)
    have v1 := congrArg valI (a1.1.symm.trans a2.1)
    have v2 := congrArg valI (a1.2.symm.trans a2.2)
    rw [val_dig _ (by omega), val_dig _ (by omega)] at v1 v2
    have : (bt s (i : Int)) = bt t (i : Int) := by omega
    have b1 : bt s (i : Int) = ((s.data[i]'h1).toNat : Int) := by
      have h1' : i < s.size := h1
      simp [bt, h1']; rfl
    have b2 : bt t (i : Int) = ((t.data[i]'h2).toNat : Int) := by
      have h2' : i < t.size := h2
      simp [bt, h2']; rfl
    rw [b1, b2] at this
    exact UInt8.toNat_inj.1 (by omega)
theorem hexlaw_l0 (s : ByteArray) (hs : s.size ≤ 200) : ∀ (d i : Nat), d + i = s.size → Ev (fun k => paymasterlaw05_ShaHex.l0 k s (hexI s) (i : Int)) true
  | 0, i, h => by
    refine Ev.step (f := fun _ => some true) (fun k => ?_) (Ev.now true)
    rw [paymasterlaw05_ShaHex.l0, if_neg (by omega)]
  | d + 1, i, h => by
    have hz : (hexI s).size = 2 * s.size := by show (hexL s.data.toList).toArray.size = _; simp [hexL_length]
    obtain ⟨b1, b2⟩ := hex_bt s i (by omega)
    have r := bt_range s (i : Int)
    have e1 : wrap64 (2 * (i : Int)) = ((2 * i : Nat) : Int) := by rw [wrap64_id (by omega) (by omega)]; omega
    have e2 : wrap64 (((2 * i : Nat) : Int) + 1) = ((2 * i + 1 : Nat) : Int) := by rw [wrap64_id (by omega) (by omega)]; omega
    have e3 : wrap64 ((i : Int) + 1) = ((i + 1 : Nat) : Int) := by rw [wrap64_id (by omega) (by omega)]; omega
    generalize hx : bt s (i : Int) = x at b1 b2 r
    have v1 := val_dig (x.toNat / 16) (by omega)
    have v2 := val_dig (x.toNat % 16) (by omega)
    have e4 : wrap64 (wrap64 (((x.toNat / 16 : Nat) : Int) * 16) + ((x.toNat % 16 : Nat) : Int)) = wrap64 x := by
      rw [wrap64_id (x := ((x.toNat / 16 : Nat) : Int) * 16) (by omega) (by omega)]
      congr 1
      omega
    refine Ev.step (f := fun k => (paymasterlaw05_value.f k (bt (hexI s) ((2 * i : Nat) : Int))).bind fun t132 => (paymasterlaw05_value.f k (bt (hexI s) ((2 * i + 1 : Nat) : Int))).bind fun t133 => if t132 < 0 then some false else if t133 < 0 then some false else if wrap64 (wrap64 (t132 * 16) + t133) = wrap64 x then paymasterlaw05_ShaHex.l0 k s (hexI s) ((i + 1 : Nat) : Int) else some false) (fun k => ?_) ?_
    · rw [paymasterlaw05_ShaHex.l0, if_pos (by omega), e1, if_pos (by omega), if_pos (by omega)]
      congr 1
      funext t132
      rw [e2, if_pos (by omega), if_pos (by omega)]
      congr 1
      funext t133
      rw [hx, e3]
      split
      · rfl
      · split
        · rfl
        · rw [if_pos (by omega)]
    · rw [b1, b2]
      refine Ev.bind (value_ev _) ?_
      refine Ev.bind (value_ev _) ?_
      rw [v1, v2]
      refine Ev.congr (fun k => by rw [if_neg (by omega), if_neg (by omega), if_pos e4]) (hexlaw_l0 s hs d (i + 1) (by omega))
theorem pure_ShaHex : ∀ (y0 : ByteArray) (y1 : ByteArray), y0.size ≤ maxLen → y1.size ≤ maxLen → ∃ k, paymasterlaw05_ShaHex.f k y0 y1 = some true := by
  intro s t _ _
  refine Ev.rounds ?_
  by_cases h : s.size > 200 ∨ t.size > 200
  · refine Ev.congr (f := fun k => paymasterlaw05_ShaHex.j0 k s t true) (fun k => ?_) ?_
    · unfold paymasterlaw05_ShaHex.f
      rw [awake_eq, Option.bind_some, if_pos rfl]
      by_cases h1 : s.size > 200
      · rw [if_pos (by omega)]
      · rw [if_neg (by omega), decide_eq_true (by omega)]
    · exact Ev.step (f := fun _ => some true) (fun k => by rw [paymasterlaw05_ShaHex.j0, if_pos rfl]) (Ev.now true)
  · have h1 : s.size ≤ 200 := by omega
    have h2 : t.size ≤ 200 := by omega
    have hz : ∀ s : ByteArray, (hexI s).size = 2 * s.size := fun s => by show (hexL s.data.toList).toArray.size = _; simp [hexL_length]
    have x1 : sha_Hex.f s = some (hexI s) := by rw [sha_Hex.f, if_pos (by omega)]
    have x2 : sha_Hex.f t = some (hexI t) := by rw [sha_Hex.f, if_pos (by omega)]
    have x3 : sha_Hex.f (s ++ t) = some (hexI s ++ hexI t) := by rw [sha_Hex.f, if_pos (by rw [ByteArray.size_append]; omega), hexI_append]
    have x4 : ((hexI s).toList == (hexI t).toList) = (s.toList == t.toList) := by
      rw [toList_beq, toList_beq]
      by_cases e : s = t
      · subst e; simp
      · rw [decide_eq_false e, decide_eq_false (fun h => e (hexI_inj _ _ h))]
    have z1 := hz s
    have z2 := hz t
    refine Ev.congr (f := fun k => paymasterlaw05_ShaHex.j0 k s t false) (fun k => ?_) ?_
    · unfold paymasterlaw05_ShaHex.f
      rw [awake_eq, Option.bind_some, if_pos rfl, if_neg (by omega), decide_eq_false (by omega)]
    · refine Ev.step (f := fun k => paymasterlaw05_ShaHex.j1 k s (hexI s) false) (fun k => ?_) ?_
      · rw [paymasterlaw05_ShaHex.j0, if_neg (by decide), x1, x2, Option.bind_some, Option.bind_some, wrap64_id (by omega) (by omega), if_pos (by omega), x4, if_neg (by simp), if_pos (by omega), x3, Option.bind_some, if_pos (by omega)]
        congr 1
        simp
      · exact Ev.step (f := fun k => paymasterlaw05_ShaHex.l0 k s (hexI s) 0) (fun k => by rw [paymasterlaw05_ShaHex.j1, if_neg (by decide)]) (hexlaw_l0 s h1 s.size 0 rfl)

end Go.Proofs.YtcidfahoajmcmaaDoor.P
