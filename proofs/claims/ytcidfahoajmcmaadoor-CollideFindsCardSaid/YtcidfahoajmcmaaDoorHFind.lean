-- Hand-written contracts of this workplace, filled for this seat by a program.
import Derived.Test.YtcidfahoajmcmaaDoorPx0
import Derived.Test.YtcidfahoajmcmaaDoorPn6
import Derived.Test.YtcidfahoajmcmaaDoorUJoin
import Derived.Maps.Own
import Derived.Maps.OwnOps
import Derived.Maps.Views
import Derived.Deep.AppendLies
import Derived.Deep.RegionLaw
import Derived.WalkSpells
namespace Go.Proofs.YtcidfahoajmcmaaDoor.P
open Go.RowKit Go.Proofs.YtcidfahoajmcmaaDoorW.PrintWords Go.Proofs.YtcidfahoajmcmaaDoorW.PrintLast Go.Proofs.YtcidfahoajmcmaaDoorW.PrintMore
set_option linter.unusedVariables false
set_option linter.unusedSimpArgs false
set_option linter.unnecessarySimpa false

/-! The first collision: a map of the first texts, by their digests. -/
/-- How a slice in the map reads: nil, or one element, at the head of a block. -/
def RF (v : Value) : Option (DataW Unit × List MemPlace) :=
  match v with
  | .slice none 0 0 => some (.nil, [])
  | .slice (some ⟨g, 0, none⟩) 1 c => some (.slice [.lit (.int .i64 g), .lit (.int .i64 c)] [], [])
  | _ => none
abbrev encF (g c : Nat) : DataW Unit := .slice [.lit (.int .i64 (g : Int)), .lit (.int .i64 (c : Int))] []
theorem RF_nil : RF (.slice none 0 0) = some (.nil, []) := rfl
theorem RF_one (g c : Nat) : RF (.slice (some ⟨g, 0, none⟩) 1 c) = some (encF g c, []) := rfl
theorem RF_inv {v : Value} {d : DataW Unit} {ps : List MemPlace} (h : RF v = some (d, ps)) : (v = .slice none 0 0 ∧ d = .nil) ∨ ∃ g c : Nat, v = .slice (some ⟨g, 0, none⟩) 1 c ∧ d = encF g c := by
  unfold RF at h
  split at h
  · simp only [Option.some.injEq, Prod.mk.injEq] at h; exact .inl ⟨rfl, h.1.symm⟩
  · simp only [Option.some.injEq, Prod.mk.injEq] at h; exact .inr ⟨_, _, rfl, h.1.symm⟩
  · cases h
theorem encF_inj {g c g' c' : Nat} (h : encF g c = encF g' c') : g = g' ∧ c = c' := by
  simp only [encF, DataW.slice.injEq, List.cons.injEq, DataW.lit.injEq, Lit.int.injEq] at h
  omega
theorem keyLaw : Maps.Keyed Tryd.prog 9 := Maps.string_keyed Tryd.underlying9
theorem zeroStrs (w : World) : (zeroValue 48).run Tryd.prog w = .ok (.slice none 0 0) w := by kernel_rfl
theorem strInfo : (Tryd.prog.info? 9).map (fun i => (i.zero, i.size, i.bytes)) = some (some (.string ⟨#[]⟩), 1, 16) := by kernel_rfl
abbrev Firsts := List (ByteArray × Nat × Nat)
def lookF (dg : ByteArray → ByteArray) (ms : Firsts) (d : ByteArray) : Option (ByteArray × Nat × Nat) := ms.find? fun x => decide (dg x.1 = d)
/-- What the map holds: texts that were first, each with its place. -/
structure Held (W : World) (base b : Nat) (D : DataW Unit) (ms : Firsts) (dg : ByteArray → ByteArray) : Prop where
  own : W.ownsMap Tryd.prog 9 RF b ms.length D
  hit : ∀ d : ByteArray, D.atKey (.string d.data.toList) .nil = match lookF dg ms d with
    | some x => encF x.2.1 x.2.2
    | none => .nil
  cel : ∀ x ∈ ms, base ≤ x.2.1 ∧ x.2.1 ≠ b ∧ W.cell? ⟨x.2.1, 0, none⟩ = some (.string x.1)
theorem Held.kept {W W' : World} {base b : Nat} {D : DataW Unit} {ms : Firsts} {dg : ByteArray → ByteArray} (h : Held W base b D ms dg) (k : Below W.heap.size W W') : Held W' base b D ms dg :=
  ⟨h.own.kept (bar_below k (b + 1)) (by simp), h.hit, fun x hx => ⟨(h.cel x hx).1, (h.cel x hx).2.1, pw_cell_below k (h.cel x hx).2.2⟩⟩
theorem ba_toList (b : ByteArray) : b.toList = b.data.toList := by
  obtain ⟨⟨l⟩⟩ := b
  exact ByteArray.toList_mk l
theorem dat_inj {a b : ByteArray} (h : a.data.toList = b.data.toList) : a = b := ByteArray.ext (Array.toList_inj.1 h)
theorem Held.put {W W' : World} {base b : Nat} {D : DataW Unit} {ms : Firsts} {dg : ByteArray → ByteArray} {s : ByteArray} {g c : Nat} (h : Held W base b D ms dg) (hn : lookF dg ms (dg s) = none)
    (own : W'.ownsMap Tryd.prog 9 RF b (ms.length + 1) (D.put (.string (dg s).data.toList) (encF g c))) (hg : base ≤ g) (hgb : g ≠ b) (hc : W'.cell? ⟨g, 0, none⟩ = some (.string s))
    (hk : W.grownBy W' (some b)) : Held W' base b (D.put (.string (dg s).data.toList) (encF g c)) (ms ++ [(s, g, c)]) dg := by
  have hm : Maps.IsMap D := by obtain ⟨es, clock, _, _, _, hD⟩ := h.own; exact ⟨_, hD⟩
  refine ⟨by simpa using own, fun d => ?_, fun x hx => ?_⟩
  · have hap : lookF dg (ms ++ [(s, g, c)]) d = (lookF dg ms d).or (if dg s = d then some (s, g, c) else none) := by
      unfold lookF
      rw [List.find?_append]
      simp only [List.find?_cons, List.find?_nil]
      by_cases e : dg s = d <;> simp [e]
    rw [hap]
    by_cases e : dg s = d
    · subst e
      rw [Maps.atKey_put_same hm (by simp [WideAt.IsKeyLit]), hn]
      simp
    · rw [Maps.atKey_put_other (by intro h2; injection h2 with h2; exact e (dat_inj h2).symm), h.hit d]
      cases lookF dg ms d <;> simp [e]
  · rcases List.mem_append.1 hx with hx | hx
    · obtain ⟨h1, h2, h3⟩ := h.cel x hx
      exact ⟨h1, h2, (hk.cell_far _ (World.block_lt_of_cell? _ _ h3) (fun e => h2 (Option.some.inj e))).trans h3⟩
    · obtain rfl := List.mem_singleton.1 hx
      exact ⟨hg, hgb, hc⟩
theorem row_cell {w : World} {base g c : Nat} {T : TypeId} {s : ByteArray} (h : w.ownsRow base T 1 (.slice (some ⟨g, 0, none⟩) 1 c) 1 [.string s]) : base ≤ g ∧ w.cell? ⟨g, 0, none⟩ = some (.string s) := by
  obtain ⟨_, h⟩ := h
  rcases h with ⟨h, _⟩ | ⟨g', cap, cur, hv, hb, hg, hcap, hmax, hsz, htk⟩
  · cases h
  · simp only [Value.slice.injEq, Option.some.injEq, Addr.mk.injEq] at hv
    obtain ⟨⟨rfl, -, -⟩, -, rfl⟩ := hv
    refine ⟨hb, ?_⟩
    rw [blk_cell hg 0]
    have : (cur.toList.take (1 * 1))[0]? = some (.string s) := by rw [htk]; rfl
    rw [List.getElem?_take_of_lt (by omega)] at this
    simpa using this
/-- What the append, and the store, come to. -/
theorem find_put {W w3 w4 : World} {wd : Int} {s : ByteArray} {q b base g cap : Nat} {D : DataW Unit} {ms : Firsts} (hB3 : Below W.heap.size W w3) (hbase : base ≤ W.heap.size) (H3 : Held w3 base b D ms (dgI wd)) (hn : lookF (dgI wd) ms (dgI wd s) = none) (hm : ms.length < 1000000000)
    (hbl : b < W.heap.size) (hq : w3.heap[q]? = some (.cells #[.map (some b)] 88 (0, 0))) (hkey : keyOf Tryd.prog 9 (.string (dgI wd s)) = some (.string (dgI wd s).data.toList))
    (hown : w4.ownsRow w3.heap.size 9 1 (.slice (some ⟨g, 0, none⟩) (0 + 1) cap) (0 + 1) ([] ++ [.string s])) (hgrow : (w3.alloc (.cells #[.string s] 9)).drew.grownBy w4 none) :
    ∃ w5, (Instr.mapUpdate 88 (.map (some b)) (.string (dgI wd s)) (.slice (some ⟨g, 0, none⟩) (0 + 1) cap)).run Tryd.prog w4 = .ok () w5 ∧ w4.cell? ⟨q, 0, none⟩ = some (.map (some b)) ∧
      Aside0 ((∃ D' g c, Held w5 base b D' (ms ++ [(s, g, c)]) (dgI wd)) ∧ W.grownBy w5 (some b)) := by
  have hB4 : Below w3.heap.size w3 w4 := (below_drew (below_alloc (Below.refl _ _) _)).grown hgrow (by simp) (fun k e => by cases e)
  have H4 := H3.kept hB4
  obtain ⟨hg0, hgc⟩ := row_cell hown
  obtain ⟨w5, hrun, hown5, hgr⟩ := H4.own.update keyLaw Tryd.underlying88 (by unfold maxLen; omega) hkey (RF_one g cap)
  have hb3 : b < w3.heap.size := Nat.lt_of_lt_of_le hbl hB3.size
  have hc5 : w5.cell? ⟨g, 0, none⟩ = some (.string s) := (hgr.cell_far _ (World.block_lt_of_cell? _ _ hgc) (fun e => by have h9 : g = b := Option.some.inj e; omega)).trans hgc
  exact ⟨w5, hrun, blk_cell (blk_below hq hB4) 0, ⟨⟨⟨_, g, cap, H4.put hn hown5 (by have := hB3.size; omega) (by omega) hc5 hgr⟩, bar_trans (bar_trans (bar_below hB3 b) (bar_below hB4 b)) hgr⟩⟩⟩
set_option maxRecDepth 100000 in
set_option maxHeartbeats 4000000 in
theorem findNew.calls (wd : Int) (s : ByteArray) (p q b base : Nat) (D : DataW Unit) (ms : Firsts) (W : World) (hK : Laid W) (w1 : 1 ≤ wd) (w2 : wd ≤ 32) (hs : s.size ≤ 100000000) (hp : W.heap[p]? = some (.cells #[.int .i64 wd] 3 (0, 0)))
    (hq : W.heap[q]? = some (.cells #[.map (some b)] 88 (0, 0))) (hqb : q ≠ b) (hpb : p ≠ b) (hbase : base ≤ W.heap.size) (hm : ms.length < 1000000000)
    (H : Held W base b D ms (dgI wd)) (hn : lookF (dgI wd) ms (dgI wd s) = none) :
    Calls Tryd.prog 49 #[.string s, .pointer (some ⟨p, 0, none⟩), .pointer (some ⟨q, 0, none⟩)] W fun e w' => e = .returned (.tuple #[.string ByteArray.empty, .bool false]) ∧ (∃ D' g c, Held w' base b D' (ms ++ [(s, g, c)]) (dgI wd)) ∧ W.grownBy w' (some b) := by
  have c0 : W.cell? ⟨p, 0, none⟩ = some (.int .i64 wd) := blk_cell hp 0
  have HQ := Aside0.mk hq
  have HH := Aside0.mk H
  have HN := Aside0.mk hn
  have HKK := Aside0.mk hK
  have hsz : (dgI wd s).size ≤ maxLen := by rw [dgI_size wd s (by omega) w2]; unfold maxLen; omega
  have hkey := WideMaps.keyOf_string_mk Tryd.underlying9 hsz
  obtain ⟨i0, hi, hz0, hz1, hz2⟩ := info_parts strInfo
  have HB := Aside0.mk (H.own.lt)
  have HQL := Aside0.mk (blk_lt hq)
  clear hq H hn hK hp
  go_enter Tryd.func49, Tryd.ntmps49
  go_wp2_with fail
  refine (tag_Digest.calls wd s (dgI wd s) _ HKK.out (tagDigest_eq wd s w1 w2 hs)).mono ?_
  rintro e w3 ⟨rfl, hB3⟩
  clear c0
  have H3 := HH.out.kept hB3
  have q3 := blk_below HQ.out hB3
  have e0 : w3.cell? ⟨q, 0, none⟩ = some (.map (some b)) := blk_cell q3 0
  obtain ⟨v, ps, hrun, hv⟩ := H3.own.lookup keyLaw Tryd.underlying88 (zeroStrs w3) RF_nil hkey
  rw [H3.hit, HN.out] at hv
  obtain ⟨rfl, -⟩ | ⟨g, c, -, hbad⟩ := RF_inv hv
  · have HRUN := Aside0.mk hv
    have H3A := Aside0.mk H3
    have Q3 := Aside0.mk q3
    have ql : q < w3.heap.size := blk_lt q3
    have qn : q ≠ w3.heap.size := Nat.ne_of_lt ql
    have HB3 := Aside0.mk hB3
    clear hv H3 q3 hB3
    go_upto_region 4 with (fail)
    clear hrun
    go_region_law (refine step_append_lies _ rfl _ _ 48 rfl (w3.heap.size) 9 i0 (.string ⟨#[]⟩) 1 16 Tryd.underlying48 hi hz0 hz1 hz2 rfl (by decide) (.slice none 0 0) 0 [] rfl (World.ownsRow_nil _ _ _ _) ⟨w3.heap.size, 0, none⟩ 1 1 [.string s] rfl rfl ?c1 ?c2 (by decide) (by unfold maxLen; omega) (by omega) ?c3 _ rfl ?_; (case c1 => exact World.news_of_block (blk_drew (blk_new w3 _))); (case c2 => intro u hu; simp at hu; subst hu; rfl); (case c3 => simp); intro g cap w4 hown hgrow _ _; obtain ⟨w5, hrun5, e4, HFIN⟩ := find_put HB3.out hbase H3A.out HN.out hm HB.out Q3.out hkey hown hgrow; clear hown hgrow)
    all_goals
      clear hrun5 e4 e0
      go_wp2
      go_ret2
      exact ⟨rfl, HFIN.out⟩
  · cases hbad
set_option maxRecDepth 100000 in
set_option maxHeartbeats 4000000 in
theorem findOld.calls (wd : Int) (s t : ByteArray) (g c p q b base : Nat) (D : DataW Unit) (ms : Firsts) (W : World) (hK : Laid W) (w1 : 1 ≤ wd) (w2 : wd ≤ 32) (hs : s.size ≤ 100000000) (hp : W.heap[p]? = some (.cells #[.int .i64 wd] 3 (0, 0)))
    (hq : W.heap[q]? = some (.cells #[.map (some b)] 88 (0, 0))) (H : Held W base b D ms (dgI wd)) (hn : lookF (dgI wd) ms (dgI wd s) = some (t, g, c)) :
    Calls Tryd.prog 49 #[.string s, .pointer (some ⟨p, 0, none⟩), .pointer (some ⟨q, 0, none⟩)] W fun e w' => e = .returned (.tuple #[.string t, .bool (!(t.toList == s.toList))]) ∧ Below W.heap.size W w' := by
  have c0 : W.cell? ⟨p, 0, none⟩ = some (.int .i64 wd) := blk_cell hp 0
  have HQ := Aside0.mk hq
  have HH := Aside0.mk H
  have HN := Aside0.mk hn
  have HKK := Aside0.mk hK
  have hsz : (dgI wd s).size ≤ maxLen := by rw [dgI_size wd s (by omega) w2]; unfold maxLen; omega
  have hkey := WideMaps.keyOf_string_mk Tryd.underlying9 hsz
  clear hq H hn hK hp
  go_enter Tryd.func49, Tryd.ntmps49
  go_wp2_with fail
  refine (tag_Digest.calls wd s (dgI wd s) _ HKK.out (tagDigest_eq wd s w1 w2 hs)).mono ?_
  rintro e w3 ⟨rfl, hB3⟩
  clear c0
  have H3 := HH.out.kept hB3
  have q3 := blk_below HQ.out hB3
  have e0 : w3.cell? ⟨q, 0, none⟩ = some (.map (some b)) := blk_cell q3 0
  obtain ⟨v, ps, hrun, hv⟩ := H3.own.lookup keyLaw Tryd.underlying88 (zeroStrs w3) RF_nil hkey
  rw [H3.hit, HN.out] at hv
  obtain ⟨rfl, hbad⟩ | ⟨g', c', rfl, he⟩ := RF_inv hv
  · cases hbad
  · obtain ⟨rfl, rfl⟩ := encF_inj he
    obtain ⟨-, -, hcell⟩ := H3.cel (t, g, c) (List.mem_of_find?_eq_some HN.out)
    have HB3 := Aside0.mk hB3
    clear hv H3 q3 hB3 he
    go_upto_region 6 with (fail)
    clear hrun e0
    go_quiet (fail)
    go_wp2
    go_ret2
    exact ⟨rfl, by repeat (first | exact HB3.out | apply pw_below_drewN | apply below_drew)⟩
/-- The first collision among texts, the first of each digest known. -/
def findGo (dg : ByteArray → ByteArray) : List ByteArray → List ByteArray → ByteArray × ByteArray × Bool
  | _, [] => (ByteArray.empty, ByteArray.empty, false)
  | seen, s :: l => match seen.find? (fun t => decide (dg t = dg s)) with
    | none => findGo dg (seen ++ [s]) l
    | some t => if t = s then findGo dg seen l else (t, s, true)
def findI (w : Int) (l : List ByteArray) : ByteArray × ByteArray × Bool := if 1 ≤ w ∧ w ≤ 32 then findGo (dgI w) [] l else (ByteArray.empty, ByteArray.empty, false)
theorem look_fst (dg : ByteArray → ByteArray) (ms : Firsts) (d : ByteArray) : (lookF dg ms d).map (·.1) = (ms.map (·.1)).find? (fun t => decide (dg t = d)) := by
  induction ms with
  | nil => rfl
  | cons x ms ih =>
    unfold lookF at ih ⊢
    simp only [List.find?_cons, List.map_cons]
    by_cases e : dg x.1 = d
    · simp [e]
    · simp [e, ih]
theorem findGo_new {dg : ByteArray → ByteArray} {ms : Firsts} {s : ByteArray} {l : List ByteArray} {g c : Nat} (h : lookF dg ms (dg s) = none) : findGo dg (ms.map (·.1)) (s :: l) = findGo dg ((ms ++ [(s, g, c)]).map (·.1)) l := by
  have e := look_fst dg ms (dg s)
  rw [h] at e
  rw [findGo, ← e]
  simp
theorem findGo_old {dg : ByteArray → ByteArray} {ms : Firsts} {s t : ByteArray} {l : List ByteArray} {g c : Nat} (h : lookF dg ms (dg s) = some (t, g, c)) : findGo dg (ms.map (·.1)) (s :: l) = if t = s then findGo dg (ms.map (·.1)) l else (t, s, true) := by
  have e := look_fst dg ms (dg s)
  rw [h] at e
  rw [findGo, ← e]
  rfl
/-- What stands at a round's head. -/
structure AtF (w wr : World) (a : Int) (l : List ByteArray) (i : Nat) (D : DataW Unit) (ms : Firsts) : Prop where
  held : Held wr (w.heap.size + 3) (w.heap.size + 1) D ms (dgI a)
  go : findGo (dgI a) (ms.map (·.1)) (l.drop i) = findGo (dgI a) [] l
  num : ms.length ≤ i
  one : wr.heap[w.heap.size]? = some (.cells #[.int .i64 a] 3 (0, 0))
  two : wr.heap[w.heap.size + 2]? = some (.cells #[.map (some (w.heap.size + 1))] 88 (0, 0))
  below : Below w.heap.size w wr
  size : w.heap.size + 3 ≤ wr.heap.size
set_option maxRecDepth 100000 in
theorem collMay.calls (a : Int) (w : World) : Calls Tryd.prog 48 #[.int .i64 a] w fun e w' => e = .returned (.bool (decide (1 ≤ a) && decide (a ≤ 32))) ∧ w = w' := by
  by_cases h1 : a ≥ 1
  · have b1 : decide (1 ≤ a) = true := decide_eq_true h1
    go_enter Tryd.func48, Tryd.ntmps48
    go_wp2_with fail
    go_ret
    exact ⟨by simp [b1], rfl⟩
  · have b1 : decide (1 ≤ a) = false := decide_eq_false h1
    go_enter Tryd.func48, Tryd.ntmps48
    go_wp2_with fail
    go_ret
    exact ⟨by simp [b1], rfl⟩
set_option maxRecDepth 100000 in
set_option maxHeartbeats 4000000 in
theorem collFind.calls (a : Int) (A : Option Addr) (c : Nat) (l : List ByteArray) (w : World) (hK : Laid w) (hr : Kd.C Kd.string w A l.length l) (hc : l.length ≤ c) (hl : l.length < 1000000000) (hx : ∀ x ∈ l, x.size ≤ 100000000) :
    Calls Tryd.prog 29 #[.int .i64 a, .slice A l.length c] w fun e w' => e = .returned (.tuple #[.string (findI a l).1, .string (findI a l).2.1, .bool (findI a l).2.2]) ∧ Below w.heap.size w w' := by
  have HK := Aside0.mk hK
  have HR := Aside0.mk hr
  have HX := Aside0.mk hx
  have hmm := @run_makeMap Tryd.prog
  clear hK hr hx
  go_enter Tryd.func29, Tryd.ntmps29
  go_wp2_with fail
  refine (collMay.calls a _).mono ?_
  rintro e w1 ⟨rfl, rfl⟩
  by_cases hw : 1 ≤ a ∧ a ≤ 32
  · have hwb : (decide (1 ≤ a) && decide (a ≤ 32)) = true := by simp [hw]
    have hfi : findI a l = findGo (dgI a) [] l := by rw [findI, if_pos hw]
    have HFI := Aside0.mk hfi
    clear hfi
    obtain ⟨w1, w2⟩ := hw
    go_wp2_with fail
    clear hwb hmm
    go_loopw [20] (fun v wr => ∃ i : Nat, v = .int .i64 i ∧ i ≤ l.length ∧ Aside0 (∃ D ms, AtF w wr a l i D ms)) (fun v _ => l.length - (intOf v).toNat)
    case atStart =>
      refine ⟨0, rfl, by omega, ⟨.map [], [], ⟨?_, ?_, ?_⟩, rfl, Nat.le_refl _, ?_, ?_, ?_, ?_⟩⟩
      · have := (World.ownsMap_made (w.alloc (.cells #[.int .i64 a] 3)) Tryd.prog 9 RF).alloc (.cells #[.map (some (w.heap.size + 1))] 88)
        rw [show (w.alloc (.cells #[.int .i64 a] 3)).heap.size = w.heap.size + 1 by simp] at this
        exact this
      · intro d; rfl
      · intro x hx; cases hx
      · exact blk_alloc (blk_alloc (blk_new w _) _) _
      · have := blk_new ((w.alloc (.cells #[.int .i64 a] 3)).alloc (.map #[] 0)) (.cells #[.map (some (w.heap.size + 1))] 88)
        rw [show ((w.alloc (.cells #[.int .i64 a] 3)).alloc (.map #[] 0)).heap.size = w.heap.size + 2 by simp] at this
        exact this
      · repeat (first | exact Below.refl _ _ | apply below_alloc)
      · simp
    case round =>
      obtain ⟨i, rfl, hi, HI⟩ := hrel
      obtain ⟨D, ms, H⟩ := HI.out
      clear HI
      by_cases hlt : i < l.length
      · have b1 : decide ((i : Int) < (l.length : Int)) = true := decide_eq_true (by omega)
        have p1 : 0 ≤ (i : Int) := by omega
        have q1 : (i : Int) < (l.length : Int) := by omega
        obtain ⟨ad, e1, hx⟩ := Kd.at_string (Kd.C_below HR.out H.below) (i : Int) p1 q1
        have hxi : rdOf ByteArray.empty l (i : Int) = l[i] := by simp [rdOf, hlt]
        obtain ⟨x, hxx⟩ : ∃ x, x = l[i] := ⟨_, rfl⟩
        rw [hxi, ← hxx, Int.toNat_natCast] at hx
        have hdrop : l.drop i = x :: l.drop (i + 1) := by rw [hxx]; exact List.drop_eq_getElem_cons hlt
        have hxs : x.size ≤ 100000000 := by rw [hxx]; exact HX.out _ (List.getElem_mem _)
        have HXS := Aside0.mk hxs
        have HD := Aside0.mk hdrop
        have HH := Aside0.mk H
        clear hxi hxx hdrop hxs H
        cases e1
        go_wp2_with fail
        clear b1 hx
        cases hlk : lookF (dgI a) ms (dgI a x) with
        | none =>
          have HLK := Aside0.mk hlk
          clear hlk
          refine (findNew.calls a x w.heap.size (w.heap.size + 2) (w.heap.size + 1) (w.heap.size + 3) D ms _ (HK.out.below HH.out.below) w1 w2 HXS.out HH.out.one HH.out.two (by omega) (by omega) HH.out.size (by have := HH.out.num; omega) HH.out.held HLK.out).mono ?_
          rintro e w3 ⟨rfl, ⟨D', g, c', hheld⟩, hbar⟩
          have hat : AtF w w3 a l (i + 1) D' (ms ++ [(x, g, c')]) :=
            ⟨hheld, by have := HH.out.go; rw [HD.out, findGo_new (g := g) (c := c') HLK.out] at this; exact this, by have := HH.out.num; simp; omega,
              (hbar.block _ (blk_lt HH.out.one) (fun e => by have := Option.some.inj e; omega)).trans HH.out.one, (hbar.block _ (blk_lt HH.out.two) (fun e => by have := Option.some.inj e; omega)).trans HH.out.two,
              HH.out.below.grown hbar HH.out.below.size (fun k e => by cases e; omega), Nat.le_trans HH.out.size hbar.size⟩
          have HAT := Aside0.mk (⟨D', _, hat⟩ : ∃ D ms, AtF w w3 a l (i + 1) D ms)
          clear hheld hbar hat HH HLK HD HXS
          go_wp2_with fail
          go_roundw
          case rel => exact ⟨i + 1, by go_num, by omega, HAT⟩
          case measure => simp [intOf]; omega
        | some y =>
          obtain ⟨t, g, c'⟩ := y
          have HLK := Aside0.mk hlk
          clear hlk
          refine (findOld.calls a x t g c' w.heap.size (w.heap.size + 2) (w.heap.size + 1) (w.heap.size + 3) D ms _ (HK.out.below HH.out.below) w1 w2 HXS.out HH.out.one HH.out.two HH.out.held HLK.out).mono ?_
          rintro e w3 ⟨rfl, hB3⟩
          have hgo := HH.out.go
          rw [HD.out, findGo_old HLK.out] at hgo
          by_cases htx : t = x
          · have b2 : (t.toList == x.toList) = true := by rw [htx]; simp
            rw [if_pos htx] at hgo
            have hat : AtF w w3 a l (i + 1) D ms :=
              ⟨HH.out.held.kept hB3, hgo, by have := HH.out.num; omega, blk_below HH.out.one hB3, blk_below HH.out.two hB3, HH.out.below.trans (hB3.mono HH.out.below.size), Nat.le_trans HH.out.size hB3.size⟩
            have HAT := Aside0.mk (⟨D, _, hat⟩ : ∃ D ms, AtF w w3 a l (i + 1) D ms)
            clear hB3 hat HH HLK HD HXS hgo htx
            go_wp2_with fail
            go_roundw
            case rel => exact ⟨i + 1, by go_num, by omega, HAT⟩
            case measure => simp [intOf]; omega
          · have b2 : (t.toList == x.toList) = false := by
              rw [beq_eq_false_iff_ne]
              exact fun h => htx (dat_inj (by rw [← ba_toList t, ← ba_toList x]; exact h))
            rw [if_neg htx] at hgo
            have HGO := Aside0.mk hgo
            have HBF := Aside0.mk (HH.out.below.trans (hB3.mono HH.out.below.size))
            clear hB3 HH HLK HD HXS hgo htx
            go_wp2_with fail
            go_ret3
            exact ⟨by rw [HFI.out, ← HGO.out]; rfl, HBF.out⟩
      · have b1 : decide ((i : Int) < (l.length : Int)) = false := decide_eq_false (by omega)
        have hgo := H.go
        rw [List.drop_of_length_le (by omega)] at hgo
        have HGO := Aside0.mk hgo
        have HBF := Aside0.mk H.below
        clear H hgo
        go_wp2_with fail
        go_ret3
        exact ⟨by rw [HFI.out, ← HGO.out]; rfl, HBF.out⟩
  · have hwb : (decide (1 ≤ a) && decide (a ≤ 32)) = false := by simp; omega
    have hfi : findI a l = (ByteArray.empty, ByteArray.empty, false) := by rw [findI, if_neg hw]
    have HFI := Aside0.mk hfi
    clear hfi hw
    go_wp2_with fail
    go_ret3
    exact ⟨by rw [HFI.out]; rfl, by repeat (first | exact Below.refl _ _ | apply below_alloc)⟩
def collide_Find.f (a0 : Int) (l1 : List ByteArray) : Option (ByteArray × ByteArray × Bool) := if l1.length < 1000000000 ∧ ∀ x ∈ l1, x.size ≤ 100000000 then some (findI a0 l1) else none
theorem collide_Find.calls (a0 : Int) (A1 : Option Addr) (c1 : Nat) (l1 : List ByteArray) (r1 : ByteArray) (r2 : ByteArray) (r3 : Bool) (w : World) (hK : Laid w) (hr1 : Kd.C Kd.string w A1 l1.length l1) (hc1 : l1.length ≤ c1) (h : collide_Find.f a0 l1 = some (r1, r2, r3)) :
    Calls Tryd.prog 29 #[.int .i64 a0, .slice A1 l1.length c1] w fun e w' => e = .returned (.tuple #[.string r1, .string r2, .bool r3]) ∧ Below w.heap.size w w' := by
  unfold collide_Find.f at h
  split at h
  · rename_i hh
    have h := Option.some.inj h
    have h1 : r1 = (findI a0 l1).1 := by rw [h]
    have h2 : r2 = (findI a0 l1).2.1 := by rw [h]
    have h3 : r3 = (findI a0 l1).2.2 := by rw [h]
    rw [h1, h2, h3]
    exact collFind.calls a0 A1 c1 l1 w hK hr1 hc1 hh.1 hh.2
  · cases h

end Go.Proofs.YtcidfahoajmcmaaDoor.P
