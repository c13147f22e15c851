-- Hand-written contracts of this workplace, filled for this seat by a program.
import Derived.Test.YtlmmpncdemblbaaDoorPx0
import Derived.Test.YtlmmpncdemblbaaDoorShelf
import Derived.Lib.Builder
import Derived.Lib.UnsafeStr
import Derived.Laws.Externs
import Derived.Lib.Strings
import Derived.Lib.Slices
import Derived.Lib.Walk
namespace Go.Proofs.YtlmmpncdemblbaaDoor.P
open Go.RowKit Go.Proofs.YtlmmpncdemblbaaDoorW.PrintWords Go.Proofs.YtlmmpncdemblbaaDoorW.PrintLast Go.Proofs.YtlmmpncdemblbaaDoorW.PrintMore
set_option linter.unusedVariables false
set_option linter.unusedSimpArgs false
set_option linter.unnecessarySimpa false

/-! strings.Builder's WriteByte at this dump (the walks are the shelf's own, turned to it). -/
theorem bldSize : (Tryd.prog.info? 174).map (·.size) = some 2 := by kernel_rfl
theorem bldLies : liesAt Tryd.prog Tryd.prog.depth 174 (2 / Tryd.prog.cellsOf 174) 0 174 1 = true := by kernel_rfl
theorem byteInfo : (Tryd.prog.info? 5).map (fun i => (i.zero, i.size, i.bytes)) = some (some (.int .u8 0), 1, 1) := by kernel_rfl
theorem noEscapeExt (w : World) (x : Value) : (callFunc 132 #[x]).run Tryd.prog w = .ok (.value x) w := by
  rw [run_callFunc_extern Tryd.func132 (by kernel_rfl) (by kernel_rfl) (by kernel_rfl) (e := Extern.AbiNoEscape.same) (by kernel_rfl)]
  rw [Lib.run_noEscape]
  rfl
set_option maxHeartbeats 1000000 in
set_option maxRecDepth 100000 in
theorem copyCheck_used (b : Nat) (w : World) (h0 : w.cell? ⟨b, 0, none⟩ = some (.pointer (some ⟨b, 0, none⟩))) :
    Calls Tryd.prog 129 #[.pointer (some ⟨b, 0, none⟩)] w fun e w' => e = .returned (.tuple #[]) ∧ w' = w := by
  obtain ⟨j, hj, _⟩ := Option.map_eq_some_iff.1 bldSize
  go_enter Tryd.func129, Tryd.ntmps129
  go_wp2
  rw [Lib.run_neq_ptr_same w _ Tryd.underlying172 hj]
  go_wp2
  go_end0
  exact ⟨rfl, rfl⟩
set_option maxHeartbeats 1000000 in
set_option maxRecDepth 100000 in
theorem copyCheck_fresh (b : Nat) (w : World) (h0 : w.cell? ⟨b, 0, none⟩ = some (.pointer none)) (hsh : w.shape? b = some (174, 2)) (hfz : w.frozen? ⟨b, 0, none⟩ = false) :
    Calls Tryd.prog 129 #[.pointer (some ⟨b, 0, none⟩)] w fun e w' => e = .returned (.tuple #[]) ∧ w' = w.setCell ⟨b, 0, none⟩ (.pointer (some ⟨b, 0, none⟩)) := by
  obtain ⟨j, hj, hjs⟩ := Option.map_eq_some_iff.1 bldSize
  go_enter Tryd.func129, Tryd.ntmps129
  go_wp2
  rw [Lib.run_to_unsafe w ⟨b, 0, none⟩ Tryd.underlying172 Tryd.underlying191 hj (by rw [hjs]; decide) hsh (Nat.zero_lt_succ 1)]
  simp only [Result.andThen]
  rw [Oper.upon_value]
  go_wp2
  rw [noEscapeExt]
  rw [Oper.upon_value]
  go_wp2
  rw [Lib.run_from_unsafe w ⟨b, 0, none⟩ Tryd.underlying191 Tryd.underlying172 hj hsh bldLies]
  simp only [Result.andThen]
  rw [Oper.upon_value]
  go_wp2
  go_end0
  exact ⟨rfl, rfl⟩
theorem copyCheck.calls (B b : Nat) (bs : List Value) (w : World) (h : Lib.IsBuilder 174 5 B b bs w) :
    Calls Tryd.prog 129 #[.pointer (some ⟨b, 0, none⟩)] w fun e w' => e = .returned (.tuple #[]) ∧ (Lib.BuilderAt 174 5 B b (.pointer (some ⟨b, 0, none⟩)) bs w' ∧ Below B w w') := by
  rcases h with h | h
  · refine (copyCheck_fresh b w h.cell0 h.shape h.frozen0).mono ?_
    rintro e w' ⟨rfl, rfl⟩
    exact ⟨rfl, h.used _, (Below.refl B w).setCell (p := ⟨b, 0, none⟩) h.1 _⟩
  · refine (copyCheck_used b w h.cell0).mono ?_
    rintro e w' ⟨rfl, rfl⟩
    exact ⟨rfl, h, Below.refl B _⟩
set_option maxHeartbeats 2000000 in
set_option maxRecDepth 100000 in
theorem writeByte.calls (B b : Nat) (bs : List Value) (c : Int) (w : World) (h : Lib.IsBuilder 174 5 B b bs w) (hlen : bs.length + 1 ≤ 140737488355328) (hBw : B ≤ w.heap.size) :
    Calls Tryd.prog 121 #[.pointer (some ⟨b, 0, none⟩), .int .u8 c] w fun e w' => e = .returned .nilIface ∧ (Lib.IsBuilder 174 5 B b (bs ++ [.int .u8 c]) w' ∧ Below B w w') := by
  obtain ⟨i0, hi, hz0, hz1, hz2⟩ := info_parts byteInfo
  go_enter Tryd.func121, Tryd.ntmps121
  go_wp2_with fail
  refine (copyCheck.calls B b bs _ h).mono ?_
  rintro e w1 ⟨rfl, h1, hb1⟩
  obtain ⟨hB, v, hbk, hown, hne⟩ := h1
  have c0 : w1.cell? ⟨b, 0, none⟩ = some (.pointer (some ⟨b, 0, none⟩)) := by rw [Lib.cell_of_heap hbk]; rfl
  have c1 : w1.cell? ⟨b, 1, none⟩ = some v := by rw [Lib.cell_of_heap hbk]; rfl
  go_wp2_with (at_builtin; refine wpList_append_own _ rfl _ _ 56 rfl B 5 i0 (.int .u8 0) 1 1 Tryd.underlying56 hi hz0 hz1 hz2 rfl (by decide) _ _ _ rfl (hown.alloc _) ⟨w1.heap.size, 0, none⟩ 1 1 [.int .u8 c] rfl rfl ?c1 ?c2 ?c3 ?c4 ?c5 ?_)
  case c1 =>
    intro j u hj
    match j, hj with
    | 0, hj => simp at hj; subst hj; simp [Addr.add]
  case c2 => intro u hu; simp at hu; subst hu; rfl
  case c3 => unfold maxLen; omega
  case c4 => omega
  case c5 => have := hb1.size; simp; omega
  intro v' w2 hown' hgrow _
  have hlt : b < w1.heap.size := by
    rcases Nat.lt_or_ge b w1.heap.size with h' | h'
    · exact h'
    · simp [Array.getElem?_eq_none h'] at hbk
  have hb2 : w2.heap[b]? = some (.cells #[.pointer (some ⟨b, 0, none⟩), v] 174 (0, 0)) := by
    rw [hgrow.block b (by simp; omega) (fun e => hne e.symm), Lib.alloc_old w1 _ b hlt]
    exact hbk
  have d0 : w2.cell? ⟨b, 0, none⟩ = some (.pointer (some ⟨b, 0, none⟩)) := by rw [Lib.cell_of_heap hb2]; rfl
  have d1 : w2.cell? ⟨b, 1, none⟩ = some v := by rw [Lib.cell_of_heap hb2]; rfl
  have f1 : w2.frozen? ⟨b, 1, none⟩ = false := Lib.frozen_of_heap hb2 1
  obtain ⟨g, cap, rfl⟩ : ∃ g cap, v' = .slice (some ⟨g, 0, none⟩) (bs.length + 1) cap := by
    rcases hown'.2 with ⟨_, h0⟩ | ⟨g, cap, cur, hv, _⟩
    · omega
    · exact ⟨g, cap, hv⟩
  go_wp2
  go_ret
  refine ⟨rfl, ?_, ?_⟩
  · exact .inr (Lib.BuilderAt.put (T := 174) (e := 5) hB hb2 (bs' := bs ++ [.int .u8 c]) (by simpa using hown') (by decide))
  · exact ((hb1.alloc (by have := hb1.size; omega) _).grown hgrow (by have := hb1.size; simp; omega) (fun k hk => (hown.lt k hk).1)).setCell (p := ⟨b, 1, none⟩) hB _

/-- A builder in block b whose row lies at or beyond R. -/
def BAt (R b : Nat) (p : Value) (bs : List Value) (w : World) : Prop :=
  ∃ v, w.heap[b]? = some (.cells #[p, v] 174 (0, 0)) ∧ w.ownsRow R 5 1 v bs.length bs ∧ v.ownBlock ≠ some b
def IsBAt (R b : Nat) (bs : List Value) (w : World) : Prop := BAt R b (.pointer none) bs w ∨ BAt R b (.pointer (some ⟨b, 0, none⟩)) bs w
/-- What lies below R stands, but for block b. -/
structure KeepsBut (R b : Nat) (w w' : World) : Prop where
  os : w'.os = w.os
  tape : w'.tape = w.tape
  output : w'.output = w.output
  size : w.heap.size ≤ w'.heap.size
  block : ∀ k, k < R → k ≠ b → w'.heap[k]? = w.heap[k]?
theorem KeepsBut.refl (R b : Nat) (w : World) : KeepsBut R b w w := ⟨rfl, rfl, rfl, Nat.le_refl _, fun _ _ _ => rfl⟩
theorem KeepsBut.trans {R b : Nat} {w w1 w2 : World} (h : KeepsBut R b w w1) (k : KeepsBut R b w1 w2) : KeepsBut R b w w2 :=
  ⟨k.os.trans h.os, k.tape.trans h.tape, k.output.trans h.output, Nat.le_trans h.size k.size, fun i hi hn => (k.block i hi hn).trans (h.block i hi hn)⟩
theorem KeepsBut.below {R b : Nat} {w w1 : World} (h : KeepsBut R b w w1) (hb : b ≤ R) : Below b w w1 := ⟨h.os, h.tape, h.output, h.size, fun i hi => h.block i (by omega) (by omega)⟩
theorem IsBAt.builder {R b : Nat} {bs : List Value} {w : World} (h : IsBAt R b bs w) (hb : b ≤ R) : Lib.IsBuilder 174 5 b b bs w := by
  have key : ∀ p, BAt R b p bs w → Lib.BuilderAt 174 5 b b p bs w := by
    rintro p ⟨v, h1, ⟨hl, h2⟩, h3⟩
    refine ⟨Nat.le_refl _, v, h1, ⟨hl, ?_⟩, h3⟩
    rcases h2 with h2 | ⟨g, cap, cur, e1, e2, e3⟩
    · exact .inl h2
    · exact .inr ⟨g, cap, cur, e1, by omega, e3⟩
  rcases h with h | h
  · exact .inl (key _ h)
  · exact .inr (key _ h)
theorem BAt.fresh (R b : Nat) (w : World) (h : w.heap[b]? = some (.cells #[.pointer none, .slice none 0 0] 174 (0, 0))) : IsBAt R b [] w :=
  .inl ⟨_, h, ⟨rfl, .inl ⟨rfl, rfl⟩⟩, by simp [Value.ownBlock]⟩
theorem BAt.used {R b : Nat} {p : Value} {bs : List Value} {w : World} (h : BAt R b p bs w) (q : Value) : BAt R b q bs (w.setCell ⟨b, 0, none⟩ q) := by
  obtain ⟨v, hb, hown, hne⟩ := h
  refine ⟨v, ?_, ?_, hne⟩
  · have := blk_set hb 0 q
    simpa using this
  · obtain ⟨hl, h2⟩ := hown
    refine ⟨hl, ?_⟩
    rcases h2 with h2 | ⟨g, cap, cur, e1, e2, e3, e4⟩
    · exact .inl h2
    · refine .inr ⟨g, cap, cur, e1, e2, ?_, e4⟩
      have hgb : g ≠ b := by intro e; rw [e1, e] at hne; exact hne rfl
      exact (Below.heap_setCell w _ q g hgb).trans e3
theorem copyCheckR.calls (R b : Nat) (bs : List Value) (w : World) (h : IsBAt R b bs w) :
    Calls Tryd.prog 129 #[.pointer (some ⟨b, 0, none⟩)] w fun e w' => e = .returned (.tuple #[]) ∧ (BAt R b (.pointer (some ⟨b, 0, none⟩)) bs w' ∧ KeepsBut R b w w') := by
  rcases h with h | h
  · obtain ⟨v, hb, hown, hne⟩ := id h
    refine (copyCheck_fresh b w (by rw [Lib.cell_of_heap hb]; rfl) (by simp [World.shape?, hb]) (Lib.frozen_of_heap hb 0)).mono ?_
    rintro e w' ⟨rfl, rfl⟩
    exact ⟨rfl, h.used _, ⟨rfl, rfl, rfl, by simp, fun k _ hk => Below.heap_setCell w _ _ k hk⟩⟩
  · obtain ⟨v, hb, hown, hne⟩ := id h
    refine (copyCheck_used b w (by rw [Lib.cell_of_heap hb]; rfl)).mono ?_
    rintro e w' ⟨rfl, rfl⟩
    exact ⟨rfl, h, KeepsBut.refl _ _ _⟩
set_option maxHeartbeats 2000000 in
set_option maxRecDepth 100000 in
theorem writeByteR.calls (R b : Nat) (bs : List Value) (c : Int) (w : World) (h : IsBAt R b bs w) (hlen : bs.length + 1 ≤ 140737488355328) (hR : R ≤ w.heap.size) (hbR : b < R) :
    Calls Tryd.prog 121 #[.pointer (some ⟨b, 0, none⟩), .int .u8 c] w fun e w' => e = .returned .nilIface ∧ (IsBAt R b (bs ++ [.int .u8 c]) w' ∧ KeepsBut R b w w') := by
  obtain ⟨i0, hi, hz0, hz1, hz2⟩ := info_parts byteInfo
  go_enter Tryd.func121, Tryd.ntmps121
  go_wp2_with fail
  refine (copyCheckR.calls R b bs _ h).mono ?_
  rintro e w1 ⟨rfl, ⟨v, hbk, hown, hne⟩, hb1⟩
  have c0 : w1.cell? ⟨b, 0, none⟩ = some (.pointer (some ⟨b, 0, none⟩)) := by rw [Lib.cell_of_heap hbk]; rfl
  have c1 : w1.cell? ⟨b, 1, none⟩ = some v := by rw [Lib.cell_of_heap hbk]; rfl
  go_wp2_with (at_builtin; refine wpList_append_own _ rfl _ _ 56 rfl R 5 i0 (.int .u8 0) 1 1 Tryd.underlying56 hi hz0 hz1 hz2 rfl (by decide) _ _ _ rfl (hown.alloc _) ⟨w1.heap.size, 0, none⟩ 1 1 [.int .u8 c] rfl rfl ?c1 ?c2 ?c3 ?c4 ?c5 ?_)
  case c1 =>
    intro j u hj
    match j, hj with
    | 0, hj => simp at hj; subst hj; simp [Addr.add]
  case c2 => intro u hu; simp at hu; subst hu; rfl
  case c3 => unfold maxLen; omega
  case c4 => omega
  case c5 => have := hb1.size; simp; omega
  intro v' w2 hown' hgrow _
  have hsz1 := hb1.size
  have hb2 : w2.heap[b]? = some (.cells #[.pointer (some ⟨b, 0, none⟩), v] 174 (0, 0)) := by
    rw [hgrow.block b (by simp; omega) (fun e => hne e.symm), Lib.alloc_old w1 _ b (by omega)]
    exact hbk
  have d0 : w2.cell? ⟨b, 0, none⟩ = some (.pointer (some ⟨b, 0, none⟩)) := by rw [Lib.cell_of_heap hb2]; rfl
  have d1 : w2.cell? ⟨b, 1, none⟩ = some v := by rw [Lib.cell_of_heap hb2]; rfl
  have f1 : w2.frozen? ⟨b, 1, none⟩ = false := Lib.frozen_of_heap hb2 1
  have hgR : ∀ k, k < R → some k ≠ v.ownBlock := by
    intro k hk e
    rcases hown.2 with ⟨e2, _⟩ | ⟨g, cap, cur, e1, e2, _⟩
    · rw [e2] at e; cases e
    · rw [e1] at e; simp [Value.ownBlock] at e; omega
  have hkeep : ∀ k, k < R → k ≠ b → w2.heap[k]? = w.heap[k]? := fun k hk hn => by
    rw [hgrow.block k (by simp; omega) (hgR k hk), Lib.alloc_old w1 _ k (by omega)]
    exact hb1.block k hk hn
  have hgs := hgrow.size
  have hg' : ∃ g cap, v' = .slice (some ⟨g, 0, none⟩) (bs.length + 1) cap ∧ R ≤ g := by
    rcases hown'.2 with ⟨_, h0⟩ | ⟨g, cap, cur, hv, hg, _⟩
    · omega
    · exact ⟨g, cap, hv, hg⟩
  obtain ⟨g, cap, rfl, hg⟩ := hg'
  have hos : w2.os = w.os := hgrow.os.trans hb1.os
  have htp : w2.tape = w.tape := hgrow.tape.trans hb1.tape
  have hout : w2.output = w.output := hgrow.output.trans hb1.output
  go_wp2
  go_ret
  refine ⟨rfl, .inr ⟨.slice (some ⟨g, 0, none⟩) (bs.length + 1) cap, ?_, ?_, ?_⟩, hos, htp, hout, ?_, fun k hk hn => (Below.heap_setCell _ _ _ _ hn).trans (hkeep k hk hn)⟩
  · have := blk_set hb2 1 (.slice (some ⟨g, 0, none⟩) (bs.length + 1) cap)
    simpa using this
  · obtain ⟨hl, h2⟩ := hown'
    refine ⟨by simpa using hl, ?_⟩
    rcases h2 with ⟨_, h0⟩ | ⟨g2, cap2, cur, e1, e2, e3, e4⟩
    · omega
    · refine .inr ⟨g2, cap2, cur, by simpa using e1, e2, ?_, by simpa using e4⟩
      cases e1
      exact (Below.heap_setCell _ _ _ _ (show g ≠ b by omega)).trans e3
  · simp [Value.ownBlock]; omega
  · simp at hgs ⊢; omega

end Go.Proofs.YtlmmpncdemblbaaDoor.P
