-- Hand-written contracts of this workplace, filled for this seat by a program.
import Derived.Test.YtcidfahoajmcmaaDoorPx0
import Derived.Test.YtcidfahoajmcmaaDoorPy2
import Derived.Test.YtcidfahoajmcmaaDoorHSha
import Derived.Test.YtcidfahoajmcmaaDoorHRefSum
import Derived.Test.YtcidfahoajmcmaaDoorUSha
import Derived.Test.YtcidfahoajmcmaaDoorHRow
import Derived.Test.YtcidfahoajmcmaaDoorUAwake
import Derived.Deep.QuietTactic
import Derived.BigQuiet
import Derived.Laws.DeepStrings4
import Derived.Deep.RegionWith
namespace Go.Proofs.YtcidfahoajmcmaaDoor.P
open Go.RowKit Go.Proofs.YtcidfahoajmcmaaDoorW.PrintWords Go.Proofs.YtcidfahoajmcmaaDoorW.PrintLast Go.Proofs.YtcidfahoajmcmaaDoorW.PrintMore
set_option linter.unusedVariables false
set_option linter.unusedSimpArgs false
set_option linter.unnecessarySimpa false

/-- The step of a block, beside a new state's block. -/
theorem next_beside (s : S8) (b : ByteArray) (hb : b.size = 64) (W : World) (hK : Laid W) :
    Calls Tryd.prog 24 #[stV s, .string b] (W.alloc (.cells (stA ⟨0, 0, 0, 0, 0, 0, 0, 0⟩) 25)).drew fun e w' => ∃ y : S8, Aside0 (y = nextI s b) ∧ e = .returned (.tuple #[stV y, .int .i64 0]) ∧ Aside0 (Below W.heap.size W w') ∧ W.heap.size < w'.heap.size ∧
      Aside0 (w'.heap[W.heap.size]? = some (.cells (stA ⟨0, 0, 0, 0, 0, 0, 0, 0⟩) 25 (0, 0))) ∧ (∀ i, w'.frozen? ⟨W.heap.size, i, none⟩ = false) ∧
      w'.cell? ⟨W.heap.size, 0, none⟩ = some (.int .u32 0) ∧ w'.cell? ⟨W.heap.size, 1, none⟩ = some (.int .u32 0) ∧ w'.cell? ⟨W.heap.size, 2, none⟩ = some (.int .u32 0) ∧ w'.cell? ⟨W.heap.size, 3, none⟩ = some (.int .u32 0) ∧
      w'.cell? ⟨W.heap.size, 4, none⟩ = some (.int .u32 0) ∧ w'.cell? ⟨W.heap.size, 5, none⟩ = some (.int .u32 0) ∧ w'.cell? ⟨W.heap.size, 6, none⟩ = some (.int .u32 0) ∧ w'.cell? ⟨W.heap.size, 7, none⟩ = some (.int .u32 0) := by
  have hB0 : Below W.heap.size W (W.alloc (.cells (stA ⟨0, 0, 0, 0, 0, 0, 0, 0⟩) 25)).drew := below_drew (below_alloc (Below.refl _ _) _)
  refine (next_ok.calls s b hb _ (hK.below hB0)).mono ?_
  rintro e w' ⟨rfl, hB⟩
  have h : w'.heap[W.heap.size]? = some (.cells (stA ⟨0, 0, 0, 0, 0, 0, 0, 0⟩) 25 (0, 0)) := blk_below (blk_drew (blk_new W _)) hB
  obtain ⟨c0, c1, c2, c3, c4, c5, c6, c7⟩ := st_cells h
  exact ⟨_, ⟨rfl⟩, rfl, ⟨hB0.trans (hB.mono hB0.size)⟩, blk_lt h, ⟨h⟩, fun i => blk_frozen h i, c0, c1, c2, c3, c4, c5, c6, c7⟩
theorem next_ahead (s : S8) (b : ByteArray) (hb : b.size = 64) (W : World) (hK : Laid W) :
    Calls Tryd.prog 24 #[stV s, .string b] W.drew fun e w' => ∃ y : S8, Aside0 (y = nextI s b) ∧ e = .returned (.tuple #[stV y, .int .i64 0]) ∧ Aside0 (Below W.heap.size W w') := by
  refine (next_ok.calls s b hb _ (hK.below (below_drew (Below.refl _ _)))).mono ?_
  rintro e w' ⟨rfl, hB⟩
  exact ⟨_, ⟨rfl⟩, rfl, ⟨(below_drew (Below.refl _ _)).trans hB⟩⟩
theorem digest_at (s : S8) (i : Nat) (h : i < 32) (h2 : i < (digestI s).size) : (((digestI s)[i]'h2).toNat : Int) = s.get (i / 4) / 2 ^ (24 - 8 * (i % 4)) % 256 := by
  have hl : i < (digL s 8).length := by rw [digL_length]; omega
  have e : (digestI s)[i]'h2 = UInt8.ofNat ((digL s 8)[i]'hl).toNat := by
    show (digestI s).data[i]'h2 = _
    simp [digestI, strOfNums]
  have hq : i / 4 < 8 := by omega
  have e2 : (digL s 8)[i]'hl = s.get (i / 4) / 2 ^ (24 - 8 * (i % 4)) % 256 := by
    have : (digL s 8)[i]? = some (s.get (i / 4) / 2 ^ (24 - 8 * (i % 4)) % 256) := by
      generalize hs : s.get = g
      have hd : digL s 8 = wordL (g 0) ++ wordL (g 1) ++ wordL (g 2) ++ wordL (g 3) ++ wordL (g 4) ++ wordL (g 5) ++ wordL (g 6) ++ wordL (g 7) := by
        rw [← hs]; simp [digL, List.range_succ]
      rw [hd]
      have : i = 0 ∨ i = 1 ∨ i = 2 ∨ i = 3 ∨ i = 4 ∨ i = 5 ∨ i = 6 ∨ i = 7 ∨ i = 8 ∨ i = 9 ∨ i = 10 ∨ i = 11 ∨ i = 12 ∨ i = 13 ∨ i = 14 ∨ i = 15 ∨ i = 16 ∨ i = 17 ∨ i = 18 ∨ i = 19 ∨ i = 20 ∨ i = 21 ∨ i = 22 ∨ i = 23 ∨ i = 24 ∨ i = 25 ∨ i = 26 ∨ i = 27 ∨ i = 28 ∨ i = 29 ∨ i = 30 ∨ i = 31 := by omega
      rcases this with h | h | h | h | h | h | h | h | h | h | h | h | h | h | h | h | h | h | h | h | h | h | h | h | h | h | h | h | h | h | h | h <;> subst h <;> simp [wordL]
    rw [List.getElem?_eq_getElem hl] at this
    exact Option.some.inj this
  rw [e, e2, UInt8.toNat_ofNat']
  generalize s.get (i / 4) / 2 ^ (24 - 8 * (i % 4)) = z
  omega
theorem st_cell {w : World} {g : Nat} {s : S8} {T : TypeId} (h : w.heap[g]? = some (.cells (stA s) T (0, 0))) (j : Nat) (hj : j < 8) : w.cell? ⟨g, j, none⟩ = some (.int .u32 (s.get j)) := by
  obtain ⟨c0, c1, c2, c3, c4, c5, c6, c7⟩ := st_cells h
  have : j = 0 ∨ j = 1 ∨ j = 2 ∨ j = 3 ∨ j = 4 ∨ j = 5 ∨ j = 6 ∨ j = 7 := by omega
  rcases this with h | h | h | h | h | h | h | h <;> subst h <;> assumption
theorem at_world {p q : World → Prop} (W : World) (h : p W) (H : ∀ W', p W' → q W') : q W := H W h
/-- The state of the chain and the next one lie side by side. -/
def Met (w : World) (g : Nat) (x y : S8) (B : Nat) (W : World) : Prop :=
  W.heap[g]? = some (.cells (stA x) 25 (0, 0)) ∧ W.heap[B]? = some (.cells (stA y) 25 (0, 0)) ∧ g ≠ B ∧ Below w.heap.size w W
theorem met1 {w w3 : World} {g : Nat} {x y : S8} (h : w3.heap[g]? = some (.cells (stA x) 25 (0, 0))) (hB : Below w.heap.size w w3) :
    Met w g x y w3.heap.size (w3.alloc (.cells #[.int .u32 y.x0, .int .u32 y.x1, .int .u32 y.x2, .int .u32 y.x3, .int .u32 y.x4, .int .u32 y.x5, .int .u32 y.x6, .int .u32 y.x7] 25)) :=
  ⟨blk_alloc h _, blk_new w3 _, Nat.ne_of_lt (blk_lt h), below_alloc hB _⟩
theorem met2 {w w3 : World} {g G : Nat} {x z y : S8} (h : w3.heap[g]? = some (.cells (stA x) 25 (0, 0))) (hz : w3.heap[G]? = some (.cells (stA z) 25 (0, 0))) (hn : g ≠ G) (hB : Below w.heap.size w w3) (hG : w.heap.size ≤ G) :
    Met w g x y G ((((((((w3.setCell ⟨G, 0, none⟩ (.int .u32 y.x0)).setCell ⟨G, 1, none⟩ (.int .u32 y.x1)).setCell ⟨G, 2, none⟩ (.int .u32 y.x2)).setCell ⟨G, 3, none⟩ (.int .u32 y.x3)).setCell ⟨G, 4, none⟩ (.int .u32 y.x4)).setCell ⟨G, 5, none⟩ (.int .u32 y.x5)).setCell ⟨G, 6, none⟩ (.int .u32 y.x6)).setCell ⟨G, 7, none⟩ (.int .u32 y.x7)) :=
  ⟨blk_far (blk_far (blk_far (blk_far (blk_far (blk_far (blk_far (blk_far h hn _) hn _) hn _) hn _) hn _) hn _) hn _) hn _, st_put8 hz y, hn,
    below_set (below_set (below_set (below_set (below_set (below_set (below_set (below_set hB hG) hG) hG) hG) hG) hG) hG) hG⟩
set_option maxRecDepth 100000 in
set_option maxHeartbeats 8000000 in
theorem lawblocks.calls (s : ByteArray) (w : World) (hK : Laid w) : Calls Tryd.prog 5 #[.string s] w fun e w' => e = .returned (.bool true) ∧ Below w.heap.size w w' := by
  have hu := Tryd.underlying25
  have HK := Aside0.mk hK
  clear hK
  by_cases hs : s.size > 2000
  · have b1 : decide (2000 < (s.size : Int)) = true := decide_eq_true (by omega)
    clear hs
    go_enter Tryd.func5, Tryd.ntmps5
    go_wp2_with fail
    refine (paymasterlaw05_awake.calls true _ HK.out awake_eq).mono ?_
    rintro e w0 ⟨rfl, hB⟩
    go_wp2
    go_ret
    exact ⟨rfl, hB⟩
  have b1 : decide (2000 < (s.size : Int)) = false := decide_eq_false (by omega)
  have hs2 : s.size ≤ 2000 := by omega
  have HS := Aside0.mk hs2
  clear hs hs2
  go_enter Tryd.func5, Tryd.ntmps5
  go_wp2_with fail
  refine (paymasterlaw05_awake.calls true _ HK.out awake_eq).mono ?_
  rintro e w0 ⟨rfl, hB⟩
  have HB0 := Aside0.mk hB
  clear hB
  have ew : IntKind.u64.wrap (s.size : Int) = (s.size : Int) := by rw [IntKind.wrap_u64]; have := HS.out; omega
  go_wp2_with fail
  clear b1 ew
  refine (padding.calls (s.size : Int) (by omega) (by have := HS.out; omega) _).mono ?_
  rintro e w1 ⟨rfl, hB⟩
  have HB1 := Aside0.mk (HB0.out.trans (hB.mono HB0.out.size))
  clear hB HB0
  have hcat : s.size + (padI (s.size : Int)).size ≤ 9223372036854775807 := by rw [padI_size]; unfold padZ; have := HS.out; omega
  go_upto_region 6 with (fail)
  clear hcat
  obtain ⟨T, hT⟩ : ∃ T, T = s ++ padI (s.size : Int) := ⟨_, rfl⟩
  rw [← hT]
  have hts : T.size = s.size + (9 + padZ (s.size : Int)) := by rw [hT, ByteArray.size_append, padI_size]
  have hz : ((padZ (s.size : Int) : Nat) : Int) = (119 - (s.size : Int)) % 64 := by simp only [padZ]; omega
  have b2 : (((T.size : Int) % 64) != 0) = false := bne_eq_false_iff_eq.2 (by omega)
  have b3 : decide ((T.size : Int) < (s.size : Int) + 9) = false := decide_eq_false (by omega)
  have b4 : decide ((s.size : Int) + 72 < (T.size : Int)) = false := decide_eq_false (by omega)
  have hn : ∃ n, T.size = 64 * n := ⟨T.size / 64, by omega⟩
  have hsb : (s.size : Int) ≤ 2000 := by have := HS.out; omega
  have hTb : T.size ≤ 3000 := by have := HS.out; omega
  have HT := Aside0.mk hT
  have HTB := Aside0.mk hTb
  have HN := Aside0.mk hn
  clear hT hts hz hn hTb
  go_wp2_with fail
  clear b2 b3 b4 hsb
  refine (first.calls _).mono ?_
  rintro e w2 ⟨rfl, hB⟩
  have HB2 := Aside0.mk (HB1.out.trans (hB.mono HB1.out.size))
  clear hB HB1
  go_wp2_with fail
  go_loopw [5] (fun v wr => ∃ k : Nat, v = .int .i64 (64 * (k : Int)) ∧ 64 * k ≤ T.size ∧ Aside0 (wr.heap[w2.heap.size]? = some (.cells (stA (chainI firstI T k)) 25 (0, 0))) ∧ Aside0 (Below w.heap.size w wr)) (fun v _ => T.size - (intOf v).toNat)
  case atStart => exact ⟨0, rfl, by omega, ⟨blk_new w2 _⟩, ⟨below_alloc HB2.out _⟩⟩
  case round =>
    obtain ⟨k, rfl, hk, HR, HB⟩ := hrel
    have HG0 := Aside0.mk HB2.out.size
    by_cases hlt : 64 * k < T.size
    · have hk1 : 64 * k + 64 ≤ T.size := by obtain ⟨n, hn⟩ := HN.out; omega
      have b1 : decide (64 * (k : Int) < (T.size : Int)) = true := decide_eq_true (by omega)
      obtain ⟨c0, c1, c2, c3, c4, c5, c6, c7⟩ := st_cells HR.out
      have hb64 : (T.extract (64 * k) (64 * k + 64)).size = 64 := by rw [ByteArray.size_extract]; omega
      have hgl : w2.heap.size < wr.heap.size := blk_lt HR.out
      have hgn : w2.heap.size ≠ wr.heap.size := Nat.ne_of_lt hgl
      have p0 : (0 : Int) ≤ 64 * (k : Int) := by omega
      have p1 : 64 * (k : Int) + 64 ≤ (T.size : Int) := by omega
      have p2 : (T.size : Int) ≤ 3000 := by have := HTB.out; omega
      have HB64 := Aside0.mk hb64
      have HKW := Aside0.mk (HK.out.below HB.out)
      clear hb64
      go_upto_region 12 with (fail)
      have ewr : IntKind.i64.wrap (64 * (k : Int) + 64) = 64 * (k : Int) + 64 := IntWalk.i64_in _ (by omega)
      have hsl : ∀ W : World, (Instr.slice 9 (.string T) (some (.int .i64 (64 * (k : Int)))) (some (.int .i64 (64 * (k : Int) + 64))) none).run Tryd.prog W = .ok (.string (T.extract (64 * k) (64 * k + 64))) W := fun W => by
        rw [run_slice_string_if (h := Tryd.underlying9), if_pos (by omega), if_pos (by omega)]
        congr 3 <;> omega
      go_region_with (first | (go_at_call 24; refine (next_beside (chainI firstI T k) (T.extract (64 * k) (64 * k + 64)) HB64.out wr HKW.out).mono ?_; rintro e w3 ⟨y, HY, rfl, HBB, hz3, HZ, hf6, z0, z1, z2, z3, z4, z5, z6, z7⟩) | (go_at_call 24; refine (next_ahead (chainI firstI T k) (T.extract (64 * k) (64 * k + 64)) HB64.out wr HKW.out).mono ?_; rintro e w3 ⟨y, HY, rfl, HBB⟩))
      all_goals
        have R3 := blk_below HR.out HBB.out
        have hy : chainI firstI T (k + 1) = y := by rw [chainI, HY.out]
        have HYY := Aside0.mk hy
        have hg3 : w2.heap.size < w3.heap.size := blk_lt R3
        have HR3 := Aside0.mk R3
        have HB3 := Aside0.mk (HB.out.trans (HBB.out.mono HB.out.size))
        clear c0 c1 c2 c3 c4 c5 c6 c7 hsl R3 hy p0 p1 p2 b1
        go_upto_region 15 with (fail)
        first
          | (have hz := HZ.out; with_reducible refine at_world (p := Met w w2.heap.size (chainI firstI T k) y wr.heap.size) (q := Code.wp _ _ _ _) _ ?_ ?_; (with_reducible exact met2 HR3.out hz hgn HB3.out HB.out.size); clear hz)
          | (with_reducible refine at_world (p := Met w w2.heap.size (chainI firstI T k) y w3.heap.size) (q := Code.wp _ _ _ _) _ ?_ ?_; (with_reducible exact met1 HR3.out HB3.out))
        rintro W5 ⟨hM1, hM2, hgB, hM3⟩
        have HM1 := Aside0.mk hM1
        have HM3 := Aside0.mk hM3
        obtain ⟨d0, d1, d2, d3, d4, d5, d6, d7⟩ := st_cells hM1
        obtain ⟨e0, e1, e2, e3, e4, e5, e6, e7⟩ := st_cells hM2
        have hf4 : ∀ i, W5.frozen? ⟨w2.heap.size, i, none⟩ = false := fun i => blk_frozen hM1 i
        clear hM1 hM2 hM3 HB3 HR3
        go_wp2_with fail
        go_roundw
        case rel =>
          refine ⟨k + 1, congrArg (Value.int .i64) (by omega), by omega, ⟨?_⟩, ⟨?_⟩⟩
          · rw [HYY.out]
            exact st_put8 HM1.out y
          · repeat (with_reducible first | exact HM3.out | refine below_set ?_ HG0.out)
        case measure => simp [intOf]; omega
    · have b1 : decide (64 * (k : Int) < (T.size : Int)) = false := decide_eq_false (by omega)
      have hkn : T.size / 64 = k := by obtain ⟨n, hn⟩ := HN.out; omega
      have hsum : refSumI s = digestI (chainI firstI T k) := by
        rw [refSumI, ← HT.out, hkn]
      have HSUM := Aside0.mk hsum
      clear hkn hsum
      go_wp2_with fail
      clear b1
      refine (sum.calls s _ (HK.out.below HB.out) (by have := HS.out; omega)).mono ?_
      rintro e w3 ⟨rfl, hB3⟩
      rw [sumI_ref s (by have := HS.out; omega), HSUM.out]
      have R3 := blk_below HR.out hB3
      have hok := chainI_ok T k
      generalize chainI firstI T k = st at R3 hok ⊢
      have b3 : (((digestI st).size : Int) != 32) = false := by
        rw [bne_eq_false_iff_eq, digestI, strOfNums_size, digL_length]; rfl
      have HR3 := Aside0.mk R3
      have HOK := Aside0.mk hok
      have HB3 := Aside0.mk (HB.out.trans (hB3.mono HB.out.size))
      clear hB3 R3 hok HR HB
      go_wp2_with fail
      clear b3
      go_loopw [9] (fun v wr => ∃ i : Nat, v = .int .i64 i ∧ i ≤ 32 ∧ Aside0 (wr.heap[w2.heap.size]? = some (.cells (stA st) 25 (0, 0))) ∧ Aside0 (Below w.heap.size w wr)) (fun v _ => 32 - (intOf v).toNat)
      case atStart => exact ⟨0, rfl, by omega, HR3, HB3⟩
      case round =>
        clear HR3 HB3
        obtain ⟨i, rfl, hi, HR3, HB3⟩ := hrel
        by_cases hlt2 : i < 32
        · have b4 : decide ((i : Int) < 32) = true := decide_eq_true (by omega)
          go_upto_region 22 with (fail)
          have h32 : (digestI st).size = 32 := by rw [digestI, strOfNums_size, digL_length]
          have h32i : i < (digestI st).size := by omega
          have hd : ((((digestI st)[i]'h32i).toNat : Int) != st.get (i / 4) / 2 ^ (24 - 8 * (i % 4)) % 256) = false := bne_eq_false_iff_eq.2 (digest_at st i hlt2 h32i)
          have HD := Aside0.mk hd
          clear hd
          have p1 : (0 : Int) ≤ (i : Int) := by omega
          have p2 : (i : Int) < ((digestI st).size : Int) := by omega
          have hc : wr.cell? ⟨w2.heap.size, i / 4, none⟩ = some (.int .u32 (st.get (i / 4))) := st_cell HR3.out _ (by omega)
          have p5 : (i : Int) < 32 := by omega
          have hu4 : (i : Int) % 4 < 4 := by omega
          have hu5 : 0 ≤ (i : Int) % 4 := by omega
          have e5 : IntKind.u64.wrap ((i : Int) % 4) = (i : Int) % 4 := by rw [IntKind.wrap_u64]; omega
          have e6 : IntKind.u64.wrap (8 * ((i : Int) % 4)) = 8 * ((i : Int) % 4) := by rw [IntKind.wrap_u64]; omega
          have e7 : IntKind.u64.wrap (24 - 8 * ((i : Int) % 4)) = 24 - 8 * ((i : Int) % 4) := by rw [IntKind.wrap_u64]; omega
          go_region
          go_wp2_with fail
          · rename_i hbad
            exact absurd (HD.out.symm.trans hbad) (by decide)
          · exact ⟨⟨i + 1, rfl, by omega, ⟨blk_drew HR3.out⟩, ⟨below_drew HB3.out⟩⟩, by simp [intOf]; omega⟩
        · have b4 : decide ((i : Int) < 32) = false := decide_eq_false (by omega)
          go_wp2_with fail
          go_ret
          exact ⟨rfl, HB3.out⟩
def paymasterlaw05_ShaBlocks.f (_ : ByteArray) : Option Bool := some true
theorem paymasterlaw05_ShaBlocks.calls (x0 : ByteArray) (r : Bool) (w : World) (hK : Laid w) (h : paymasterlaw05_ShaBlocks.f x0 = some r) :
    Calls Tryd.prog 5 #[.string x0] w fun e w' => e = .returned (.bool r) ∧ Below w.heap.size w w' := by
  cases h
  exact lawblocks.calls x0 w hK

end Go.Proofs.YtcidfahoajmcmaaDoor.P
