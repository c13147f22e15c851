-- Hand-written contracts of this workplace, filled for this seat by a program.
import Derived.Test.YtfcodmdckcihmaaDoorPx0
import Derived.Test.YtfcodmdckcihmaaDoorHParts
import Derived.Test.YtfcodmdckcihmaaDoorHWords
import Derived.StillTailTactics
namespace Go.Proofs.YtfcodmdckcihmaaDoor.P
open Go.RowKit Go.Proofs.YtfcodmdckcihmaaDoorW.PrintWords Go.Proofs.YtfcodmdckcihmaaDoorW.PrintLast Go.Proofs.YtfcodmdckcihmaaDoorW.PrintMore
set_option linter.unusedVariables false
set_option linter.unusedSimpArgs false
set_option linter.unnecessarySimpa false

/-- The rounds, one behind the other. -/
def roundsI (s : S8) (ws : List Int) : Nat → S8
  | 0 => s
  | n + 1 => roundI (roundsI s ws n) (kConst.getD n 0) (ws.getD n 0)
def addI (a b : S8) : S8 := ⟨(a.x0 + b.x0) % 4294967296, (a.x1 + b.x1) % 4294967296, (a.x2 + b.x2) % 4294967296, (a.x3 + b.x3) % 4294967296, (a.x4 + b.x4) % 4294967296, (a.x5 + b.x5) % 4294967296, (a.x6 + b.x6) % 4294967296, (a.x7 + b.x7) % 4294967296⟩
/-- What comes of a state by a block. -/
def nextI (s : S8) (b : ByteArray) : S8 := addI (roundsI s (wordsI b 64) 64) s
abbrev stA (s : S8) : Array Value := #[.int .u32 s.x0, .int .u32 s.x1, .int .u32 s.x2, .int .u32 s.x3, .int .u32 s.x4, .int .u32 s.x5, .int .u32 s.x6, .int .u32 s.x7]

theorem two_new (w : World) (o1 o2 : Obj) (w1 : World) (h : Below ((w.alloc o1).alloc o2).heap.size ((w.alloc o1).alloc o2) w1) :
    w1.heap[w.heap.size]? = some o1 ∧ w1.heap[w.heap.size + 1]? = some o2 ∧ w.heap.size + 2 ≤ w1.heap.size ∧ Below w.heap.size w w1 ∧ ((w.alloc o1).alloc o2).heap.size = w.heap.size + 2 := by
  have e1 : (w.alloc o1).heap.size = w.heap.size + 1 := by simp
  have e2 : ((w.alloc o1).alloc o2).heap.size = w.heap.size + 2 := by simp
  refine ⟨blk_below (blk_alloc (blk_new w _) _) h, ?_, by have := h.size; omega, ?_, e2⟩
  · have := blk_new (w.alloc o1) o2
    rw [e1] at this
    exact blk_below this h
  · exact Below.trans (below_alloc (below_alloc (Below.refl _ _) _) _) (h.mono (by omega))
theorem st_cells {w : World} {g : Nat} {s : S8} {T : TypeId} (h : w.heap[g]? = some (.cells (stA s) T (0, 0))) :
    w.cell? ⟨g, 0, none⟩ = some (.int .u32 s.x0) ∧ w.cell? ⟨g, 1, none⟩ = some (.int .u32 s.x1) ∧ w.cell? ⟨g, 2, none⟩ = some (.int .u32 s.x2) ∧ w.cell? ⟨g, 3, none⟩ = some (.int .u32 s.x3) ∧
    w.cell? ⟨g, 4, none⟩ = some (.int .u32 s.x4) ∧ w.cell? ⟨g, 5, none⟩ = some (.int .u32 s.x5) ∧ w.cell? ⟨g, 6, none⟩ = some (.int .u32 s.x6) ∧ w.cell? ⟨g, 7, none⟩ = some (.int .u32 s.x7) :=
  ⟨blk_cell h 0, blk_cell h 1, blk_cell h 2, blk_cell h 3, blk_cell h 4, blk_cell h 5, blk_cell h 6, blk_cell h 7⟩
def S8.get (s : S8) : Nat → Int
  | 0 => s.x0 | 1 => s.x1 | 2 => s.x2 | 3 => s.x3 | 4 => s.x4 | 5 => s.x5 | 6 => s.x6 | _ => s.x7
def S8.put (s : S8) (i : Nat) (x : Int) : S8 :=
  match i with
  | 0 => { s with x0 := x } | 1 => { s with x1 := x } | 2 => { s with x2 := x } | 3 => { s with x3 := x } | 4 => { s with x4 := x } | 5 => { s with x5 := x } | 6 => { s with x6 := x } | _ => { s with x7 := x }
theorem stA_get (s : S8) (i : Nat) (h : i < 8) : (stA s)[i]? = some (.int .u32 (s.get i)) := by
  have : i = 0 ∨ i = 1 ∨ i = 2 ∨ i = 3 ∨ i = 4 ∨ i = 5 ∨ i = 6 ∨ i = 7 := by omega
  rcases this with h | h | h | h | h | h | h | h <;> subst h <;> rfl
theorem stA_put (s : S8) (i : Nat) (h : i < 8) (x : Int) : (stA s).setIfInBounds i (.int .u32 x) = stA (s.put i x) := by
  have : i = 0 ∨ i = 1 ∨ i = 2 ∨ i = 3 ∨ i = 4 ∨ i = 5 ∨ i = 6 ∨ i = 7 := by omega
  rcases this with h | h | h | h | h | h | h | h <;> subst h <;> rfl
theorem st_put8 {w : World} {g : Nat} {s : S8} {T : TypeId} (h : w.heap[g]? = some (.cells (stA s) T (0, 0))) (y : S8) :
    ((((((((w.setCell ⟨g, 0, none⟩ (.int .u32 y.x0)).setCell ⟨g, 1, none⟩ (.int .u32 y.x1)).setCell ⟨g, 2, none⟩ (.int .u32 y.x2)).setCell ⟨g, 3, none⟩ (.int .u32 y.x3)).setCell ⟨g, 4, none⟩ (.int .u32 y.x4)).setCell ⟨g, 5, none⟩ (.int .u32 y.x5)).setCell ⟨g, 6, none⟩ (.int .u32 y.x6)).setCell ⟨g, 7, none⟩ (.int .u32 y.x7)).heap[g]? = some (.cells (stA y) T (0, 0)) := by
  have h0 := blk_put h 0 _ (stA_put ⟨s.x0, s.x1, s.x2, s.x3, s.x4, s.x5, s.x6, s.x7⟩ 0 (by decide) y.x0)
  simp only [S8.put] at h0
  have h1 := blk_put h0 1 _ (stA_put ⟨y.x0, s.x1, s.x2, s.x3, s.x4, s.x5, s.x6, s.x7⟩ 1 (by decide) y.x1)
  simp only [S8.put] at h1
  have h2 := blk_put h1 2 _ (stA_put ⟨y.x0, y.x1, s.x2, s.x3, s.x4, s.x5, s.x6, s.x7⟩ 2 (by decide) y.x2)
  simp only [S8.put] at h2
  have h3 := blk_put h2 3 _ (stA_put ⟨y.x0, y.x1, y.x2, s.x3, s.x4, s.x5, s.x6, s.x7⟩ 3 (by decide) y.x3)
  simp only [S8.put] at h3
  have h4 := blk_put h3 4 _ (stA_put ⟨y.x0, y.x1, y.x2, y.x3, s.x4, s.x5, s.x6, s.x7⟩ 4 (by decide) y.x4)
  simp only [S8.put] at h4
  have h5 := blk_put h4 5 _ (stA_put ⟨y.x0, y.x1, y.x2, y.x3, y.x4, s.x5, s.x6, s.x7⟩ 5 (by decide) y.x5)
  simp only [S8.put] at h5
  have h6 := blk_put h5 6 _ (stA_put ⟨y.x0, y.x1, y.x2, y.x3, y.x4, y.x5, s.x6, s.x7⟩ 6 (by decide) y.x6)
  simp only [S8.put] at h6
  have h7 := blk_put h6 7 _ (stA_put ⟨y.x0, y.x1, y.x2, y.x3, y.x4, y.x5, y.x6, s.x7⟩ 7 (by decide) y.x7)
  simp only [S8.put] at h7
  exact h7
/-- The first i words of a state have another one added. -/
def addN (a b : S8) : Nat → S8
  | 0 => a
  | i + 1 => (addN a b i).put i ((a.get i + b.get i) % 4294967296)
theorem addN_get (a b : S8) (i : Nat) (h : i < 8) : (addN a b i).get i = a.get i := by
  have : i = 0 ∨ i = 1 ∨ i = 2 ∨ i = 3 ∨ i = 4 ∨ i = 5 ∨ i = 6 ∨ i = 7 := by omega
  rcases this with h | h | h | h | h | h | h | h <;> subst h <;> rfl
theorem addN_8 (a b : S8) : addN a b 8 = addI a b := rfl

set_option maxRecDepth 100000 in
set_option maxHeartbeats 4000000 in
theorem next_ok.calls (s : S8) (b : ByteArray) (hb : b.size = 64) (w : World) (hK : Laid w) :
    Calls Tryd.prog 138 #[stV s, .string b] w fun e w' => e = .returned (.tuple #[stV (nextI s b), .int .i64 0]) ∧ Below w.heap.size w w' := by
  have hu := Tryd.underlying199
  have HK := Aside0.mk hK
  clear hK
  go_enter Tryd.func138, Tryd.ntmps138
  go_wp2_with fail
  refine (words_ok.calls b hb _).mono ?_
  rintro e w1 ⟨v, rfl, hown, hB1⟩
  obtain ⟨hs1, hz1, hZ, hBw, hsize⟩ := two_new w _ _ w1 hB1
  rw [hsize] at hown
  obtain ⟨hl, hown⟩ := hown
  rcases hown with ⟨rfl, h0⟩ | ⟨g, cap, cur, rfl, hg, hgr, hcap, hmax, hsz, htk⟩
  · omega
  obtain ⟨c0, c1, c2, c3, c4, c5, c6, c7⟩ := st_cells hs1
  have hn1 : w1.heap.size ≠ g := by have := blk_lt hgr; omega
  have hgs : g < w1.heap.size := blk_lt hgr
  have HS1 := Aside0.mk hs1
  have HZ1 := Aside0.mk hz1
  have HZZ := Aside0.mk hZ
  have HG := Aside0.mk hgr
  have HC := Aside0.mk htk
  have HBw := Aside0.mk hBw
  have HSZ := Aside0.mk hsz
  clear hs1 hz1 hZ hgr htk hBw hB1 hsz hl hsize
  go_wp2_with fail
  clear c0 c1 c2 c3 c4 c5 c6 c7
  have hcurg : ∀ k, k < 64 → cur[k]? = some (.int .u32 ((wordsI b 64).getD k 0)) := fun k hk => by
    have h1 : (cur.toList.take (64 * 1))[k]? = some (.int .u32 ((wordsI b 64).getD k 0)) := by
      rw [HC.out]; simp [nums, wordsI_length, hk]
    rw [List.getElem?_take_of_lt (by omega)] at h1
    simpa using h1
  have HCG := Aside0.mk hcurg
  clear hcurg
  go_loopw [24] (fun v wr => ∃ k : Nat, v = .int .i64 k ∧ k ≤ 64 ∧ Aside0 (wr.heap[w1.heap.size]? = some (.cells (stA (roundsI s (wordsI b 64) k)) 199 (0, 0))) ∧ Aside0 (Below w1.heap.size w1 wr)) (fun v _ => 64 - (intOf v).toNat)
  case atStart =>
    refine ⟨0, rfl, by omega, ⟨?_⟩, ⟨?_⟩⟩
    · exact blk_new w1 _
    · repeat (with_reducible first | exact Below.refl _ _ | apply below_alloc | apply pw_below_drewN | apply below_drew | refine Below.setCell ?_ (Nat.le_refl _) _)
  case round =>
    obtain ⟨k, rfl, hk, HR, HB⟩ := hrel
    by_cases hlt : k < 64
    · have b2 : decide ((k : Int) < 64) = true := decide_eq_true (by omega)
      have hlt2 : (k : Int) < 64 := by omega
      have hck : wr.cell? ⟨g, k, none⟩ = some (.int .u32 ((wordsI b 64).getD k 0)) := by
        rw [HB.out.cell hgs, blk_cell HG.out, HCG.out k hlt]
      obtain ⟨c0, c1, c2, c3, c4, c5, c6, c7⟩ := st_cells HR.out
      go_wp2_with fail
      refine (round.calls (roundsI s (wordsI b 64) k) k hlt _ _ (HK.out.below (Below.trans HBw.out (HB.out.mono (by have := HZZ.out; omega))))).mono ?_
      have hy : roundsI s (wordsI b 64) (k + 1) = roundI (roundsI s (wordsI b 64) k) (kConst.getD k 0) ((wordsI b 64)[k]?.getD 0) := rfl
      generalize roundI (roundsI s (wordsI b 64) k) (kConst.getD k 0) ((wordsI b 64)[k]?.getD 0) = y at hy ⊢
      rintro e w2 ⟨rfl, hB2⟩
      have HY := Aside0.mk hy
      clear hy
      have hR2 := blk_below HR.out hB2
      have hs2 : w1.heap.size < wr.heap.size := blk_lt HR.out
      have hf2 : ∀ i, w2.frozen? ⟨w1.heap.size, i, none⟩ = false := fun i => blk_frozen hR2 i
      obtain ⟨d0, d1, d2, d3, d4, d5, d6, d7⟩ := st_cells hR2
      clear c0 c1 c2 c3 c4 c5 c6 c7
      have HR2 := Aside0.mk hR2
      have HB2 := Aside0.mk (HB.out.trans (hB2.mono (Nat.le_of_lt hs2)))
      clear hR2 hB2
      go_wp2_with fail
      go_roundw
      case rel =>
        refine ⟨k + 1, by go_num, by omega, ⟨?_⟩, ⟨?_⟩⟩
        · rw [HY.out]
          exact st_put8 HR2.out y
        · repeat (with_reducible first | exact HB2.out | refine below_set ?_ (Nat.le_refl _))
      case measure => simp [intOf]; omega
    · have b2 : decide ((k : Int) < 64) = false := decide_eq_false (by omega)
      have e64 : k = 64 := by omega
      have HR2 := HR
      rw [e64] at HR2
      generalize hyy : roundsI s (wordsI b 64) 64 = y at HR2
      have HYY := Aside0.mk hyy
      clear hyy
      clear HR e64
      go_wp2_with fail
      clear b2
      go_loopw [34] (fun v wr2 => ∃ k : Nat, v = .int .i64 k ∧ k ≤ 8 ∧ Aside0 (wr2.heap[w1.heap.size]? = some (.cells (stA (addN y s k)) 199 (0, 0))) ∧ Aside0 (wr2.heap[w.heap.size]? = some (.cells (stA s) 199 (0, 0))) ∧ Aside0 (wr2.heap[w.heap.size + 1]? = some (.cells (stA ⟨0, 0, 0, 0, 0, 0, 0, 0⟩) 199 (0, 0))) ∧ Aside0 (Below w.heap.size w wr2)) (fun v _ => 8 - (intOf v).toNat)
      case atStart =>
        refine ⟨0, rfl, by omega, HR2, ⟨(HB.out.block _ (blk_lt HS1.out)).trans HS1.out⟩, ⟨(HB.out.block _ (blk_lt HZ1.out)).trans HZ1.out⟩, ⟨Below.trans HBw.out (HB.out.mono (by have := HZZ.out; omega))⟩⟩
      case round =>
        obtain ⟨k, rfl, hk, HO, HS, HZ, HBB⟩ := hrel
        by_cases hlt : k < 8
        · have b2 : decide ((k : Int) < 8) = true := decide_eq_true (by omega)
          have hlt2 : (k : Int) < 8 := by omega
          have hco : wr.cell? ⟨w1.heap.size, k, none⟩ = some (.int .u32 (y.get k)) := by
            rw [blk_cell HO.out, stA_get _ _ hlt, addN_get _ _ _ hlt]
          have hcs : wr.cell? ⟨w.heap.size, k, none⟩ = some (.int .u32 (s.get k)) := by
            rw [blk_cell HS.out, stA_get _ _ hlt]
          have hf : wr.frozen? ⟨w1.heap.size, k, none⟩ = false := blk_frozen HO.out k
          have hne : w.heap.size < w1.heap.size := by have := HZZ.out; omega
          have HY := Aside0.mk (show addN y s (k + 1) = (addN y s k).put k ((y.get k + s.get k) % 4294967296) from rfl)
          have HP := Aside0.mk (stA_put (addN y s k) k hlt ((y.get k + s.get k) % 4294967296))
          have HNE := Aside0.mk hne
          go_wp2_with fail
          go_still_tail 7, (by kernel_rfl)
          change wpList _ _ _ _ _ wr.drew
          clear hcs
          go_wp2_with fail
          go_roundw
          case rel =>
            refine ⟨k + 1, by go_num, by omega, ⟨?_⟩, ⟨?_⟩, ⟨?_⟩, ⟨?_⟩⟩
            · rw [HY.out, ← HP.out]
              exact blk_set (blk_drew HO.out) k _
            · exact blk_far (blk_drew HS.out) (show w.heap.size ≠ w1.heap.size from Nat.ne_of_lt HNE.out) _
            · exact blk_far (blk_drew HZ.out) (by have := HZZ.out; change w.heap.size + 1 ≠ w1.heap.size; omega) _
            · exact below_set (below_drew HBB.out) (Nat.le_of_lt HNE.out)
          case measure => simp [intOf]; omega
        · have b2 : decide ((k : Int) < 8) = false := decide_eq_false (by omega)
          obtain rfl : k = 8 := by omega
          have HO2 := HO.out
          rw [addN_8] at HO2
          obtain ⟨c0, c1, c2, c3, c4, c5, c6, c7⟩ := st_cells HO2
          clear HO2
          obtain ⟨z0, z1, z2, z3, z4, z5, z6, z7⟩ := st_cells HZ.out
          have hf : ∀ i, wr.frozen? ⟨w.heap.size + 1, i, none⟩ = false := fun i => blk_frozen HZ.out i
          go_wp2_with fail
          have hp := st_put8 HZ.out (addI y s)
          have hb2 : Below w.heap.size w ((((((((wr.setCell ⟨w.heap.size + 1, 0, none⟩ (.int .u32 (addI y s).x0)).setCell ⟨w.heap.size + 1, 1, none⟩ (.int .u32 (addI y s).x1)).setCell ⟨w.heap.size + 1, 2, none⟩ (.int .u32 (addI y s).x2)).setCell ⟨w.heap.size + 1, 3, none⟩ (.int .u32 (addI y s).x3)).setCell ⟨w.heap.size + 1, 4, none⟩ (.int .u32 (addI y s).x4)).setCell ⟨w.heap.size + 1, 5, none⟩ (.int .u32 (addI y s).x5)).setCell ⟨w.heap.size + 1, 6, none⟩ (.int .u32 (addI y s).x6)).setCell ⟨w.heap.size + 1, 7, none⟩ (.int .u32 (addI y s).x7)) := by
            repeat (with_reducible first | exact HBB.out | refine below_set ?_ (Nat.le_add_right _ _))
          generalize ((((((((wr.setCell ⟨w.heap.size + 1, 0, none⟩ (.int .u32 (addI y s).x0)).setCell ⟨w.heap.size + 1, 1, none⟩ (.int .u32 (addI y s).x1)).setCell ⟨w.heap.size + 1, 2, none⟩ (.int .u32 (addI y s).x2)).setCell ⟨w.heap.size + 1, 3, none⟩ (.int .u32 (addI y s).x3)).setCell ⟨w.heap.size + 1, 4, none⟩ (.int .u32 (addI y s).x4)).setCell ⟨w.heap.size + 1, 5, none⟩ (.int .u32 (addI y s).x5)).setCell ⟨w.heap.size + 1, 6, none⟩ (.int .u32 (addI y s).x6)).setCell ⟨w.heap.size + 1, 7, none⟩ (.int .u32 (addI y s).x7)) = W8 at hp hb2 ⊢
          obtain ⟨q0, q1, q2, q3, q4, q5, q6, q7⟩ := st_cells hp
          refine bodyPost_ret (v := .tuple #[stV (addI y s), .int .i64 0]) ?_ rfl ⟨?_, hb2⟩
          · clear c0 c1 c2 c3 c4 c5 c6 c7 z0 z1 z2 z3 z4 z5 z6 z7
            simp [results, Tryd.results138, go_sem, q0, q1, q2, q3, q4, q5, q6, q7, hu]
          · rw [nextI, HYY.out]

end Go.Proofs.YtfcodmdckcihmaaDoor.P
