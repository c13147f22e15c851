-- Hand-written contracts of this workplace, filled for this seat by a program.
import Derived.Test.YtfcodmdckcihmaaDoorPx0
import Derived.Test.YtfcodmdckcihmaaDoorHRight
import Derived.Test.YtfcodmdckcihmaaDoorHWords
import Derived.Test.YtfcodmdckcihmaaDoorHNext
import Derived.StillTailTactics
namespace Go.Proofs.YtfcodmdckcihmaaDoor.P
open Go.RowKit Go.Proofs.YtfcodmdckcihmaaDoorW.PrintWords Go.Proofs.YtfcodmdckcihmaaDoorW.PrintLast Go.Proofs.YtfcodmdckcihmaaDoorW.PrintMore
set_option linter.unusedVariables false
set_option linter.unusedSimpArgs false
set_option linter.unnecessarySimpa false

/-- What lies in memory while a block is gone through. -/
structure QI (w W : World) (s : S8) (row : Array Value) : Prop where
  below : Below w.heap.size w W
  s0 : W.heap[w.heap.size]? = some (.cells (stA s) 198 (0, 0))
  r0 : W.heap[w.heap.size + 1]? = some (.cells (stA ⟨0, 0, 0, 0, 0, 0, 0, 0⟩) 198 (0, 0))
  row : W.heap[w.heap.size + 2]? = some (.cells row 254 (0, 0))
theorem QI.drew {w W : World} {s : S8} {row : Array Value} (h : QI w W s row) : QI w W.drew s row := ⟨below_drew h.below, h.s0, h.r0, h.row⟩
theorem QI.put {w W : World} {s : S8} {row row' : Array Value} (h : QI w W s row) (k : Nat) (v : Value) (e : row.setIfInBounds k v = row') : QI w (W.setCell ⟨w.heap.size + 2, k, none⟩ v) s row' :=
  ⟨below_set h.below (by omega), blk_far h.s0 (show w.heap.size ≠ w.heap.size + 2 by omega) _, blk_far h.r0 (show w.heap.size + 1 ≠ w.heap.size + 2 by omega) _, blk_put h.row k v e⟩
theorem QI.far {w W : World} {s : S8} {row : Array Value} (h : QI w W s row) (g k : Nat) (hg : w.heap.size + 3 ≤ g) (v : Value) : QI w (W.setCell ⟨g, k, none⟩ v) s row :=
  ⟨below_set h.below (by omega), blk_far h.s0 (show w.heap.size ≠ g by omega) _, blk_far h.r0 (show w.heap.size + 1 ≠ g by omega) _, blk_far h.row (show w.heap.size + 2 ≠ g by omega) _⟩
theorem QI.alloc {w W : World} {s : S8} {row : Array Value} (h : QI w W s row) (o : Obj) : QI w (W.alloc o) s row :=
  ⟨below_alloc h.below o, blk_alloc h.s0 o, blk_alloc h.r0 o, blk_alloc h.row o⟩
theorem QI.start (w : World) (s : S8) (b : ByteArray) : QI w (((w.alloc (.cells (stA s) 198)).alloc (.cells (stA ⟨0, 0, 0, 0, 0, 0, 0, 0⟩) 198)).alloc (.cells zeros64 254)) s (rowA b 0) := by
  have e1 : (w.alloc (.cells (stA s) 198)).heap.size = w.heap.size + 1 := by simp
  have e2 : ((w.alloc (.cells (stA s) 198)).alloc (.cells (stA ⟨0, 0, 0, 0, 0, 0, 0, 0⟩) 198)).heap.size = w.heap.size + 2 := by simp
  refine ⟨below_alloc (below_alloc (below_alloc (Below.refl _ _) _) _) _, blk_alloc (blk_alloc (blk_new w _) _) _, blk_alloc ?_ _, ?_⟩
  · have := blk_new (w.alloc (.cells (stA s) 198)) (.cells (stA ⟨0, 0, 0, 0, 0, 0, 0, 0⟩) 198)
    rwa [e1] at this
  · have := blk_new ((w.alloc (.cells (stA s) 198)).alloc (.cells (stA ⟨0, 0, 0, 0, 0, 0, 0, 0⟩) 198)) (.cells zeros64 254)
    rw [e2] at this
    rw [rowA_zero]
    exact this
theorem QI.drewN {w W : World} {s : S8} {row : Array Value} (h : QI w W s row) (n : Nat) : QI w (W.drewN n) s row := ⟨pw_below_drewN h.below _, blk_drewN h.s0 _, blk_drewN h.r0 _, blk_drewN h.row _⟩
/-- A state of words. -/
structure S8.Ok (s : S8) : Prop where
  h0 : 0 ≤ s.x0 ∧ s.x0 < 4294967296
  h1 : 0 ≤ s.x1 ∧ s.x1 < 4294967296
  h2 : 0 ≤ s.x2 ∧ s.x2 < 4294967296
  h3 : 0 ≤ s.x3 ∧ s.x3 < 4294967296
  h4 : 0 ≤ s.x4 ∧ s.x4 < 4294967296
  h5 : 0 ≤ s.x5 ∧ s.x5 < 4294967296
  h6 : 0 ≤ s.x6 ∧ s.x6 < 4294967296
  h7 : 0 ≤ s.x7 ∧ s.x7 < 4294967296
theorem mod32 (x : Int) : 0 ≤ x % 4294967296 ∧ x % 4294967296 < 4294967296 := by omega
theorem S8.Ok.round {s : S8} (h : s.Ok) (k x : Int) : (roundI s k x).Ok := ⟨mod32 _, h.h0, h.h1, h.h2, mod32 _, h.h4, h.h5, h.h6⟩
theorem S8.Ok.rounds {s : S8} (h : s.Ok) (ws : List Int) : ∀ n, (roundsI s ws n).Ok
  | 0 => h
  | n + 1 => (S8.Ok.rounds h ws n).round _ _
theorem S8.Ok.add (a b : S8) : (addI a b).Ok := ⟨mod32 _, mod32 _, mod32 _, mod32 _, mod32 _, mod32 _, mod32 _, mod32 _⟩
theorem xor_max (e : Int) (h0 : 0 ≤ e) (h1 : e < 4294967296) : bits .xor .u32 IntKind.u32.max e = (4294967295 - e) % 4294967296 := by
  obtain ⟨n, rfl⟩ := Int.eq_ofNat_of_zero_le h0
  have hn : n < 4294967296 := by omega
  have e1 : BitVec.ofInt 32 4294967295 = BitVec.allOnes 32 := by decide
  show IntKind.u32.wrap ((BitVec.ofInt 32 4294967295 ^^^ BitVec.ofInt 32 (n : Int)).toNat : Int) = _
  rw [e1, BitVec.allOnes_xor, BitVec.toNat_not, BitVec.ofInt_natCast, BitVec.toNat_ofNat, IntKind.wrap_u32]
  omega
/-- A round, as the reference reckons it. -/
def quickR (r : S8) (k x : Int) : S8 :=
  ⟨(r.x7 + bits .xor .u32 (bits .xor .u32 (rotI r.x4 6) (rotI r.x4 11)) (rotI r.x4 25) + bits .xor .u32 (bits .and .u32 r.x4 r.x5) (bits .and .u32 ((4294967295 - r.x4) % 4294967296) r.x6) + k + x +
      (bits .xor .u32 (bits .xor .u32 (rotI r.x0 2) (rotI r.x0 13)) (rotI r.x0 22) + bits .xor .u32 (bits .xor .u32 (bits .and .u32 r.x0 r.x1) (bits .and .u32 r.x0 r.x2)) (bits .and .u32 r.x1 r.x2))) % 4294967296,
   r.x0, r.x1, r.x2,
   (r.x3 + (r.x7 + bits .xor .u32 (bits .xor .u32 (rotI r.x4 6) (rotI r.x4 11)) (rotI r.x4 25) + bits .xor .u32 (bits .and .u32 r.x4 r.x5) (bits .and .u32 ((4294967295 - r.x4) % 4294967296) r.x6) + k + x)) % 4294967296,
   r.x4, r.x5, r.x6⟩
theorem quickR_eq (r : S8) (k x : Int) (h : r.Ok) : quickR r k x = roundI r k x := by
  have e := xor_max r.x4 h.h4.1 h.h4.2
  unfold quickR roundI partsI
  rw [e]
  congr 1
  · simp only [S8.mk.injEq]
    omega
  · omega
theorem QI.far8 {w W : World} {s : S8} {row : Array Value} (h : QI w W s row) (g : Nat) (hg : w.heap.size + 3 ≤ g) (y : S8) :
    QI w ((((((((W.setCell ⟨g, 0, none⟩ (.int .u32 y.x0)).setCell ⟨g, 1, none⟩ (.int .u32 y.x1)).setCell ⟨g, 2, none⟩ (.int .u32 y.x2)).setCell ⟨g, 3, none⟩ (.int .u32 y.x3)).setCell ⟨g, 4, none⟩ (.int .u32 y.x4)).setCell ⟨g, 5, none⟩ (.int .u32 y.x5)).setCell ⟨g, 6, none⟩ (.int .u32 y.x6)).setCell ⟨g, 7, none⟩ (.int .u32 y.x7)) s row :=
  (((((((h.far g 0 hg _).far g 1 hg _).far g 2 hg _).far g 3 hg _).far g 4 hg _).far g 5 hg _).far g 6 hg _).far g 7 hg _
theorem bt_at' (b : ByteArray) (i : Nat) (h : i < b.size) : ((b[i]'h).toNat : Int) = bt b (i : Nat) := by
  simp [bt, h]
set_option maxRecDepth 100000 in
set_option maxHeartbeats 4000000 in
theorem quick.calls (s : S8) (b : ByteArray) (hs : s.Ok) (hb : b.size = 64) (tb : Nat) (w : World) (ht : ∀ i, i < 64 → w.cell? ⟨tb, i, none⟩ = some (.int .u32 (kConst.getD i 0))) :
    Calls Tryd.prog 174 #[stV s, .string b, .slice (some ⟨tb, 0, none⟩) 64 64] w fun e w' => e = .returned (stV (nextI s b)) ∧ Below w.heap.size w w' := by
  have hu := Tryd.underlying198
  have HT := Aside0.mk ht
  have HS := Aside0.mk hb
  have HOK := Aside0.mk hs
  clear ht hb hs
  go_enter Tryd.func174, Tryd.ntmps174
  go_wp2_with fail
  go_loopw [8] (fun v wr => ∃ k : Nat, v = .int .i64 k ∧ k ≤ 16 ∧ Aside0 (QI w wr s (rowA b k))) (fun v _ => 16 - (intOf v).toNat)
  case atStart => exact ⟨0, rfl, by omega, ⟨QI.start w s b⟩⟩
  case round =>
    obtain ⟨k, rfl, hk, HQ⟩ := hrel
    by_cases hlt : k < 16
    · have hb64 := HS.out
      have b1 : decide ((k : Int) < 16) = true := decide_eq_true (by omega)
      have i0 : 4 * k < b.size := by omega
      have i1 : 4 * k + 1 < b.size := by omega
      have i2 : 4 * k + 2 < b.size := by omega
      have i3 : 4 * k + 3 < b.size := by omega
      have j0 : 4 * (k : Int) < (b.size : Int) := by omega
      have j1 : 4 * (k : Int) + 1 < (b.size : Int) := by omega
      have j2 : 4 * (k : Int) + 2 < (b.size : Int) := by omega
      have j3 : 4 * (k : Int) + 3 < (b.size : Int) := by omega
      have p0 : 0 ≤ 4 * (k : Int) := by omega
      have p1 : 0 ≤ 4 * (k : Int) + 1 := by omega
      have p2 : 0 ≤ 4 * (k : Int) + 2 := by omega
      have p3 : 0 ≤ 4 * (k : Int) + 3 := by omega
      have n0 : (4 * (k : Int)).toNat = 4 * k := by omega
      have n1 : (4 * (k : Int) + 1).toNat = 4 * k + 1 := by omega
      have n2 : (4 * (k : Int) + 2).toNat = 4 * k + 2 := by omega
      have n3 : (4 * (k : Int) + 3).toNat = 4 * k + 3 := by omega
      have r64 : (k : Int) < 64 := by omega
      have e0 : IntKind.i64.wrap (4 * (k : Int)) = 4 * (k : Int) := IntWalk.i64_in _ (by omega)
      have e1 : IntKind.i64.wrap (4 * (k : Int) + 1) = 4 * (k : Int) + 1 := IntWalk.i64_in _ (by omega)
      have e2 : IntKind.i64.wrap (4 * (k : Int) + 2) = 4 * (k : Int) + 2 := IntWalk.i64_in _ (by omega)
      have e3 : IntKind.i64.wrap (4 * (k : Int) + 3) = 4 * (k : Int) + 3 := IntWalk.i64_in _ (by omega)
      clear hb64
      go_wp2_with fail
      go_still_tail 30, (by kernel_rfl)
      change wpList _ _ _ _ _ wr.drew
      clear e0 e1 e2 e3
      have hck : wr.cell? ⟨w.heap.size + 2, k, none⟩ = some (.int .u32 ((rowI b k).getD k 0)) := (blk_cell HQ.out.row _).trans (rowA_get b k k (by omega) (by omega))
      have hfk : wr.frozen? ⟨w.heap.size + 2, k, none⟩ = false := blk_frozen HQ.out.row k
      go_wp2_with fail
      go_roundw
      case rel =>
        refine ⟨k + 1, by go_num, by omega, ⟨(HQ.out.put k _ (rowA_step b k (by omega) _ ?_)).drew⟩⟩
        rw [if_pos hlt]
        simp only [fourI, IntKind.wrap_u32, bt_at']
      case measure => simp [intOf]; omega
    · have b1 : decide ((k : Int) < 16) = false := decide_eq_false (by omega)
      have e16 : k = 16 := by omega
      have HQ0 := HQ
      rw [e16] at HQ0
      clear e16 HQ
      go_wp2_with fail
      clear b1
      go_loopw [9] (fun v wr2 => ∃ k : Nat, v = .int .i64 k ∧ 16 ≤ k ∧ k ≤ 64 ∧ Aside0 (QI w wr2 s (rowA b k))) (fun v _ => 64 - (intOf v).toNat)
      case atStart => exact ⟨16, rfl, by omega, by omega, HQ0⟩
      case round =>
        clear HQ0
        obtain ⟨k, rfl, hk16, hk, HQ⟩ := hrel
        by_cases hlt : k < 64
        · have b2 : decide ((k : Int) < 64) = true := decide_eq_true (by omega)
          have hw15 : wr.cell? ⟨w.heap.size + 2, k - 15, none⟩ = some (.int .u32 ((rowI b k).getD (k - 15) 0)) := (blk_cell HQ.out.row _).trans (rowA_get b k (k - 15) (by omega) (by omega))
          have hw2 : wr.cell? ⟨w.heap.size + 2, k - 2, none⟩ = some (.int .u32 ((rowI b k).getD (k - 2) 0)) := (blk_cell HQ.out.row _).trans (rowA_get b k (k - 2) (by omega) (by omega))
          have n15 : ((k : Int) - 15).toNat = k - 15 := by omega
          have n2 : ((k : Int) - 2).toNat = k - 2 := by omega
          have p15 : 0 ≤ (k : Int) - 15 := by omega
          have p2 : 0 ≤ (k : Int) - 2 := by omega
          have r15 : 15 ≤ (k : Int) := by omega
          have r2 : 2 ≤ (k : Int) := by omega
          have q15 : (k : Int) - 15 < 64 := by omega
          have q2 : (k : Int) - 2 < 64 := by omega
          have e15 : IntKind.i64.wrap ((k : Int) - 15) = (k : Int) - 15 := IntWalk.i64_in _ (by omega)
          have e2 : IntKind.i64.wrap ((k : Int) - 2) = (k : Int) - 2 := IntWalk.i64_in _ (by omega)
          go_wp2_with fail
          go_quiet (fail)
          clear n15 n2 e15 e2 p15 p2 r15 r2 q15 q2 hw15 hw2
          go_wp2_with fail
          have hQ3 : QI w (wr.drewN nq) s (rowA b k) := ⟨pw_below_drewN HQ.out.below _, blk_drewN HQ.out.s0 _, blk_drewN HQ.out.r0 _, blk_drewN HQ.out.row _⟩
          generalize wr.drewN nq = w3 at hQ3 ⊢
          have HQ3 := Aside0.mk hQ3
          have hd : ∀ a, ({ w3 with drawn := w3.drawn + 1 } : World).cell? a = w3.cell? a := fun _ => rfl
          have hw16 : w3.cell? ⟨w.heap.size + 2, k - 16, none⟩ = some (.int .u32 ((rowI b k).getD (k - 16) 0)) := (blk_cell hQ3.row _).trans (rowA_get b k (k - 16) (by omega) (by omega))
          have hw7 : w3.cell? ⟨w.heap.size + 2, k - 7, none⟩ = some (.int .u32 ((rowI b k).getD (k - 7) 0)) := (blk_cell hQ3.row _).trans (rowA_get b k (k - 7) (by omega) (by omega))
          have e16 : IntKind.i64.wrap ((k : Int) - 16) = (k : Int) - 16 := IntWalk.i64_in _ (by omega)
          have e7 : IntKind.i64.wrap ((k : Int) - 7) = (k : Int) - 7 := IntWalk.i64_in _ (by omega)
          have n16 : ((k : Int) - 16).toNat = k - 16 := by omega
          have n7 : ((k : Int) - 7).toNat = k - 7 := by omega
          have p16 : 0 ≤ (k : Int) - 16 := by omega
          have p7 : 0 ≤ (k : Int) - 7 := by omega
          have r16 : 16 ≤ (k : Int) := by omega
          have r7 : 7 ≤ (k : Int) := by omega
          have q16 : (k : Int) - 16 < 64 := by omega
          have q7 : (k : Int) - 7 < 64 := by omega
          have q0 : (k : Int) < 64 := by omega
          clear hQ3
          go_still_tail 28, (by kernel_rfl)
          still_call (rightR _ 7 (by decide) (by decide) _)
          repeat still_step
          still_call (rightR _ 18 (by decide) (by decide) _)
          repeat still_step
          still_call (rightR _ 17 (by decide) (by decide) _)
          repeat still_step
          still_call (rightR _ 19 (by decide) (by decide) _)
          repeat still_step
          refine wpStill_nil ?_
          change wpList _ _ _ _ _ w3.drew
          clear hd n16 n7 e16 e7 p16 p7 r16 r7 q16 q7 hw16 hw7
          have hck : w3.cell? ⟨w.heap.size + 2, k, none⟩ = some (.int .u32 ((rowI b k).getD k 0)) := (blk_cell HQ3.out.row _).trans (rowA_get b k k (by omega) (by omega))
          have hfk : w3.frozen? ⟨w.heap.size + 2, k, none⟩ = false := blk_frozen HQ3.out.row k
          go_wp2_with fail
          go_roundw
          case rel =>
            refine ⟨k + 1, by go_num, by omega, by omega, ⟨(HQ3.out.put k _ (rowA_step b k hlt _ ?_)).drew⟩⟩
            rw [if_neg (by omega)]
            simp only [schedI, IntKind.wrap_u32, ← List.getD_eq_getElem?_getD]
            rw [rowI_done b k (k - 16) (by omega), rowI_done b k (k - 15) (by omega), rowI_done b k (k - 7) (by omega), rowI_done b k (k - 2) (by omega)]
          case measure => simp [intOf]; omega
        · have b2 : decide ((k : Int) < 64) = false := decide_eq_false (by omega)
          have e64 : k = 64 := by omega
          have HQ0 := HQ
          rw [e64] at HQ0
          clear e64 HQ
          obtain ⟨d0, d1, d2, d3, d4, d5, d6, d7⟩ := st_cells HQ0.out.s0
          have hlt0 : w.heap.size + 2 < wr.heap.size := blk_lt HQ0.out.row
          have hne0 : w.heap.size ≠ wr.heap.size := by omega
          go_wp2_with fail
          clear b2 d0 d1 d2 d3 d4 d5 d6 d7 hne0
          obtain ⟨N4, hN4⟩ : ∃ n, n = wr.heap.size := ⟨_, rfl⟩
          rw [← hN4] at hlt0 ⊢
          go_loopw [13] (fun v wr3 => ∃ k : Nat, v = .int .i64 k ∧ k ≤ 64 ∧ Aside0 (QI w wr3 s (rowA b 64)) ∧ Aside0 (wr3.heap[N4]? = some (.cells (stA (roundsI s (wordsI b 64) k)) 198 (0, 0)))) (fun v _ => 64 - (intOf v).toNat)
          case atStart => exact ⟨0, rfl, by omega, ⟨HQ0.out.alloc _⟩, ⟨by rw [hN4]; exact blk_new wr _⟩⟩
          case round =>
            clear HQ0 hN4
            obtain ⟨k, rfl, hk, HQ, HN⟩ := hrel
            by_cases hlt : k < 64
            · have b2 : decide ((k : Int) < 64) = true := decide_eq_true (by omega)
              obtain ⟨c0, c1, c2, c3, c4, c5, c6, c7⟩ := st_cells HN.out
              go_wp2_with fail
              go_quiet (fail)
              clear c0 c1 c2 c3 c4 c5 c6 c7
              go_wp2_with fail
              have hQ3 := HQ.out.drewN nq
              have hN3 := blk_drewN HN.out nq
              generalize wr.drewN nq = w3 at hQ3 hN3 ⊢
              obtain ⟨c0, c1, c2, c3, c4, c5, c6, c7⟩ := st_cells hN3
              have HQ3 := Aside0.mk hQ3
              have HN3 := Aside0.mk hN3
              clear hQ3 hN3
              go_quiet (fail)
              clear c0 c1 c2 c3 c4 c5 c6 c7
              go_wp2_with fail
              have hQ4 := HQ3.out.drewN nq
              have hN4 := blk_drewN HN3.out nq
              generalize w3.drewN nq = w4 at hQ4 hN4 ⊢
              obtain ⟨c0, c1, c2, c3, c4, c5, c6, c7⟩ := st_cells hN4
              have hct : w4.cell? ⟨tb, k, none⟩ = some (.int .u32 (kConst.getD k 0)) := pw_cell_below hQ4.below (HT.out k hlt)
              have hcw : w4.cell? ⟨w.heap.size + 2, k, none⟩ = some (.int .u32 ((wordsI b 64).getD k 0)) := by
                rw [blk_cell hQ4.row, rowA_get b 64 k (by omega) hlt, rowI_done b 64 k hlt]
              have g64 : (k : Int) < 64 := by omega
              have hd : ∀ a, ({ w4 with drawn := w4.drawn + 1 } : World).cell? a = w4.cell? a := fun _ => rfl
              have HQ4 := Aside0.mk hQ4
              have HN4 := Aside0.mk hN4
              clear hQ4 hN4
              refine wp_region_still_lit (by kernel_rfl) (by kernel_rfl) ?_
              repeat still_step
              still_call (rightR _ 6 (by decide) (by decide) _)
              repeat still_step
              still_call (rightR _ 11 (by decide) (by decide) _)
              repeat still_step
              still_call (rightR _ 25 (by decide) (by decide) _)
              repeat still_step
              refine wpStill_nil ?_
              change Exit.then _ _ _ _ w4.drew
              have hf : ∀ i, w4.frozen? ⟨N4, i, none⟩ = false := fun i => blk_frozen HN4.out i
              clear hd hct hcw g64
              go_wp2_with fail
              refine (rightR _ 2 (by decide) (by decide) _).mono ?_
              rintro en w5 ⟨rfl, rfl⟩
              go_wp2_with fail
              refine (rightR _ 13 (by decide) (by decide) _).mono ?_
              rintro en w5 ⟨rfl, rfl⟩
              go_wp2_with fail
              refine (rightR _ 22 (by decide) (by decide) _).mono ?_
              rintro en w5 ⟨rfl, rfl⟩
              go_wp2_with fail
              go_roundw
              case rel =>
                have hy := quickR_eq (roundsI s (wordsI b 64) k) (kConst[k]?.getD 0) ((wordsI b 64)[k]?.getD 0) (HOK.out.rounds _ _)
                have hy2 : roundsI s (wordsI b 64) (k + 1) = roundI (roundsI s (wordsI b 64) k) (kConst[k]?.getD 0) ((wordsI b 64)[k]?.getD 0) := rfl
                rw [← hy] at hy2
                have q1 := (HQ4.out.far8 N4 (by omega) (quickR (roundsI s (wordsI b 64) k) (kConst[k]?.getD 0) ((wordsI b 64)[k]?.getD 0))).drew
                have q2 := st_put8 HN4.out (quickR (roundsI s (wordsI b 64) k) (kConst[k]?.getD 0) ((wordsI b 64)[k]?.getD 0))
                have hA : stA (quickR (roundsI s (wordsI b 64) k) (kConst[k]?.getD 0) ((wordsI b 64)[k]?.getD 0)) = stA (roundsI s (wordsI b 64) (k + 1)) := by rw [hy2]
                rw [hA] at q2
                clear hy hy2 hA
                simp only [quickR] at q1 q2
                exact ⟨k + 1, by go_num, by omega, ⟨q1⟩, ⟨blk_drew q2⟩⟩
              case measure => simp [intOf]; omega
            · have b2 : decide ((k : Int) < 64) = false := decide_eq_false (by omega)
              have e64 : k = 64 := by omega
              have HN0 := HN
              rw [e64] at HN0
              clear e64 HN
              have HQ0 := HQ
              clear HQ
              go_wp2_with fail
              clear b2
              generalize hyy : roundsI s (wordsI b 64) 64 = y at HN0
              have HYY := Aside0.mk hyy
              clear hyy
              go_loopw [22] (fun v wr3 => ∃ k : Nat, v = .int .i64 k ∧ k ≤ 8 ∧ Aside0 (QI w wr3 s (rowA b 64)) ∧ Aside0 (wr3.heap[N4]? = some (.cells (stA (addN y s k)) 198 (0, 0)))) (fun v _ => 8 - (intOf v).toNat)
              case atStart => exact ⟨0, rfl, by omega, HQ0, HN0⟩
              case round =>
                clear HQ0 HN0
                obtain ⟨k, rfl, hk, HQ, HN⟩ := hrel
                by_cases hlt : k < 8
                · have b2 : decide ((k : Int) < 8) = true := decide_eq_true (by omega)
                  have hlt2 : (k : Int) < 8 := by omega
                  have hco : wr.cell? ⟨N4, k, none⟩ = some (.int .u32 (y.get k)) := by
                    rw [blk_cell HN.out, stA_get _ _ hlt, addN_get _ _ _ hlt]
                  have hcs : wr.cell? ⟨w.heap.size, k, none⟩ = some (.int .u32 (s.get k)) := by
                    rw [blk_cell HQ.out.s0, stA_get _ _ hlt]
                  have hf : wr.frozen? ⟨N4, k, none⟩ = false := blk_frozen HN.out k
                  have HY := Aside0.mk (show addN y s (k + 1) = (addN y s k).put k ((y.get k + s.get k) % 4294967296) from rfl)
                  have HP := Aside0.mk (stA_put (addN y s k) k hlt ((y.get k + s.get k) % 4294967296))
                  go_wp2_with fail
                  go_still_tail 8, (by kernel_rfl)
                  change wpList _ _ _ _ _ wr.drew
                  clear hcs
                  go_wp2_with fail
                  go_roundw
                  case rel =>
                    refine ⟨k + 1, by go_num, by omega, ⟨?_⟩, ⟨?_⟩⟩
                    · exact (HQ.out.far N4 k (by omega) _).drew
                    · rw [HY.out, ← HP.out]
                      exact blk_set HN.out k _
                  case measure => simp [intOf]; omega
                · have b2 : decide ((k : Int) < 8) = false := decide_eq_false (by omega)
                  have e8 : k = 8 := by omega
                  have hN := HN.out
                  rw [e8, addN_8] at hN
                  clear e8
                  obtain ⟨c0, c1, c2, c3, c4, c5, c6, c7⟩ := st_cells hN
                  obtain ⟨z0, z1, z2, z3, z4, z5, z6, z7⟩ := st_cells HQ.out.r0
                  clear hN
                  have hf : ∀ i, wr.frozen? ⟨w.heap.size + 1, i, none⟩ = false := fun i => blk_frozen HQ.out.r0 i
                  go_wp2_with fail
                  have hp := st_put8 HQ.out.r0 (addI y s)
                  have hb2 : Below w.heap.size w ((((((((wr.setCell ⟨w.heap.size + 1, 0, none⟩ (.int .u32 (addI y s).x0)).setCell ⟨w.heap.size + 1, 1, none⟩ (.int .u32 (addI y s).x1)).setCell ⟨w.heap.size + 1, 2, none⟩ (.int .u32 (addI y s).x2)).setCell ⟨w.heap.size + 1, 3, none⟩ (.int .u32 (addI y s).x3)).setCell ⟨w.heap.size + 1, 4, none⟩ (.int .u32 (addI y s).x4)).setCell ⟨w.heap.size + 1, 5, none⟩ (.int .u32 (addI y s).x5)).setCell ⟨w.heap.size + 1, 6, none⟩ (.int .u32 (addI y s).x6)).setCell ⟨w.heap.size + 1, 7, none⟩ (.int .u32 (addI y s).x7)) := by
                    repeat (with_reducible first | exact HQ.out.below | refine below_set ?_ (Nat.le_add_right _ _))
                  generalize ((((((((wr.setCell ⟨w.heap.size + 1, 0, none⟩ (.int .u32 (addI y s).x0)).setCell ⟨w.heap.size + 1, 1, none⟩ (.int .u32 (addI y s).x1)).setCell ⟨w.heap.size + 1, 2, none⟩ (.int .u32 (addI y s).x2)).setCell ⟨w.heap.size + 1, 3, none⟩ (.int .u32 (addI y s).x3)).setCell ⟨w.heap.size + 1, 4, none⟩ (.int .u32 (addI y s).x4)).setCell ⟨w.heap.size + 1, 5, none⟩ (.int .u32 (addI y s).x5)).setCell ⟨w.heap.size + 1, 6, none⟩ (.int .u32 (addI y s).x6)).setCell ⟨w.heap.size + 1, 7, none⟩ (.int .u32 (addI y s).x7)) = W8 at hp hb2 ⊢
                  obtain ⟨q0, q1, q2, q3, q4, q5, q6, q7⟩ := st_cells hp
                  refine bodyPost_ret (v := stV (addI y s)) ?_ rfl ⟨?_, hb2⟩
                  · clear c0 c1 c2 c3 c4 c5 c6 c7 z0 z1 z2 z3 z4 z5 z6 z7
                    simp [results, Tryd.results174, go_sem, q0, q1, q2, q3, q4, q5, q6, q7, hu]
                  · rw [nextI, HYY.out]

end Go.Proofs.YtfcodmdckcihmaaDoor.P
