-- Hand-written contracts of this workplace, filled for this seat by a program.
import Derived.Test.YtfcodmdckcihmaaDoorPx0
import Derived.Test.YtfcodmdckcihmaaDoorHParts
import Derived.StillTailTactics
namespace Go.Proofs.YtfcodmdckcihmaaDoor.P
open Go.RowKit Go.Proofs.YtfcodmdckcihmaaDoorW.PrintWords Go.Proofs.YtfcodmdckcihmaaDoorW.PrintLast Go.Proofs.YtfcodmdckcihmaaDoorW.PrintMore
set_option linter.unusedVariables false
set_option linter.unusedSimpArgs false
set_option linter.unnecessarySimpa false

/-- The next word. -/
def schedI (l : List Int) (n : Nat) : Int :=
  (l.getD (n - 16) 0 + Go.bits .xor .u32 (Go.bits .xor .u32 (rotI (l.getD (n - 15) 0) 7) (rotI (l.getD (n - 15) 0) 18)) (l.getD (n - 15) 0 / 8) + l.getD (n - 7) 0 +
    Go.bits .xor .u32 (Go.bits .xor .u32 (rotI (l.getD (n - 2) 0) 17) (rotI (l.getD (n - 2) 0) 19)) (l.getD (n - 2) 0 / 1024)) % 4294967296
/-- Four bytes as a word. -/
def fourI (s : ByteArray) (t : Nat) : Int :=
  Go.bits .or .u32 (Go.bits .or .u32 (Go.bits .or .u32 (bt s (4 * t : Nat) % 4294967296 * 16777216 % 4294967296) (bt s (4 * t + 1 : Nat) % 4294967296 * 65536 % 4294967296)) (bt s (4 * t + 2 : Nat) % 4294967296 * 256 % 4294967296)) (bt s (4 * t + 3 : Nat) % 4294967296)
/-- The first n words of a block. -/
def wordsI (s : ByteArray) : Nat → List Int
  | 0 => []
  | n + 1 => wordsI s n ++ [if n < 16 then fourI s n else schedI (wordsI s n) n]
theorem wordsI_length (s : ByteArray) (n : Nat) : (wordsI s n).length = n := by
  induction n with
  | zero => rfl
  | succ n ih => simp [wordsI, ih]
theorem wordsI_get (s : ByteArray) (n m : Nat) (h : n ≤ m) (i : Nat) (hi : i < n) : (wordsI s m).getD i 0 = (wordsI s n).getD i 0 := by
  induction m with
  | zero => omega
  | succ m ih =>
    rcases Nat.lt_or_ge m n with hlt | hge
    · have : n = m + 1 := by omega
      rw [this]
    · rw [← ih hge]
      simp only [wordsI, List.getD_eq_getElem?_getD]
      rw [List.getElem?_append_left (by rw [wordsI_length]; omega)]
/-- What stands in the array when n words are made. -/
def rowI (s : ByteArray) (n : Nat) : List Int := wordsI s n ++ List.replicate (64 - n) 0

def rowA (s : ByteArray) (n : Nat) : Array Value := (nums .u32 (rowI s n)).toArray
theorem rowI_length (s : ByteArray) (n : Nat) (h : n ≤ 64) : (rowI s n).length = 64 := by simp [rowI, wordsI_length]; omega
theorem rowA_get (s : ByteArray) (n i : Nat) (h : n ≤ 64) (hi : i < 64) : (rowA s n)[i]? = some (.int .u32 ((rowI s n).getD i 0)) := by
  have hl := rowI_length s n h
  simp [rowA, nums, List.getElem?_eq_getElem (show i < (rowI s n).length by omega)]
theorem rowI_done (s : ByteArray) (n i : Nat) (hi : i < n) : (rowI s n).getD i 0 = (wordsI s n).getD i 0 := by
  simp only [rowI, List.getD_eq_getElem?_getD]
  rw [List.getElem?_append_left (by rw [wordsI_length]; exact hi)]
theorem rowA_zero (s : ByteArray) : rowA s 0 = (List.replicate 64 (Value.int .u32 0)).toArray := by simp [rowA, rowI, wordsI, nums]
theorem rowA_step (s : ByteArray) (n : Nat) (h : n < 64) (x : Int) (hx : x = (if n < 16 then fourI s n else schedI (wordsI s n) n)) : (rowA s n).setIfInBounds n (.int .u32 x) = rowA s (n + 1) := by
  subst hx
  have e : List.replicate (64 - n) (0 : Int) = 0 :: List.replicate (64 - (n + 1)) 0 := by
    rw [← List.replicate_succ]; congr 1; omega
  simp only [rowA, rowI, nums, wordsI]
  rw [e]
  simp [List.setIfInBounds_toArray, List.set_append, wordsI_length]
theorem rowA_size (s : ByteArray) : (rowA s 64).size = 64 * 1 := by simp [rowA, nums, rowI_length s 64 (by omega)]
theorem rowA_full (s : ByteArray) : (rowA s 64).toList.take (64 * 1) = nums .u32 (wordsI s 64) := by
  have : rowI s 64 = wordsI s 64 := by simp [rowI]
  rw [rowA, this, List.toList_toArray, List.take_of_length_le (by simp [nums, wordsI_length])]
def zeros64 : Array Value := (List.replicate 64 (Value.int .u32 0)).toArray
theorem make64 (w : World) : (Instr.makeSlice 231 (.int .i64 64) (.int .i64 64)).run Tryd.prog w = .ok (.slice (some ⟨w.heap.size, 0, none⟩) 64 64) (w.alloc (.cells zeros64 166)) := by kernel_rfl

theorem bt_extract {s b : ByteArray} {a e : Nat} (hb : b = s.extract a e) (hbs : 3 < b.size) (j : Nat) (hj : j ≤ 3) (he : e ≤ s.size) : bt b (j : Int) = bt s ((a + j : Nat) : Int) := by
  have h1 : j < b.size := by omega
  have h0 : j < e - a := by rw [hb, ByteArray.size_extract] at h1; omega
  have h2 : a + j < s.size := by omega
  subst hb
  simp only [bt, Int.toNat_natCast, h1, h2, dif_pos]
  rw [ByteArray.getElem_extract]
set_option maxRecDepth 100000 in
set_option maxHeartbeats 4000000 in
theorem words_ok.calls (s : ByteArray) (hs : s.size = 64) (w : World) :
    Calls Tryd.prog 161 #[.string s] w fun e w' => ∃ v : Value, e = .returned (.tuple #[v, .int .i64 0]) ∧ w'.ownsRow w.heap.size 166 1 v 64 (nums .u32 (wordsI s 64)) ∧ Below w.heap.size w w' := by
  have b1 : ((s.size : Int) != 64) = false := by rw [hs]; rfl
  have HS := Aside0.mk hs
  have hmk := make64
  clear hs
  go_enter Tryd.func161, Tryd.ntmps161
  go_wp2_with fail
  clear hmk
  go_loopw [17] (fun v wr => ∃ k : Nat, v = .int .i64 k ∧ k ≤ 64 ∧ Aside0 (wr.heap[w.heap.size]? = some (.cells (rowA s k) 166 (0, 0))) ∧ Aside0 (Below w.heap.size w wr)) (fun v _ => 64 - (intOf v).toNat)
  case atStart =>
    refine ⟨0, rfl, by omega, ⟨?_⟩, ⟨below_alloc (Below.refl _ _) _⟩⟩
    rw [rowA_zero]
    exact heap_alloc_new w _
  case round =>
    obtain ⟨k, rfl, hk, HR, HB⟩ := hrel
    by_cases hlt : k < 64
    · have b2 : decide ((k : Int) < 64) = true := decide_eq_true (by omega)
      by_cases h16 : k < 16
      · have b3 : decide ((k : Int) < 16) = true := decide_eq_true (by omega)
        have g4 : 4 * (k : Int) + 4 ≤ (s.size : Int) := by have := HS.out; omega
        have g5 : 4 * k + 4 ≤ s.size := by have := HS.out; omega
        have hsl : ∀ wx, (Instr.slice 9 (.string s) (some (.int .i64 (4 * (k : Int)))) (some (.int .i64 (4 * (k : Int) + 4))) none).run Tryd.prog wx = .ok (.string (s.extract (4 * k) (4 * k + 4))) wx := fun wx => by
          rw [run_slice_string wx 9 s .i64 .i64 (4 * (k : Int)) (4 * (k : Int) + 4) Tryd.underlying9 (by omega) (by omega) g4]
          congr 3
        obtain ⟨b, hb⟩ : ∃ b, b = s.extract (4 * k) (4 * k + 4) := ⟨_, rfl⟩
        rw [← hb] at hsl
        have hbs : 3 < b.size := by rw [hb, ByteArray.size_extract]; omega
        have hb0 : bt b 0 = bt s (4 * k : Nat) := bt_extract hb hbs 0 (by omega) (by omega)
        have hb1 : bt b 1 = bt s (4 * k + 1 : Nat) := bt_extract hb hbs 1 (by omega) (by omega)
        have hb2 : bt b 2 = bt s (4 * k + 2 : Nat) := bt_extract hb hbs 2 (by omega) (by omega)
        have hb3 : bt b 3 = bt s (4 * k + 3 : Nat) := bt_extract hb hbs 3 (by omega) (by omega)
        have i0 : 0 < b.size := by omega
        have i1 : 1 < b.size := by omega
        have i2 : 2 < b.size := by omega
        have HX := Aside0.mk (show fourI s k = Go.bits .or .u32 (Go.bits .or .u32 (Go.bits .or .u32 (((b[0]'i0).toNat : Int) % 4294967296 * 16777216 % 4294967296) (((b[1]'i1).toNat : Int) % 4294967296 * 65536 % 4294967296)) (((b[2]'i2).toNat : Int) % 4294967296 * 256 % 4294967296)) (((b[3]'hbs).toNat : Int) % 4294967296) by
          have z0 : ((b[0]'i0).toNat : Int) = bt b 0 := bt_at b 0 i0
          have z1 : ((b[1]'i1).toNat : Int) = bt b 1 := bt_at b 1 i1
          have z2 : ((b[2]'i2).toNat : Int) = bt b 2 := bt_at b 2 i2
          have z3 : ((b[3]'hbs).toNat : Int) = bt b 3 := bt_at b 3 hbs
          rw [z0, z1, z2, z3, hb0, hb1, hb2, hb3]; rfl)
        clear hb hb0 hb1 hb2 hb3 g4 g5
        have j1 : (1 : Int) < (b.size : Int) := by omega
        have j2 : (2 : Int) < (b.size : Int) := by omega
        have j3 : (3 : Int) < (b.size : Int) := by omega
        have r64 : (k : Int) < 64 := by omega
        have hf3 : wr.frozen? ⟨w.heap.size, k, none⟩ = false := blk_frozen HR.out k
        go_wp2_with fail
        clear hsl
        go_still_tail 21, (by kernel_rfl)
        change wpList _ _ _ _ _ wr.drew
        have hck : wr.cell? ⟨w.heap.size, k, none⟩ = some (.int .u32 ((rowI s k).getD k 0)) := (blk_cell HR.out _).trans (rowA_get s k k (by omega) (by omega))
        have HY := Aside0.mk (rowA_step s k hlt _ rfl)
        go_wp2_with fail
        go_roundw
        case rel =>
          have HX2 := HY.out
          rw [if_pos h16] at HX2
          refine ⟨k + 1, by go_num, by omega, ⟨?_⟩, ⟨?_⟩⟩
          · refine blk_drew ?_
            rw [← HX2, HX.out]
            exact blk_set HR.out k _
          · refine below_drew ?_
            exact Below.setCell HB.out (Nat.le_refl _) _
        case measure => simp [intOf]; omega
      · have b3 : decide ((k : Int) < 16) = false := decide_eq_false (by omega)
        have hw15 : wr.cell? ⟨w.heap.size, k - 15, none⟩ = some (.int .u32 ((rowI s k).getD (k - 15) 0)) := (blk_cell HR.out _).trans (rowA_get s k (k - 15) (by omega) (by omega))
        have hw2 : wr.cell? ⟨w.heap.size, k - 2, none⟩ = some (.int .u32 ((rowI s k).getD (k - 2) 0)) := (blk_cell HR.out _).trans (rowA_get s k (k - 2) (by omega) (by omega))
        have n15 : ((k : Int) - 15).toNat = k - 15 := by omega
        have n2 : ((k : Int) - 2).toNat = k - 2 := by omega
        have p15 : 0 ≤ (k : Int) - 15 := by omega
        have p2 : 0 ≤ (k : Int) - 2 := by omega
        have q15 : (k : Int) - 15 < 64 := by omega
        have q2 : (k : Int) - 2 < 64 := by omega
        have e15 : IntKind.i64.wrap ((k : Int) - 15) = (k : Int) - 15 := IntWalk.i64_in _ (by omega)
        have e2 : IntKind.i64.wrap ((k : Int) - 2) = (k : Int) - 2 := IntWalk.i64_in _ (by omega)
        go_wp2_with fail
        go_quiet (fail)
        clear n15 n2 e15 e2
        go_wp2_with fail
        refine (rightK _ 7 (by decide) (by decide) _).mono ?_
        rintro en w1 ⟨rfl, ⟨n1, rfl⟩⟩
        go_wp2_with fail
        refine (rightK _ 18 (by decide) (by decide) _).mono ?_
        rintro en w1 ⟨rfl, ⟨n2, rfl⟩⟩
        go_wp2_with fail
        refine (rightK _ 17 (by decide) (by decide) _).mono ?_
        rintro en w1 ⟨rfl, ⟨n3, rfl⟩⟩
        go_wp2_with fail
        refine (rightK _ 19 (by decide) (by decide) _).mono ?_
        rintro en w1 ⟨rfl, ⟨n4, rfl⟩⟩
        go_wp2_with fail
        have e16 : IntKind.i64.wrap ((k : Int) - 16) = (k : Int) - 16 := IntWalk.i64_in _ (by omega)
        have e7 : IntKind.i64.wrap ((k : Int) - 7) = (k : Int) - 7 := IntWalk.i64_in _ (by omega)
        have n16 : ((k : Int) - 16).toNat = k - 16 := by omega
        have n7 : ((k : Int) - 7).toNat = k - 7 := by omega
        have p16 : 0 ≤ (k : Int) - 16 := by omega
        have p7 : 0 ≤ (k : Int) - 7 := by omega
        have q16 : (k : Int) - 16 < 64 := by omega
        have q7 : (k : Int) - 7 < 64 := by omega
        have hb3 : (wr.drewN (nq + n1 + n2 + n3 + n4)).heap[w.heap.size]? = some (.cells (rowA s k) 166 (0, 0)) := blk_drewN HR.out _
        have hB3 : Below w.heap.size w (wr.drewN (nq + n1 + n2 + n3 + n4)) := pw_below_drewN HB.out _
        generalize wr.drewN (nq + n1 + n2 + n3 + n4) = w3 at hb3 hB3 ⊢
        have h3 := Aside0.mk hb3
        have hB4 := Aside0.mk hB3
        have hd : ∀ a, ({ w3 with drawn := w3.drawn + 1 } : World).cell? a = w3.cell? a := fun _ => rfl
        have hw16 : w3.cell? ⟨w.heap.size, k - 16, none⟩ = some (.int .u32 ((rowI s k).getD (k - 16) 0)) := (blk_cell hb3 _).trans (rowA_get s k (k - 16) (by omega) (by omega))
        have hw7 : w3.cell? ⟨w.heap.size, k - 7, none⟩ = some (.int .u32 ((rowI s k).getD (k - 7) 0)) := (blk_cell hb3 _).trans (rowA_get s k (k - 7) (by omega) (by omega))
        clear hb3 hB3
        have r16 : 16 ≤ (k : Int) := by omega
        have r7 : 7 ≤ (k : Int) := by omega
        have r64 : (k : Int) < 64 := by omega
        go_still_tail 18, (by kernel_rfl)
        change wpList _ _ _ _ _ w3.drew
        clear hd n16 n7 e16 e7
        have hf3 : w3.frozen? ⟨w.heap.size, k, none⟩ = false := blk_frozen h3.out k
        have hck : w3.cell? ⟨w.heap.size, k, none⟩ = some (.int .u32 ((rowI s k).getD k 0)) := (blk_cell h3.out _).trans (rowA_get s k k (by omega) (by omega))
        have HX := Aside0.mk (rowA_step s k hlt _ rfl)
        have HE : Aside0 (schedI (wordsI s k) k = ((rowI s k)[k - 16]?.getD 0 + bits BinOp.xor IntKind.u32 (bits BinOp.xor IntKind.u32 (rotI ((rowI s k)[k - 15]?.getD 0) 7) (rotI ((rowI s k)[k - 15]?.getD 0) 18)) ((rowI s k)[k - 15]?.getD 0 / 8) + (rowI s k)[k - 7]?.getD 0 + bits BinOp.xor IntKind.u32 (bits BinOp.xor IntKind.u32 (rotI ((rowI s k)[k - 2]?.getD 0) 17) (rotI ((rowI s k)[k - 2]?.getD 0) 19)) ((rowI s k)[k - 2]?.getD 0 / 1024)) % 4294967296) := ⟨by
          simp only [← List.getD_eq_getElem?_getD]
          rw [rowI_done s k (k - 16) (by omega), rowI_done s k (k - 15) (by omega), rowI_done s k (k - 7) (by omega), rowI_done s k (k - 2) (by omega)]; rfl⟩
        go_wp2_with fail
        go_roundw
        case rel =>
          have HX2 := HX.out
          rw [if_neg h16] at HX2
          refine ⟨k + 1, by go_num, by omega, ⟨?_⟩, ⟨?_⟩⟩
          · refine blk_drew ?_
            rw [← HE.out, ← HX2]
            exact blk_set h3.out k _
          · refine below_drew ?_
            exact Below.setCell hB4.out (Nat.le_refl _) _
        case measure => simp [intOf]; omega
    · have b2 : decide ((k : Int) < 64) = false := decide_eq_false (by omega)
      go_wp2
      go_ret2
      obtain rfl : k = 64 := by omega
      refine ⟨_, rfl, ⟨by simp [nums, wordsI_length], .inr ⟨w.heap.size, 64, rowA s 64, rfl, Nat.le_refl _, HR.out, Nat.le_refl _, by unfold maxLen; omega, rowA_size s, rowA_full s⟩⟩, HB.out⟩

end Go.Proofs.YtfcodmdckcihmaaDoor.P
