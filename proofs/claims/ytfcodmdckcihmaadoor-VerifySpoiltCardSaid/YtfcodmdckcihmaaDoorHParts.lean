-- Hand-written contracts of this workplace, filled for this seat by a program.
import Derived.Test.YtfcodmdckcihmaaDoorPx0
import Derived.Test.YtfcodmdckcihmaaDoorPx1
import Derived.Test.YtfcodmdckcihmaaDoorRows
import Derived.Lib.LaidTab
import Derived.FnData
import Derived.ProofKit
import Derived.LaidHandle
import Derived.LaidLaws
namespace Go.Proofs.YtfcodmdckcihmaaDoor.P
open Go.RowKit Go.Proofs.YtfcodmdckcihmaaDoorW.PrintWords Go.Proofs.YtfcodmdckcihmaaDoorW.PrintLast Go.Proofs.YtfcodmdckcihmaaDoorW.PrintMore
set_option linter.unusedVariables false
set_option linter.unusedSimpArgs false
set_option linter.unnecessarySimpa false

/-- The rounds' constants. -/
def kConst : List Int := [1116352408, 1899447441, 3049323471, 3921009573, 961987163, 1508970993, 2453635748, 2870763221, 3624381080, 310598401, 607225278, 1426881987, 1925078388, 2162078206, 2614888103, 3248222580, 3835390401, 4022224774, 264347078, 604807628, 770255983, 1249150122, 1555081692, 1996064986, 2554220882, 2821834349, 2952996808, 3210313671, 3336571891, 3584528711, 113926993, 338241895, 666307205, 773529912, 1294757372, 1396182291, 1695183700, 1986661051, 2177026350, 2456956037, 2730485921, 2820302411, 3259730800, 3345764771, 3516065817, 3600352804, 4094571909, 275423344, 430227734, 506948616, 659060556, 883997877, 958139571, 1322822218, 1537002063, 1747873779, 1955562222, 2024104815, 2227730452, 2361852424, 2428436474, 2756734187, 3204031479, 3329325298]

/-- The table of the rounds' constants lies in memory. -/
def Laid (w : World) : Prop := ∀ i, i < 64 → w.cell? ⟨3, i, none⟩ = some (.int .u32 (kConst.getD i 0))
theorem Laid.below {w w1 : World} (h : Laid w) (hb : Below w.heap.size w w1) : Laid w1 := fun i hi => pw_cell_below hb (h i hi)
theorem kGlobal : Tryd.prog.globalNamed "paymaster/block.constants" = some 3 := by kernel_rfl
theorem kGlobalType : (Tryd.prog.globals[3]?).map (·.type) = some 254 := by kernel_rfl
noncomputable def laidWorld (os : Os) : World :=
  let w0 := World.holding Tryd.prog os ⟨#[], #[], []⟩
  { w0 with heap := w0.heap.modify 3 fun
      | .cells _ t frozen => .cells (kConst.map fun z => Value.int .u32 z).toArray t frozen
      | o => o }
theorem laidWorld_met (os : Os) (args : Array Value) : laidMetH Tryd.prog [("paymaster/block.constants", Rows.laid_paymaster_block_constants)] ((laidWorld os).forCall (fun _ _ => 0) ⟨#[], args, []⟩).memory :=
  laidMetH_of_parts (laidMet_of_run (ps := MemPlace.row ⟨3, 0, none⟩ 64) 8 (by kernel_rfl) (by kernel_rfl) (by kernel_rfl)) (by kernel_rfl)
theorem laid_of_met {w : World} (h : laidMetH Tryd.prog [("paymaster/block.constants", Rows.laid_paymaster_block_constants)] w) : Laid w := by
  have h : laidMet Tryd.prog [("paymaster/block.constants", Rows.laid_paymaster_block_constants)] w := h
  obtain ⟨ps, ⟨g, t, cs, fuel, p, q, hg, ht, hv, htr, _⟩, _⟩ := h
  obtain rfl : g = 3 := Option.some.inj (hg.symm.trans kGlobal)
  obtain rfl : t = 254 := Option.some.inj (ht.symm.trans kGlobalType)
  have e : Rows.laid_paymaster_block_constants = Lib.tabData (H := Unit) .u32 kConst := by rfl
  rw [e] at htr
  have hc := Lib.cells_of_tab Tryd.underlying254 Tryd.underlying166 (by kernel_rfl) (by kernel_rfl) htr
  intro i hi
  rw [World.var?_cell kGlobal hv i]
  have hl : i < kConst.length := hi
  rw [← Array.getElem?_toList, hc, List.getElem?_map, List.getElem?_eq_getElem hl]
  simp [List.getD, List.getElem?_eq_getElem hl]

/-- A word turned right. -/
def rotI (x n : Int) : Int := Go.bits .or .u32 (shl .u32 x (32 - n)) (shr .u32 x n)
theorem and31_all : ∀ n ∈ List.range 32, 1 ≤ n → Go.bits .and .u64 (IntKind.u64.wrap (wrap64 (-(n : Int)))) 31 = 32 - (n : Int) ∧ IntKind.u64.wrap (32 - (32 - (n : Int))) = (n : Int) := by decide +kernel
theorem right_of (x : Int) (n : Nat) (h1 : 1 ≤ n) (h2 : n ≤ 31) : block_right.f x (n : Int) = some (rotI x n) := by
  obtain ⟨e1, e2⟩ := and31_all n (List.mem_range.2 (by omega)) h1
  unfold block_right.f bits_RotateLeft32.f rotI
  rw [e1, e2, if_pos (by omega), if_pos (by omega)]
  rfl
theorem rightK (x : Int) (n : Nat) (h1 : 1 ≤ n) (h2 : n ≤ 31) (w : World) : Calls Tryd.prog 175 #[.int .u32 x, .int .i64 n] w fun e w' => e = .returned (.int .u32 (rotI x n)) ∧ Drawn0 w w' :=
  block_right.calls x n _ w (right_of x n h1 h2)
def partsI (e f g a b c : Int) : Int × Int :=
  (((Go.bits .xor .u32 (Go.bits .xor .u32 (rotI e 6) (rotI e 11)) (rotI e 25)) + Go.bits .xor .u32 (Go.bits .and .u32 e f) (Go.bits .and .u32 (Go.bits .xor .u32 IntKind.u32.max e) g)) % 4294967296,
   ((Go.bits .xor .u32 (Go.bits .xor .u32 (rotI a 2) (rotI a 13)) (rotI a 22)) + Go.bits .xor .u32 (Go.bits .xor .u32 (Go.bits .and .u32 a b) (Go.bits .and .u32 a c)) (Go.bits .and .u32 b c)) % 4294967296)
set_option maxRecDepth 100000 in
set_option maxHeartbeats 1000000 in
theorem parts.calls (e f g a b c : Int) (w : World) : Calls Tryd.prog 176 #[.int .u32 e, .int .u32 f, .int .u32 g, .int .u32 a, .int .u32 b, .int .u32 c] w fun en w' => en = .returned (.tuple #[.int .u32 (partsI e f g a b c).1, .int .u32 (partsI e f g a b c).2]) ∧ Drawn0 w w' := by
  go_enter Tryd.func176, Tryd.ntmps176
  go_wp2_with fail
  refine (rightK e 6 (by decide) (by decide) _).mono ?_
  rintro en w1 ⟨rfl, ⟨n1, rfl⟩⟩
  go_wp2_with fail
  refine (rightK e 11 (by decide) (by decide) _).mono ?_
  rintro en w1 ⟨rfl, ⟨n2, rfl⟩⟩
  go_wp2_with fail
  refine (rightK e 25 (by decide) (by decide) _).mono ?_
  rintro en w1 ⟨rfl, ⟨n3, rfl⟩⟩
  go_wp2_with fail
  refine (rightK a 2 (by decide) (by decide) _).mono ?_
  rintro en w1 ⟨rfl, ⟨n4, rfl⟩⟩
  go_wp2_with fail
  refine (rightK a 13 (by decide) (by decide) _).mono ?_
  rintro en w1 ⟨rfl, ⟨n5, rfl⟩⟩
  go_wp2_with fail
  refine (rightK a 22 (by decide) (by decide) _).mono ?_
  rintro en w1 ⟨rfl, ⟨n6, rfl⟩⟩
  go_wp2
  go_ret2
  exact ⟨rfl, ⟨_, rfl⟩⟩

theorem const_ok.calls (k : Nat) (hk : k < 64) (w : World) (hK : Laid w) : Calls Tryd.prog 177 #[.int .i64 k] w fun e w' => e = .returned (.int .u32 (kConst.getD k 0)) ∧ w = w' := by
  have hc := hK k hk
  have b1 : decide ((k : Int) < 0) = false := decide_eq_false (by omega)
  have b2 : decide ((64 : Int) ≤ (k : Int)) = false := decide_eq_false (by omega)
  have g1 : (k : Int) < 64 := by omega
  have HK := Aside0.mk hK
  clear hK
  go_enter Tryd.func177, Tryd.ntmps177
  go_wp2
  go_ret
  exact ⟨rfl, rfl⟩

structure S8 where
  x0 : Int
  x1 : Int
  x2 : Int
  x3 : Int
  x4 : Int
  x5 : Int
  x6 : Int
  x7 : Int
abbrev stV (s : S8) : Value := .agg #[.int .u32 s.x0, .int .u32 s.x1, .int .u32 s.x2, .int .u32 s.x3, .int .u32 s.x4, .int .u32 s.x5, .int .u32 s.x6, .int .u32 s.x7]
/-- One round. -/
def roundI (s : S8) (k x : Int) : S8 :=
  ⟨(s.x7 + (partsI s.x4 s.x5 s.x6 s.x0 s.x1 s.x2).1 + k + x + (partsI s.x4 s.x5 s.x6 s.x0 s.x1 s.x2).2) % 4294967296, s.x0, s.x1, s.x2,
   (s.x3 + (s.x7 + (partsI s.x4 s.x5 s.x6 s.x0 s.x1 s.x2).1 + k + x)) % 4294967296, s.x4, s.x5, s.x6⟩
set_option maxRecDepth 100000 in
set_option maxHeartbeats 1000000 in
theorem round.calls (s : S8) (k : Nat) (hk : k < 64) (x : Int) (w : World) (hK : Laid w) : Calls Tryd.prog 162 #[stV s, .int .i64 k, .int .u32 x] w fun e w' => e = .returned (stV (roundI s (kConst.getD k 0) x)) ∧ Below w.heap.size w w' := by
  have hu := Tryd.underlying199
  have HK := Aside0.mk hK
  clear hK
  go_enter Tryd.func162, Tryd.ntmps162
  go_wp2_with fail
  go_quiet (fail)
  go_wp2_with fail
  refine (parts.calls _ _ _ _ _ _ _).mono ?_
  rintro en w1 ⟨rfl, ⟨n1, rfl⟩⟩
  go_wp2_with fail
  refine (const_ok.calls k hk _ (HK.out.below (by repeat (first | exact Below.refl _ _ | apply below_alloc | apply pw_below_drewN | apply below_drew)))).mono ?_
  rintro en w1 ⟨rfl, rfl⟩
  go_wp2
  refine bodyPost_ret (v := stV (roundI s (kConst.getD k 0) x)) ?_ rfl ⟨rfl, ?_⟩
  · simp [results, Tryd.results162, go_sem, roundI]
  · repeat (with_reducible first | exact Below.refl _ _ | apply below_alloc | apply pw_below_drewN | apply below_drew | refine Below.setCell ?_ (Nat.le_add_right _ _) _)

end Go.Proofs.YtfcodmdckcihmaaDoor.P
