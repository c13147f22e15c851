-- Hand-written contracts of this workplace, filled for this seat by a program.
import Derived.Test.YtcidfahoajmcmaaDoorPx0
import Derived.Test.YtcidfahoajmcmaaDoorUK
import Derived.Test.YtcidfahoajmcmaaDoorRows
import Derived.Lib.LaidTab
import Derived.FnData
import Derived.ProofKit
import Derived.LaidHandle
import Derived.LaidLaws
namespace Go.Proofs.YtcidfahoajmcmaaDoor.P
open Go.RowKit Go.Proofs.YtcidfahoajmcmaaDoorW.PrintWords Go.Proofs.YtcidfahoajmcmaaDoorW.PrintLast Go.Proofs.YtcidfahoajmcmaaDoorW.PrintMore
set_option linter.unusedVariables false
set_option linter.unusedSimpArgs false
set_option linter.unnecessarySimpa false

/-- The table of the rounds' constants lies in memory. -/
def Laid (w : World) : Prop := ∀ i, i < 64 → w.cell? ⟨0, i, none⟩ = some (.int .u32 (kConst.getD i 0))
theorem Laid.below {w w1 : World} (h : Laid w) (hb : Below w.heap.size w w1) : Laid w1 := fun i hi => pw_cell_below hb (h i hi)
theorem kGlobal : Tryd.prog.globalNamed "paymaster/block.constants" = some 0 := by kernel_rfl
theorem kGlobalType : (Tryd.prog.globals[0]?).map (·.type) = some 100 := by kernel_rfl
noncomputable def laidWorld (os : Os) : World :=
  let w0 := World.holding Tryd.prog os ⟨#[], #[], []⟩
  { w0 with heap := w0.heap.modify 0 fun
      | .cells _ t frozen => .cells (kConst.map fun z => Value.int .u32 z).toArray t frozen
      | o => o }
theorem laidWorld_met (os : Os) (args : Array Value) : laidMetH Tryd.prog [("paymaster/block.constants", Rows.laid_paymaster_block_constants)] ((laidWorld os).forCall (fun _ _ => 0) ⟨#[], args, []⟩).memory :=
  laidMetH_of_parts (laidMet_of_run (ps := MemPlace.row ⟨0, 0, none⟩ 64) 8 (by kernel_rfl) (by kernel_rfl) (by kernel_rfl)) (by kernel_rfl)
theorem laid_of_met {w : World} (h : laidMetH Tryd.prog [("paymaster/block.constants", Rows.laid_paymaster_block_constants)] w) : Laid w := by
  have h : laidMet Tryd.prog [("paymaster/block.constants", Rows.laid_paymaster_block_constants)] w := h
  obtain ⟨ps, ⟨g, t, cs, fuel, p, q, hg, ht, hv, htr, _⟩, _⟩ := h
  obtain rfl : g = 0 := Option.some.inj (hg.symm.trans kGlobal)
  obtain rfl : t = 100 := Option.some.inj (ht.symm.trans kGlobalType)
  have e : Rows.laid_paymaster_block_constants = Lib.tabData (H := Unit) .u32 kConst := by rfl
  rw [e] at htr
  have hc := Lib.cells_of_tab Tryd.underlying100 Tryd.underlying23 (by kernel_rfl) (by kernel_rfl) htr
  intro i hi
  rw [World.var?_cell kGlobal hv i]
  have hl : i < kConst.length := hi
  rw [← Array.getElem?_toList, hc, List.getElem?_map, List.getElem?_eq_getElem hl]
  simp [List.getD, List.getElem?_eq_getElem hl]

end Go.Proofs.YtcidfahoajmcmaaDoor.P
