-- Hand-written contracts of this workplace, filled for this seat by a program.
import Derived.Test.YtlmmpncdemblbaaDoorPx0
import Derived.Test.YtlmmpncdemblbaaDoorPn0
import Derived.Test.YtlmmpncdemblbaaDoorPn5
import Derived.Test.YtlmmpncdemblbaaDoorHIdxNode
import Derived.Test.YtlmmpncdemblbaaDoorUNode
import Derived.Test.YtlmmpncdemblbaaDoorHBlocks
import Derived.Stop.RegionWithIn
namespace Go.Proofs.YtlmmpncdemblbaaDoor.P
open Go.RowKit Go.Proofs.YtlmmpncdemblbaaDoorW.PrintWords Go.Proofs.YtlmmpncdemblbaaDoorW.PrintLast Go.Proofs.YtlmmpncdemblbaaDoorW.PrintMore
set_option linter.unusedVariables false
set_option linter.unusedSimpArgs false
set_option linter.unnecessarySimpa false
/-- The closure that tells whether a node is not of the width that lies in block B. -/
theorem all1.calls (wd : Int) (B : Nat) (x : SNode) (W : World) (hB : W.heap[B]? = some (.cells #[.int .i64 wd] 3 (0, 0))) :
    Calls Tryd.prog 67 #[nodeV x, .pointer (some ⟨B, 0, none⟩)] W fun e W' => e = .returned (.bool (!nodeOf wd x)) ∧ Below W.heap.size W W' := by
  have hc : W.cell? ⟨B, 0, none⟩ = some (.int .i64 wd) := blk_cell hB 0
  have hlt : B < W.heap.size := blk_lt hB
  have hne : B ≠ W.heap.size := Nat.ne_of_lt hlt
  go_enter Tryd.func67, Tryd.ntmps67
  go_wp2_with fail
  refine (node_Of.calls wd x.f0 x.f1.f0 x.f1.f1 (nodeOf wd x) _ (node_Of_eq wd x)).mono ?_
  rintro e w1 ⟨rfl, hb⟩
  go_wp2
  go_ret
  exact ⟨rfl, (below_alloc (Below.refl _ _) _).trans (hb.mono (by simp))⟩
set_option maxRecDepth 100000 in
set_option maxHeartbeats 1000000 in
theorem all.calls (wd : Int) (A : Option Addr) (c : Nat) (l : List SNode) (w : World) (hr : Kd.C kNode w A l.length l) :
    Calls Tryd.prog 34 #[.int .i64 wd, .slice A l.length c] w fun e w' => e = .returned (.bool (decide (1 ≤ wd) && (decide (wd ≤ 32) && l.all (nodeOf wd)))) ∧ Below w.heap.size w w' := by
  have HR := Aside0.mk hr
  clear hr
  have e0 : (!l.any fun x => !nodeOf wd x) = l.all (nodeOf wd) := by rw [List.all_eq_not_any_not]
  go_enter Tryd.func34, Tryd.ntmps34
  by_cases h1 : 1 ≤ wd
  · have b1 : decide (1 ≤ wd) = true := decide_eq_true h1
    by_cases h2 : wd ≤ 32
    · have b2 : decide (wd ≤ 32) = true := decide_eq_true h2
      go_wp2_with fail
      have hcb : (w.alloc (.cells #[.int .i64 wd] 3)).heap[w.heap.size]? = some (.cells #[.int .i64 wd] 3 (0, 0)) := blk_new w _
      have hB0 : Below w.heap.size w (w.alloc (.cells #[.int .i64 wd] 3)) := below_alloc (Below.refl _ _) _
      refine (anyNode.calls 67 _ (fun x => !nodeOf wd x) A c l _ (Kd.C_below HR.out hB0) (fun _ _ => enters_of Tryd.func67 (by kernel_rfl) rfl _ _) (fun W x hW => all1.calls wd w.heap.size x W (blk_below hcb hW))).mono ?_
      rintro e w1 ⟨rfl, hb⟩
      have HB1 := Aside0.mk (hB0.trans (hb.mono hB0.size))
      clear hb hcb hB0
      go_wp2_with fail
      go_ret
      exact ⟨by simp only [b1, b2, Bool.true_and]; rw [← e0]; rfl, HB1.out⟩
    · have b2 : decide (wd ≤ 32) = false := decide_eq_false h2
      go_wp2_with fail
      go_ret
      exact ⟨by simp [b2], below_alloc (Below.refl _ _) _⟩
  · have b1 : decide (1 ≤ wd) = false := decide_eq_false h1
    go_wp2_with fail
    go_ret
    exact ⟨by simp [b1], below_alloc (Below.refl _ _) _⟩

end Go.Proofs.YtlmmpncdemblbaaDoor.P
