/-
  No cell of these rows narrows 'for every input' (looked for: loops, veiled, ifaces, maps, wideKeys, modest, calm, conditions, laid).
  DERIVED. THE GIVEN ROWS OF THIS SEAT. 3 by the template 'for every input the law returns true; each argument reads behind the call as it read before'; 0 by the template 'total and deterministic' (their statements: YtcidfahoajmcmaaTotals.lean).
  GIVEN WITH THE SEED: the statements are not yours to turn. If you find one false, say at which input.
  Laid BY PROGRAM, IN A SANDBOX (cutbox-rows.mjs): the forced cells as the released guide's own fill.sh prints them over the translation a1dd2924edcfa612… (all of the seat's roots in one cut). By AI agents, Wed Nov 11 2026. No macro, syntax, notation, axiom, sorry.
-/
import Derived.Test.YtcidfahoajmcmaaChecked
import GoSem.Claim
import GoSem.ClaimJoined
import GoSem.ClaimMapViews
import Derived.JoinedTies
import Derived.KernelRfl
namespace Go.Proofs.Ytcidfahoajmcmaa
/- THE CELL 'sum', in the pinned program and in every row, IS THE sha256 OF THE DUMP (.gsa) THAT YtcidfahoajmcmaaProg.lean LOADS. Nothing in Lean hashes anything: it is a label: what it is worth is what the hold of that sum in a sandbox is worth. -/
noncomputable def Try.pinned : Pinned := { name := "ytcidfahoajmcmaa", sum := "a1dd2924edcfa6123d45a67b826f32628101af07c86811619a99a43c4d9c289c", checked := Try.checked }
namespace Rows
def none {H : Type} : Left H := { results := [], args := [] }

/-- 'paymasterlaw16.ProofShapes': WHATEVER THE INPUT: true; the input reads as it did. -/
def proofShapesSpec : ChangeSpec := { name := "proofShapes", fn := fun _ => fun
  | [d1, d2, d3] => { results := [.lit (.bool true)], args := [d1, d2, d3] }
  | _ => none }
def proofShapesRow : OpenClaim := { program := "ytcidfahoajmcmaa", sum := "a1dd2924edcfa6123d45a67b826f32628101af07c86811619a99a43c4d9c289c", func := "paymaster/paymasterlaw16.ProofShapes", spec := "proofShapes", unfollowed := true, recurses := true, apart := false }
def ProofShapesSaid : Prop := proofShapesRow.holds Try.pinned (OpenSpec.ofChange proofShapesSpec)

/-- ITS FALSE NEIGHBOUR: 'it returns false'. Refute it at one input. -/
def proofShapesWrong : ChangeSpec := { name := "proofShapes", fn := fun _ => fun
  | [d1, d2, d3] => { results := [.lit (.bool false)], args := [d1, d2, d3] }
  | _ => none }
def ProofShapesWrongFalsely : Prop := proofShapesRow.holds Try.pinned (OpenSpec.ofChange proofShapesWrong)

/-- 'paymasterlaw16.ProofSame': WHATEVER THE INPUT: true; the input reads as it did. -/
def proofSameSpec : ChangeSpec := { name := "proofSame", fn := fun _ => fun
  | [d1, d2, d3] => { results := [.lit (.bool true)], args := [d1, d2, d3] }
  | _ => none }
def proofSameRow : OpenClaim := { program := "ytcidfahoajmcmaa", sum := "a1dd2924edcfa6123d45a67b826f32628101af07c86811619a99a43c4d9c289c", func := "paymaster/paymasterlaw16.ProofSame", spec := "proofSame", unfollowed := true, recurses := true, apart := false }
def ProofSameSaid : Prop := proofSameRow.holds Try.pinned (OpenSpec.ofChange proofSameSpec)

/-- ITS FALSE NEIGHBOUR: 'it returns false'. Refute it at one input. -/
def proofSameWrong : ChangeSpec := { name := "proofSame", fn := fun _ => fun
  | [d1, d2, d3] => { results := [.lit (.bool false)], args := [d1, d2, d3] }
  | _ => none }
def ProofSameWrongFalsely : Prop := proofSameRow.holds Try.pinned (OpenSpec.ofChange proofSameWrong)

/-- 'paymasterlaw26.RebaseTouches': WHATEVER THE INPUT: true; the input reads as it did. -/
def rebaseTouchesSpec : ChangeSpec := { name := "rebaseTouches", fn := fun _ => fun
  | [d1, d2, d3] => { results := [.lit (.bool true)], args := [d1, d2, d3] }
  | _ => none }
def rebaseTouchesRow : OpenClaim := { program := "ytcidfahoajmcmaa", sum := "a1dd2924edcfa6123d45a67b826f32628101af07c86811619a99a43c4d9c289c", func := "paymaster/paymasterlaw26.RebaseTouches", spec := "rebaseTouches", unfollowed := true, recurses := true, apart := false }
def RebaseTouchesSaid : Prop := rebaseTouchesRow.holds Try.pinned (OpenSpec.ofChange rebaseTouchesSpec)

/-- ITS FALSE NEIGHBOUR: 'it returns false'. Refute it at one input. -/
def rebaseTouchesWrong : ChangeSpec := { name := "rebaseTouches", fn := fun _ => fun
  | [d1, d2, d3] => { results := [.lit (.bool false)], args := [d1, d2, d3] }
  | _ => none }
def RebaseTouchesWrongFalsely : Prop := rebaseTouchesRow.holds Try.pinned (OpenSpec.ofChange rebaseTouchesWrong)

/- THE SECOND FORM. 'bulk': how many values and letters a reading holds, each counted each time it is reached (what is shared counts as often as it is met; a slice's spare places count too). A statement '..UptoSaid' is the law's where the arguments, and the package variables that the reading takes, are together of bulk at most 1048576: NARROWER than '..Said'. Prove '..Said' where nothing that the law and all that it calls make is longer than what came in: it says more and counts as full. Else prove '..UptoSaid'. A law counts once. -/
mutual
def uptoBulk {H : Type} : DataW H → Nat
  | .lit (.string bytes) => bytes.length + 1
  | .lit _ => 1
  | .nil => 1
  | .ptr d => uptoBulk d + 1
  | .slice elems spare => uptoBulkAll elems + uptoBulkAll spare + 1
  | .agg parts => uptoBulkAll parts + 1
  | .iface _ d => uptoBulk d + 1
  | .map entries => uptoBulkEntries entries + 1
  | .held _ => 1
def uptoBulkAll {H : Type} : List (DataW H) → Nat
  | [] => 0
  | d :: r => uptoBulk d + uptoBulkAll r
def uptoBulkEntries {H : Type} : List (Lit × DataW H) → Nat
  | [] => 0
  | x :: r => uptoBulkEntry x + uptoBulkEntries r
def uptoBulkEntry {H : Type} : Lit × DataW H → Nat
  | (.string bytes, d) => bytes.length + uptoBulk d + 1
  | (_, d) => uptoBulk d + 1
 end
def uptoSmall : (H : Type) → List (DataW H) → Bool := fun _ ds => decide (uptoBulkAll ds ≤ 1048576)
def OpenSpec.upto (s : _root_.Go.ChangeSpec) : _root_.Go.OpenSpec := { _root_.Go.OpenSpec.ofChange s with cond := some uptoSmall }

/-- 'paymasterlaw16.ProofShapes', WHERE WHAT IT READS IS OF BULK AT MOST 1048576: true; the input reads as it did. -/
def proofShapesUptoRow : OpenClaim := { program := "ytcidfahoajmcmaa", sum := "a1dd2924edcfa6123d45a67b826f32628101af07c86811619a99a43c4d9c289c", func := "paymaster/paymasterlaw16.ProofShapes", spec := "proofShapes", unfollowed := true, recurses := true, apart := false, narrowed := true }
def ProofShapesUptoSaid : Prop := proofShapesUptoRow.holds Try.pinned (OpenSpec.upto proofShapesSpec)

/-- 'paymasterlaw16.ProofSame', WHERE WHAT IT READS IS OF BULK AT MOST 1048576: true; the input reads as it did. -/
def proofSameUptoRow : OpenClaim := { program := "ytcidfahoajmcmaa", sum := "a1dd2924edcfa6123d45a67b826f32628101af07c86811619a99a43c4d9c289c", func := "paymaster/paymasterlaw16.ProofSame", spec := "proofSame", unfollowed := true, recurses := true, apart := false, narrowed := true }
def ProofSameUptoSaid : Prop := proofSameUptoRow.holds Try.pinned (OpenSpec.upto proofSameSpec)

/-- 'paymasterlaw26.RebaseTouches', WHERE WHAT IT READS IS OF BULK AT MOST 1048576: true; the input reads as it did. -/
def rebaseTouchesUptoRow : OpenClaim := { program := "ytcidfahoajmcmaa", sum := "a1dd2924edcfa6123d45a67b826f32628101af07c86811619a99a43c4d9c289c", func := "paymaster/paymasterlaw26.RebaseTouches", spec := "rebaseTouches", unfollowed := true, recurses := true, apart := false, narrowed := true }
def RebaseTouchesUptoSaid : Prop := rebaseTouchesUptoRow.holds Try.pinned (OpenSpec.upto rebaseTouchesSpec)

end Rows
end Go.Proofs.Ytcidfahoajmcmaa
