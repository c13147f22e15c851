/-
  NARROWER THAN 'FOR EVERY INPUT', by the rows' own cells (each row's printed sentence says how): NodeFolds: laid · NodeSums: laid · NodePlaces: laid · NodeHalves: laid · TraceNodes: laid · TraceCuts: laid · VerifyOne: laid · TreeNil: laid · RangesChecks: laid · TreeBuilds: laid.
  DERIVED. THE GIVEN ROWS OF THIS SEAT. 10 by the template 'for every input the law returns true; each argument reads behind the call as it read before'; 0 by the template 'total and deterministic' (their statements: YtijfifphcchbbaaDoorTotals.lean).
  GIVEN WITH THE SEED: the statements are not yours to turn. If you find one false, say at which input.
  Laid BY PROGRAM, IN A SANDBOX (cutbox-rows.mjs): the forced cells as the released guide's own fill.sh prints them over the translation eade0b7b942bf585… (all of the seat's roots in one cut). By AI agents, Wed Nov 11 2026. No macro, syntax, notation, axiom, sorry.
-/
import Derived.Test.YtijfifphcchbbaaDoorChecked
import GoSem.PinnedTables
import GoSem.Claim
import GoSem.ClaimJoined
import GoSem.ClaimMapViews
import Derived.JoinedTies
import Derived.KernelRfl
namespace Go.Proofs.YtijfifphcchbbaaDoor
/- THE CELL 'sum', in the pinned program and in every row, IS THE sha256 OF THE DUMP (.gsa) THAT YtijfifphcchbbaaDoorProg.lean LOADS. Nothing in Lean hashes anything: it is a label: what it is worth is what the hold of that sum in a sandbox is worth. -/
noncomputable def Tryd.pinned : Pinned := { name := "ytijfifphcchbbaadoor", sum := "eade0b7b942bf585c9d386e4dc13bd3fe014b73e92a3ef0708600fd3f1565fce", checked := Tryd.checked }
namespace Rows
def none {H : Type} : Left H := { results := [], args := [] }

/- WHAT THE LISTED PACKAGE-LEVEL VARIABLES READ AS WHEN THE CALL BEGINS. Each datum BY PROGRAM (the guide's laid-datum.mjs) off the statement by which the dump's own 'gosem.cut.vars' lays the variable. In a bare row this is a premise. The card (YtijfifphcchbbaaDoorCards.lean) ties it to the program's text. -/
def laid_paymaster_block_constants {H : Type} : DataW H := .agg [.lit (.int .u32 1116352408), .lit (.int .u32 1899447441), .lit (.int .u32 3049323471), .lit (.int .u32 3921009573), .lit (.int .u32 961987163), .lit (.int .u32 1508970993), .lit (.int .u32 2453635748), .lit (.int .u32 2870763221), .lit (.int .u32 3624381080), .lit (.int .u32 310598401), .lit (.int .u32 607225278), .lit (.int .u32 1426881987), .lit (.int .u32 1925078388), .lit (.int .u32 2162078206), .lit (.int .u32 2614888103), .lit (.int .u32 3248222580), .lit (.int .u32 3835390401), .lit (.int .u32 4022224774), .lit (.int .u32 264347078), .lit (.int .u32 604807628), .lit (.int .u32 770255983), .lit (.int .u32 1249150122), .lit (.int .u32 1555081692), .lit (.int .u32 1996064986), .lit (.int .u32 2554220882), .lit (.int .u32 2821834349), .lit (.int .u32 2952996808), .lit (.int .u32 3210313671), .lit (.int .u32 3336571891), .lit (.int .u32 3584528711), .lit (.int .u32 113926993), .lit (.int .u32 338241895), .lit (.int .u32 666307205), .lit (.int .u32 773529912), .lit (.int .u32 1294757372), .lit (.int .u32 1396182291), .lit (.int .u32 1695183700), .lit (.int .u32 1986661051), .lit (.int .u32 2177026350), .lit (.int .u32 2456956037), .lit (.int .u32 2730485921), .lit (.int .u32 2820302411), .lit (.int .u32 3259730800), .lit (.int .u32 3345764771), .lit (.int .u32 3516065817), .lit (.int .u32 3600352804), .lit (.int .u32 4094571909), .lit (.int .u32 275423344), .lit (.int .u32 430227734), .lit (.int .u32 506948616), .lit (.int .u32 659060556), .lit (.int .u32 883997877), .lit (.int .u32 958139571), .lit (.int .u32 1322822218), .lit (.int .u32 1537002063), .lit (.int .u32 1747873779), .lit (.int .u32 1955562222), .lit (.int .u32 2024104815), .lit (.int .u32 2227730452), .lit (.int .u32 2361852424), .lit (.int .u32 2428436474), .lit (.int .u32 2756734187), .lit (.int .u32 3204031479), .lit (.int .u32 3329325298)]
def laid_unicode_utf8_acceptRanges {H : Type} : DataW H := .agg [.agg [.lit (.int .u8 128), .lit (.int .u8 191)], .agg [.lit (.int .u8 160), .lit (.int .u8 191)], .agg [.lit (.int .u8 128), .lit (.int .u8 159)], .agg [.lit (.int .u8 144), .lit (.int .u8 191)], .agg [.lit (.int .u8 128), .lit (.int .u8 143)], .agg [.lit (.int .u8 0), .lit (.int .u8 0)], .agg [.lit (.int .u8 0), .lit (.int .u8 0)], .agg [.lit (.int .u8 0), .lit (.int .u8 0)], .agg [.lit (.int .u8 0), .lit (.int .u8 0)], .agg [.lit (.int .u8 0), .lit (.int .u8 0)], .agg [.lit (.int .u8 0), .lit (.int .u8 0)], .agg [.lit (.int .u8 0), .lit (.int .u8 0)], .agg [.lit (.int .u8 0), .lit (.int .u8 0)], .agg [.lit (.int .u8 0), .lit (.int .u8 0)], .agg [.lit (.int .u8 0), .lit (.int .u8 0)], .agg [.lit (.int .u8 0), .lit (.int .u8 0)]]
/-- One of Go's own tables, pinned by name: the form's constant. -/
def laid_unicode_utf8_first : DataW Unit := Go.Pinned.utf8First
def laid_math_bits_deBruijn64tab {H : Type} : DataW H := .agg [.lit (.int .u8 0), .lit (.int .u8 1), .lit (.int .u8 56), .lit (.int .u8 2), .lit (.int .u8 57), .lit (.int .u8 49), .lit (.int .u8 28), .lit (.int .u8 3), .lit (.int .u8 61), .lit (.int .u8 58), .lit (.int .u8 42), .lit (.int .u8 50), .lit (.int .u8 38), .lit (.int .u8 29), .lit (.int .u8 17), .lit (.int .u8 4), .lit (.int .u8 62), .lit (.int .u8 47), .lit (.int .u8 59), .lit (.int .u8 36), .lit (.int .u8 45), .lit (.int .u8 43), .lit (.int .u8 51), .lit (.int .u8 22), .lit (.int .u8 53), .lit (.int .u8 39), .lit (.int .u8 33), .lit (.int .u8 30), .lit (.int .u8 24), .lit (.int .u8 18), .lit (.int .u8 12), .lit (.int .u8 5), .lit (.int .u8 63), .lit (.int .u8 55), .lit (.int .u8 48), .lit (.int .u8 27), .lit (.int .u8 60), .lit (.int .u8 41), .lit (.int .u8 37), .lit (.int .u8 16), .lit (.int .u8 46), .lit (.int .u8 35), .lit (.int .u8 44), .lit (.int .u8 21), .lit (.int .u8 52), .lit (.int .u8 32), .lit (.int .u8 23), .lit (.int .u8 11), .lit (.int .u8 54), .lit (.int .u8 26), .lit (.int .u8 40), .lit (.int .u8 15), .lit (.int .u8 34), .lit (.int .u8 20), .lit (.int .u8 31), .lit (.int .u8 10), .lit (.int .u8 25), .lit (.int .u8 14), .lit (.int .u8 19), .lit (.int .u8 9), .lit (.int .u8 13), .lit (.int .u8 8), .lit (.int .u8 7), .lit (.int .u8 6)]

/-- 'paymasterlaw14.NodeFolds': WHATEVER THE INPUT: true; the input reads as it did. -/
def nodeFoldsSpec : ChangeSpec := { name := "nodeFolds", fn := fun _ => fun
  | [d1, d2] => { results := [.lit (.bool true)], args := [d1, d2] }
  | _ => none }
def nodeFoldsRow : OpenClaim := { program := "ytijfifphcchbbaadoor", sum := "eade0b7b942bf585c9d386e4dc13bd3fe014b73e92a3ef0708600fd3f1565fce", func := "paymaster/paymasterlaw14.NodeFolds", spec := "nodeFolds", inPlace := ["math/bits.Add64", "internal/abi.NoEscape"], unfollowed := true, recurses := true, named := ["paymaster/block.constants"], apart := false, laid := [("paymaster/block.constants", laid_paymaster_block_constants)] }
def NodeFoldsSaid : Prop := nodeFoldsRow.holds Tryd.pinned (OpenSpec.ofChange nodeFoldsSpec)

/-- ITS FALSE NEIGHBOUR: 'it returns false'. Refute it at one input. -/
def nodeFoldsWrong : ChangeSpec := { name := "nodeFolds", fn := fun _ => fun
  | [d1, d2] => { results := [.lit (.bool false)], args := [d1, d2] }
  | _ => none }
def NodeFoldsWrongFalsely : Prop := nodeFoldsRow.holds Tryd.pinned (OpenSpec.ofChange nodeFoldsWrong)

/-- 'paymasterlaw14.NodeSums': WHATEVER THE INPUT: true; the input reads as it did. -/
def nodeSumsSpec : ChangeSpec := { name := "nodeSums", fn := fun _ => fun
  | [d1, d2, d3] => { results := [.lit (.bool true)], args := [d1, d2, d3] }
  | _ => none }
def nodeSumsRow : OpenClaim := { program := "ytijfifphcchbbaadoor", sum := "eade0b7b942bf585c9d386e4dc13bd3fe014b73e92a3ef0708600fd3f1565fce", func := "paymaster/paymasterlaw14.NodeSums", spec := "nodeSums", inPlace := ["math/bits.Add64", "internal/abi.NoEscape"], unfollowed := true, recurses := true, named := ["paymaster/block.constants"], apart := false, laid := [("paymaster/block.constants", laid_paymaster_block_constants)] }
def NodeSumsSaid : Prop := nodeSumsRow.holds Tryd.pinned (OpenSpec.ofChange nodeSumsSpec)

/-- ITS FALSE NEIGHBOUR: 'it returns false'. Refute it at one input. -/
def nodeSumsWrong : ChangeSpec := { name := "nodeSums", fn := fun _ => fun
  | [d1, d2, d3] => { results := [.lit (.bool false)], args := [d1, d2, d3] }
  | _ => none }
def NodeSumsWrongFalsely : Prop := nodeSumsRow.holds Tryd.pinned (OpenSpec.ofChange nodeSumsWrong)

/-- 'paymasterlaw14.NodePlaces': WHATEVER THE INPUT: true; the input reads as it did. -/
def nodePlacesSpec : ChangeSpec := { name := "nodePlaces", fn := fun _ => fun
  | [d1, d2, d3] => { results := [.lit (.bool true)], args := [d1, d2, d3] }
  | _ => none }
def nodePlacesRow : OpenClaim := { program := "ytijfifphcchbbaadoor", sum := "eade0b7b942bf585c9d386e4dc13bd3fe014b73e92a3ef0708600fd3f1565fce", func := "paymaster/paymasterlaw14.NodePlaces", spec := "nodePlaces", inPlace := ["math/bits.Add64", "internal/abi.NoEscape"], unfollowed := true, recurses := true, named := ["paymaster/block.constants"], apart := false, laid := [("paymaster/block.constants", laid_paymaster_block_constants)] }
def NodePlacesSaid : Prop := nodePlacesRow.holds Tryd.pinned (OpenSpec.ofChange nodePlacesSpec)

/-- ITS FALSE NEIGHBOUR: 'it returns false'. Refute it at one input. -/
def nodePlacesWrong : ChangeSpec := { name := "nodePlaces", fn := fun _ => fun
  | [d1, d2, d3] => { results := [.lit (.bool false)], args := [d1, d2, d3] }
  | _ => none }
def NodePlacesWrongFalsely : Prop := nodePlacesRow.holds Tryd.pinned (OpenSpec.ofChange nodePlacesWrong)

/-- 'paymasterlaw14.NodeHalves': WHATEVER THE INPUT: true; the input reads as it did. -/
def nodeHalvesSpec : ChangeSpec := { name := "nodeHalves", fn := fun _ => fun
  | [d1, d2, d3, d4] => { results := [.lit (.bool true)], args := [d1, d2, d3, d4] }
  | _ => none }
def nodeHalvesRow : OpenClaim := { program := "ytijfifphcchbbaadoor", sum := "eade0b7b942bf585c9d386e4dc13bd3fe014b73e92a3ef0708600fd3f1565fce", func := "paymaster/paymasterlaw14.NodeHalves", spec := "nodeHalves", inPlace := ["math/bits.Add64", "internal/abi.NoEscape"], unfollowed := true, recurses := true, named := ["paymaster/block.constants"], apart := false, laid := [("paymaster/block.constants", laid_paymaster_block_constants)] }
def NodeHalvesSaid : Prop := nodeHalvesRow.holds Tryd.pinned (OpenSpec.ofChange nodeHalvesSpec)

/-- ITS FALSE NEIGHBOUR: 'it returns false'. Refute it at one input. -/
def nodeHalvesWrong : ChangeSpec := { name := "nodeHalves", fn := fun _ => fun
  | [d1, d2, d3, d4] => { results := [.lit (.bool false)], args := [d1, d2, d3, d4] }
  | _ => none }
def NodeHalvesWrongFalsely : Prop := nodeHalvesRow.holds Tryd.pinned (OpenSpec.ofChange nodeHalvesWrong)

/-- 'paymasterlaw18.TraceNodes': WHATEVER THE INPUT: true; the input reads as it did. -/
def traceNodesSpec : ChangeSpec := { name := "traceNodes", fn := fun _ => fun
  | [d1, d2] => { results := [.lit (.bool true)], args := [d1, d2] }
  | _ => none }
def traceNodesRow : OpenClaim := { program := "ytijfifphcchbbaadoor", sum := "eade0b7b942bf585c9d386e4dc13bd3fe014b73e92a3ef0708600fd3f1565fce", func := "paymaster/paymasterlaw18.TraceNodes", spec := "traceNodes", inPlace := ["internal/abi.NoEscape", "math/bits.Add64", "internal/bytealg.IndexByteString", "internal/bytealg.IndexString"], unfollowed := true, recurses := true, named := ["paymaster/block.constants", "unicode/utf8.first", "unicode/utf8.acceptRanges", "internal/bytealg.MaxLen"], apart := false, laid := [("paymaster/block.constants", laid_paymaster_block_constants), ("unicode/utf8.acceptRanges", laid_unicode_utf8_acceptRanges), ("unicode/utf8.first", laid_unicode_utf8_first)] }
def TraceNodesSaid : Prop := traceNodesRow.holds Tryd.pinned (OpenSpec.ofChange traceNodesSpec)

/-- ITS FALSE NEIGHBOUR: 'it returns false'. Refute it at one input. -/
def traceNodesWrong : ChangeSpec := { name := "traceNodes", fn := fun _ => fun
  | [d1, d2] => { results := [.lit (.bool false)], args := [d1, d2] }
  | _ => none }
def TraceNodesWrongFalsely : Prop := traceNodesRow.holds Tryd.pinned (OpenSpec.ofChange traceNodesWrong)

/-- 'paymasterlaw18.TraceCuts': WHATEVER THE INPUT: true; the input reads as it did. -/
def traceCutsSpec : ChangeSpec := { name := "traceCuts", fn := fun _ => fun
  | [d1, d2, d3] => { results := [.lit (.bool true)], args := [d1, d2, d3] }
  | _ => none }
def traceCutsRow : OpenClaim := { program := "ytijfifphcchbbaadoor", sum := "eade0b7b942bf585c9d386e4dc13bd3fe014b73e92a3ef0708600fd3f1565fce", func := "paymaster/paymasterlaw18.TraceCuts", spec := "traceCuts", inPlace := ["internal/abi.NoEscape", "math/bits.Add64", "internal/bytealg.IndexByteString", "internal/bytealg.IndexString"], unfollowed := true, recurses := true, named := ["paymaster/block.constants", "unicode/utf8.first", "unicode/utf8.acceptRanges", "internal/bytealg.MaxLen"], apart := false, laid := [("paymaster/block.constants", laid_paymaster_block_constants), ("unicode/utf8.acceptRanges", laid_unicode_utf8_acceptRanges), ("unicode/utf8.first", laid_unicode_utf8_first)] }
def TraceCutsSaid : Prop := traceCutsRow.holds Tryd.pinned (OpenSpec.ofChange traceCutsSpec)

/-- ITS FALSE NEIGHBOUR: 'it returns false'. Refute it at one input. -/
def traceCutsWrong : ChangeSpec := { name := "traceCuts", fn := fun _ => fun
  | [d1, d2, d3] => { results := [.lit (.bool false)], args := [d1, d2, d3] }
  | _ => none }
def TraceCutsWrongFalsely : Prop := traceCutsRow.holds Tryd.pinned (OpenSpec.ofChange traceCutsWrong)

/-- 'paymasterlaw17.VerifyOne': WHATEVER THE INPUT: true; the input reads as it did. -/
def verifyOneSpec : ChangeSpec := { name := "verifyOne", fn := fun _ => fun
  | [d1, d2, d3] => { results := [.lit (.bool true)], args := [d1, d2, d3] }
  | _ => none }
def verifyOneRow : OpenClaim := { program := "ytijfifphcchbbaadoor", sum := "eade0b7b942bf585c9d386e4dc13bd3fe014b73e92a3ef0708600fd3f1565fce", func := "paymaster/paymasterlaw17.VerifyOne", spec := "verifyOne", inPlace := ["internal/bytealg.IndexByteString", "internal/bytealg.IndexString", "internal/abi.NoEscape", "math/bits.Add64"], unfollowed := true, recurses := true, named := ["unicode/utf8.first", "unicode/utf8.acceptRanges", "paymaster/block.constants", "internal/bytealg.MaxLen"], apart := false, laid := [("paymaster/block.constants", laid_paymaster_block_constants), ("unicode/utf8.acceptRanges", laid_unicode_utf8_acceptRanges), ("unicode/utf8.first", laid_unicode_utf8_first)] }
def VerifyOneSaid : Prop := verifyOneRow.holds Tryd.pinned (OpenSpec.ofChange verifyOneSpec)

/-- ITS FALSE NEIGHBOUR: 'it returns false'. Refute it at one input. -/
def verifyOneWrong : ChangeSpec := { name := "verifyOne", fn := fun _ => fun
  | [d1, d2, d3] => { results := [.lit (.bool false)], args := [d1, d2, d3] }
  | _ => none }
def VerifyOneWrongFalsely : Prop := verifyOneRow.holds Tryd.pinned (OpenSpec.ofChange verifyOneWrong)

/-- 'paymasterlaw15.TreeNil': WHATEVER THE INPUT: true; the input reads as it did. -/
def treeNilSpec : ChangeSpec := { name := "treeNil", fn := fun _ => fun
  | [d1, d2, d3] => { results := [.lit (.bool true)], args := [d1, d2, d3] }
  | _ => none }
def treeNilRow : OpenClaim := { program := "ytijfifphcchbbaadoor", sum := "eade0b7b942bf585c9d386e4dc13bd3fe014b73e92a3ef0708600fd3f1565fce", func := "paymaster/paymasterlaw15.TreeNil", spec := "treeNil", inPlace := ["internal/bytealg.IndexByteString", "internal/bytealg.IndexString", "internal/abi.NoEscape", "math/bits.Add64"], unfollowed := true, recurses := true, named := ["unicode/utf8.first", "unicode/utf8.acceptRanges", "paymaster/block.constants", "internal/bytealg.MaxLen"], apart := false, laid := [("paymaster/block.constants", laid_paymaster_block_constants), ("unicode/utf8.acceptRanges", laid_unicode_utf8_acceptRanges), ("unicode/utf8.first", laid_unicode_utf8_first)] }
def TreeNilSaid : Prop := treeNilRow.holds Tryd.pinned (OpenSpec.ofChange treeNilSpec)

/-- ITS FALSE NEIGHBOUR: 'it returns false'. Refute it at one input. -/
def treeNilWrong : ChangeSpec := { name := "treeNil", fn := fun _ => fun
  | [d1, d2, d3] => { results := [.lit (.bool false)], args := [d1, d2, d3] }
  | _ => none }
def TreeNilWrongFalsely : Prop := treeNilRow.holds Tryd.pinned (OpenSpec.ofChange treeNilWrong)

/-- 'paymasterlaw21.RangesChecks': WHATEVER THE INPUT: true; the input reads as it did. -/
def rangesChecksSpec : ChangeSpec := { name := "rangesChecks", fn := fun _ => fun
  | [d1, d2, d3] => { results := [.lit (.bool true)], args := [d1, d2, d3] }
  | _ => none }
def rangesChecksRow : OpenClaim := { program := "ytijfifphcchbbaadoor", sum := "eade0b7b942bf585c9d386e4dc13bd3fe014b73e92a3ef0708600fd3f1565fce", func := "paymaster/paymasterlaw21.RangesChecks", spec := "rangesChecks", inPlace := ["math/bits.Add64", "internal/abi.NoEscape"], unfollowed := true, recurses := true, named := ["math/bits.deBruijn64tab", "paymaster/block.constants"], apart := false, laid := [("math/bits.deBruijn64tab", laid_math_bits_deBruijn64tab), ("paymaster/block.constants", laid_paymaster_block_constants)] }
def RangesChecksSaid : Prop := rangesChecksRow.holds Tryd.pinned (OpenSpec.ofChange rangesChecksSpec)

/-- ITS FALSE NEIGHBOUR: 'it returns false'. Refute it at one input. -/
def rangesChecksWrong : ChangeSpec := { name := "rangesChecks", fn := fun _ => fun
  | [d1, d2, d3] => { results := [.lit (.bool false)], args := [d1, d2, d3] }
  | _ => none }
def RangesChecksWrongFalsely : Prop := rangesChecksRow.holds Tryd.pinned (OpenSpec.ofChange rangesChecksWrong)

/-- 'paymasterlaw15.TreeBuilds': WHATEVER THE INPUT: true; the input reads as it did. -/
def treeBuildsSpec : ChangeSpec := { name := "treeBuilds", fn := fun _ => fun
  | [d1, d2, d3, d4] => { results := [.lit (.bool true)], args := [d1, d2, d3, d4] }
  | _ => none }
def treeBuildsRow : OpenClaim := { program := "ytijfifphcchbbaadoor", sum := "eade0b7b942bf585c9d386e4dc13bd3fe014b73e92a3ef0708600fd3f1565fce", func := "paymaster/paymasterlaw15.TreeBuilds", spec := "treeBuilds", inPlace := ["internal/bytealg.IndexByteString", "internal/bytealg.IndexString", "internal/abi.NoEscape", "math/bits.Add64"], unfollowed := true, recurses := true, named := ["unicode/utf8.first", "unicode/utf8.acceptRanges", "paymaster/block.constants", "internal/bytealg.MaxLen"], apart := false, laid := [("paymaster/block.constants", laid_paymaster_block_constants), ("unicode/utf8.acceptRanges", laid_unicode_utf8_acceptRanges), ("unicode/utf8.first", laid_unicode_utf8_first)] }
def TreeBuildsSaid : Prop := treeBuildsRow.holds Tryd.pinned (OpenSpec.ofChange treeBuildsSpec)

/-- ITS FALSE NEIGHBOUR: 'it returns false'. Refute it at one input. -/
def treeBuildsWrong : ChangeSpec := { name := "treeBuilds", fn := fun _ => fun
  | [d1, d2, d3, d4] => { results := [.lit (.bool false)], args := [d1, d2, d3, d4] }
  | _ => none }
def TreeBuildsWrongFalsely : Prop := treeBuildsRow.holds Tryd.pinned (OpenSpec.ofChange treeBuildsWrong)

/- THE SECOND FORM. 'bulk': how many values and letters a reading holds, each counted each time it is reached (what is shared counts as often as it is met; a slice's spare places count too). A statement '..UptoSaid' is the law's where the arguments, and the package variables that the reading takes, are together of bulk at most 1048576: NARROWER than '..Said'. Prove '..Said' where nothing that the law and all that it calls make is longer than what came in: it says more and counts as full. Else prove '..UptoSaid'. A law counts once. -/
mutual
def uptoBulk {H : Type} : DataW H → Nat
  | .lit (.string bytes) => bytes.length + 1
  | .lit _ => 1
  | .nil => 1
  | .ptr d => uptoBulk d + 1
  | .slice elems spare => uptoBulkAll elems + uptoBulkAll spare + 1
  | .agg parts => uptoBulkAll parts + 1
  | .iface _ d => uptoBulk d + 1
  | .map entries => uptoBulkEntries entries + 1
  | .held _ => 1
def uptoBulkAll {H : Type} : List (DataW H) → Nat
  | [] => 0
  | d :: r => uptoBulk d + uptoBulkAll r
def uptoBulkEntries {H : Type} : List (Lit × DataW H) → Nat
  | [] => 0
  | x :: r => uptoBulkEntry x + uptoBulkEntries r
def uptoBulkEntry {H : Type} : Lit × DataW H → Nat
  | (.string bytes, d) => bytes.length + uptoBulk d + 1
  | (_, d) => uptoBulk d + 1
 end
def uptoSmall : (H : Type) → List (DataW H) → Bool := fun _ ds => decide (uptoBulkAll ds ≤ 1048576)
def OpenSpec.upto (s : _root_.Go.ChangeSpec) : _root_.Go.OpenSpec := { _root_.Go.OpenSpec.ofChange s with cond := some uptoSmall }

/-- 'paymasterlaw14.NodeFolds', WHERE WHAT IT READS IS OF BULK AT MOST 1048576: true; the input reads as it did. -/
def nodeFoldsUptoRow : OpenClaim := { program := "ytijfifphcchbbaadoor", sum := "eade0b7b942bf585c9d386e4dc13bd3fe014b73e92a3ef0708600fd3f1565fce", func := "paymaster/paymasterlaw14.NodeFolds", spec := "nodeFolds", inPlace := ["math/bits.Add64", "internal/abi.NoEscape"], unfollowed := true, recurses := true, named := ["paymaster/block.constants"], apart := false, laid := [("paymaster/block.constants", laid_paymaster_block_constants)], narrowed := true }
def NodeFoldsUptoSaid : Prop := nodeFoldsUptoRow.holds Tryd.pinned (OpenSpec.upto nodeFoldsSpec)

/-- 'paymasterlaw14.NodeSums', WHERE WHAT IT READS IS OF BULK AT MOST 1048576: true; the input reads as it did. -/
def nodeSumsUptoRow : OpenClaim := { program := "ytijfifphcchbbaadoor", sum := "eade0b7b942bf585c9d386e4dc13bd3fe014b73e92a3ef0708600fd3f1565fce", func := "paymaster/paymasterlaw14.NodeSums", spec := "nodeSums", inPlace := ["math/bits.Add64", "internal/abi.NoEscape"], unfollowed := true, recurses := true, named := ["paymaster/block.constants"], apart := false, laid := [("paymaster/block.constants", laid_paymaster_block_constants)], narrowed := true }
def NodeSumsUptoSaid : Prop := nodeSumsUptoRow.holds Tryd.pinned (OpenSpec.upto nodeSumsSpec)

/-- 'paymasterlaw14.NodePlaces', WHERE WHAT IT READS IS OF BULK AT MOST 1048576: true; the input reads as it did. -/
def nodePlacesUptoRow : OpenClaim := { program := "ytijfifphcchbbaadoor", sum := "eade0b7b942bf585c9d386e4dc13bd3fe014b73e92a3ef0708600fd3f1565fce", func := "paymaster/paymasterlaw14.NodePlaces", spec := "nodePlaces", inPlace := ["math/bits.Add64", "internal/abi.NoEscape"], unfollowed := true, recurses := true, named := ["paymaster/block.constants"], apart := false, laid := [("paymaster/block.constants", laid_paymaster_block_constants)], narrowed := true }
def NodePlacesUptoSaid : Prop := nodePlacesUptoRow.holds Tryd.pinned (OpenSpec.upto nodePlacesSpec)

/-- 'paymasterlaw14.NodeHalves', WHERE WHAT IT READS IS OF BULK AT MOST 1048576: true; the input reads as it did. -/
def nodeHalvesUptoRow : OpenClaim := { program := "ytijfifphcchbbaadoor", sum := "eade0b7b942bf585c9d386e4dc13bd3fe014b73e92a3ef0708600fd3f1565fce", func := "paymaster/paymasterlaw14.NodeHalves", spec := "nodeHalves", inPlace := ["math/bits.Add64", "internal/abi.NoEscape"], unfollowed := true, recurses := true, named := ["paymaster/block.constants"], apart := false, laid := [("paymaster/block.constants", laid_paymaster_block_constants)], narrowed := true }
def NodeHalvesUptoSaid : Prop := nodeHalvesUptoRow.holds Tryd.pinned (OpenSpec.upto nodeHalvesSpec)

/-- 'paymasterlaw18.TraceNodes', WHERE WHAT IT READS IS OF BULK AT MOST 1048576: true; the input reads as it did. -/
def traceNodesUptoRow : OpenClaim := { program := "ytijfifphcchbbaadoor", sum := "eade0b7b942bf585c9d386e4dc13bd3fe014b73e92a3ef0708600fd3f1565fce", func := "paymaster/paymasterlaw18.TraceNodes", spec := "traceNodes", inPlace := ["internal/abi.NoEscape", "math/bits.Add64", "internal/bytealg.IndexByteString", "internal/bytealg.IndexString"], unfollowed := true, recurses := true, named := ["paymaster/block.constants", "unicode/utf8.first", "unicode/utf8.acceptRanges", "internal/bytealg.MaxLen"], apart := false, laid := [("paymaster/block.constants", laid_paymaster_block_constants), ("unicode/utf8.acceptRanges", laid_unicode_utf8_acceptRanges), ("unicode/utf8.first", laid_unicode_utf8_first)], narrowed := true }
def TraceNodesUptoSaid : Prop := traceNodesUptoRow.holds Tryd.pinned (OpenSpec.upto traceNodesSpec)

/-- 'paymasterlaw18.TraceCuts', WHERE WHAT IT READS IS OF BULK AT MOST 1048576: true; the input reads as it did. -/
def traceCutsUptoRow : OpenClaim := { program := "ytijfifphcchbbaadoor", sum := "eade0b7b942bf585c9d386e4dc13bd3fe014b73e92a3ef0708600fd3f1565fce", func := "paymaster/paymasterlaw18.TraceCuts", spec := "traceCuts", inPlace := ["internal/abi.NoEscape", "math/bits.Add64", "internal/bytealg.IndexByteString", "internal/bytealg.IndexString"], unfollowed := true, recurses := true, named := ["paymaster/block.constants", "unicode/utf8.first", "unicode/utf8.acceptRanges", "internal/bytealg.MaxLen"], apart := false, laid := [("paymaster/block.constants", laid_paymaster_block_constants), ("unicode/utf8.acceptRanges", laid_unicode_utf8_acceptRanges), ("unicode/utf8.first", laid_unicode_utf8_first)], narrowed := true }
def TraceCutsUptoSaid : Prop := traceCutsUptoRow.holds Tryd.pinned (OpenSpec.upto traceCutsSpec)

/-- 'paymasterlaw17.VerifyOne', WHERE WHAT IT READS IS OF BULK AT MOST 1048576: true; the input reads as it did. -/
def verifyOneUptoRow : OpenClaim := { program := "ytijfifphcchbbaadoor", sum := "eade0b7b942bf585c9d386e4dc13bd3fe014b73e92a3ef0708600fd3f1565fce", func := "paymaster/paymasterlaw17.VerifyOne", spec := "verifyOne", inPlace := ["internal/bytealg.IndexByteString", "internal/bytealg.IndexString", "internal/abi.NoEscape", "math/bits.Add64"], unfollowed := true, recurses := true, named := ["unicode/utf8.first", "unicode/utf8.acceptRanges", "paymaster/block.constants", "internal/bytealg.MaxLen"], apart := false, laid := [("paymaster/block.constants", laid_paymaster_block_constants), ("unicode/utf8.acceptRanges", laid_unicode_utf8_acceptRanges), ("unicode/utf8.first", laid_unicode_utf8_first)], narrowed := true }
def VerifyOneUptoSaid : Prop := verifyOneUptoRow.holds Tryd.pinned (OpenSpec.upto verifyOneSpec)

/-- 'paymasterlaw15.TreeNil', WHERE WHAT IT READS IS OF BULK AT MOST 1048576: true; the input reads as it did. -/
def treeNilUptoRow : OpenClaim := { program := "ytijfifphcchbbaadoor", sum := "eade0b7b942bf585c9d386e4dc13bd3fe014b73e92a3ef0708600fd3f1565fce", func := "paymaster/paymasterlaw15.TreeNil", spec := "treeNil", inPlace := ["internal/bytealg.IndexByteString", "internal/bytealg.IndexString", "internal/abi.NoEscape", "math/bits.Add64"], unfollowed := true, recurses := true, named := ["unicode/utf8.first", "unicode/utf8.acceptRanges", "paymaster/block.constants", "internal/bytealg.MaxLen"], apart := false, laid := [("paymaster/block.constants", laid_paymaster_block_constants), ("unicode/utf8.acceptRanges", laid_unicode_utf8_acceptRanges), ("unicode/utf8.first", laid_unicode_utf8_first)], narrowed := true }
def TreeNilUptoSaid : Prop := treeNilUptoRow.holds Tryd.pinned (OpenSpec.upto treeNilSpec)

/-- 'paymasterlaw21.RangesChecks', WHERE WHAT IT READS IS OF BULK AT MOST 1048576: true; the input reads as it did. -/
def rangesChecksUptoRow : OpenClaim := { program := "ytijfifphcchbbaadoor", sum := "eade0b7b942bf585c9d386e4dc13bd3fe014b73e92a3ef0708600fd3f1565fce", func := "paymaster/paymasterlaw21.RangesChecks", spec := "rangesChecks", inPlace := ["math/bits.Add64", "internal/abi.NoEscape"], unfollowed := true, recurses := true, named := ["math/bits.deBruijn64tab", "paymaster/block.constants"], apart := false, laid := [("math/bits.deBruijn64tab", laid_math_bits_deBruijn64tab), ("paymaster/block.constants", laid_paymaster_block_constants)], narrowed := true }
def RangesChecksUptoSaid : Prop := rangesChecksUptoRow.holds Tryd.pinned (OpenSpec.upto rangesChecksSpec)

/-- 'paymasterlaw15.TreeBuilds', WHERE WHAT IT READS IS OF BULK AT MOST 1048576: true; the input reads as it did. -/
def treeBuildsUptoRow : OpenClaim := { program := "ytijfifphcchbbaadoor", sum := "eade0b7b942bf585c9d386e4dc13bd3fe014b73e92a3ef0708600fd3f1565fce", func := "paymaster/paymasterlaw15.TreeBuilds", spec := "treeBuilds", inPlace := ["internal/bytealg.IndexByteString", "internal/bytealg.IndexString", "internal/abi.NoEscape", "math/bits.Add64"], unfollowed := true, recurses := true, named := ["unicode/utf8.first", "unicode/utf8.acceptRanges", "paymaster/block.constants", "internal/bytealg.MaxLen"], apart := false, laid := [("paymaster/block.constants", laid_paymaster_block_constants), ("unicode/utf8.acceptRanges", laid_unicode_utf8_acceptRanges), ("unicode/utf8.first", laid_unicode_utf8_first)], narrowed := true }
def TreeBuildsUptoSaid : Prop := treeBuildsUptoRow.holds Tryd.pinned (OpenSpec.upto treeBuildsSpec)

end Rows
end Go.Proofs.YtijfifphcchbbaaDoor
