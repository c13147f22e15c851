/-
  NARROWER THAN 'FOR EVERY INPUT', by the rows' own cells (each row's printed sentence says how): NodeClimbs: laid · NodeFolds: laid · NodeSums: laid · NodePlaces: laid · NodeHalves: laid · TraceNodes: laid · TraceCuts: laid · VerifyUps: laid · VerifyHigh: laid · VerifyOne: laid.
  DERIVED. THE GIVEN ROWS OF THIS SEAT. 10 by the template 'for every input the law returns true; each argument reads behind the call as it read before'; 0 by the template 'total and deterministic' (their statements: YtlmmpncdemblbaaDoorTotals.lean).
  GIVEN WITH THE SEED: the statements are not yours to turn. If you find one false, say at which input.
  Laid BY PROGRAM, IN A SANDBOX (cutbox-rows.mjs): the forced cells as the released guide's own fill.sh prints them over the translation 80b60cabae357f37… (all of the seat's roots in one cut). By AI agents, Wed Nov 11 2026. No macro, syntax, notation, axiom, sorry.
-/
import Derived.Test.YtlmmpncdemblbaaDoorChecked
import GoSem.PinnedTables
import GoSem.Claim
import GoSem.ClaimJoined
import GoSem.ClaimMapViews
import Derived.JoinedTies
import Derived.KernelRfl
namespace Go.Proofs.YtlmmpncdemblbaaDoor
/- THE CELL 'sum', in the pinned program and in every row, IS THE sha256 OF THE DUMP (.gsa) THAT YtlmmpncdemblbaaDoorProg.lean LOADS. Nothing in Lean hashes anything: it is a label: what it is worth is what the hold of that sum in a sandbox is worth. -/
noncomputable def Tryd.pinned : Pinned := { name := "ytlmmpncdemblbaadoor", sum := "80b60cabae357f3781dafc42c1f143d8cb7317b46d77941bbaaba419af9303a3", checked := Tryd.checked }
namespace Rows
def none {H : Type} : Left H := { results := [], args := [] }

/- WHAT THE LISTED PACKAGE-LEVEL VARIABLES READ AS WHEN THE CALL BEGINS. Each datum BY PROGRAM (the guide's laid-datum.mjs) off the statement by which the dump's own 'gosem.cut.vars' lays the variable. In a bare row this is a premise. The card (YtlmmpncdemblbaaDoorCards.lean) ties it to the program's text. -/
def laid_paymaster_block_constants {H : Type} : DataW H := .agg [.lit (.int .u32 1116352408), .lit (.int .u32 1899447441), .lit (.int .u32 3049323471), .lit (.int .u32 3921009573), .lit (.int .u32 961987163), .lit (.int .u32 1508970993), .lit (.int .u32 2453635748), .lit (.int .u32 2870763221), .lit (.int .u32 3624381080), .lit (.int .u32 310598401), .lit (.int .u32 607225278), .lit (.int .u32 1426881987), .lit (.int .u32 1925078388), .lit (.int .u32 2162078206), .lit (.int .u32 2614888103), .lit (.int .u32 3248222580), .lit (.int .u32 3835390401), .lit (.int .u32 4022224774), .lit (.int .u32 264347078), .lit (.int .u32 604807628), .lit (.int .u32 770255983), .lit (.int .u32 1249150122), .lit (.int .u32 1555081692), .lit (.int .u32 1996064986), .lit (.int .u32 2554220882), .lit (.int .u32 2821834349), .lit (.int .u32 2952996808), .lit (.int .u32 3210313671), .lit (.int .u32 3336571891), .lit (.int .u32 3584528711), .lit (.int .u32 113926993), .lit (.int .u32 338241895), .lit (.int .u32 666307205), .lit (.int .u32 773529912), .lit (.int .u32 1294757372), .lit (.int .u32 1396182291), .lit (.int .u32 1695183700), .lit (.int .u32 1986661051), .lit (.int .u32 2177026350), .lit (.int .u32 2456956037), .lit (.int .u32 2730485921), .lit (.int .u32 2820302411), .lit (.int .u32 3259730800), .lit (.int .u32 3345764771), .lit (.int .u32 3516065817), .lit (.int .u32 3600352804), .lit (.int .u32 4094571909), .lit (.int .u32 275423344), .lit (.int .u32 430227734), .lit (.int .u32 506948616), .lit (.int .u32 659060556), .lit (.int .u32 883997877), .lit (.int .u32 958139571), .lit (.int .u32 1322822218), .lit (.int .u32 1537002063), .lit (.int .u32 1747873779), .lit (.int .u32 1955562222), .lit (.int .u32 2024104815), .lit (.int .u32 2227730452), .lit (.int .u32 2361852424), .lit (.int .u32 2428436474), .lit (.int .u32 2756734187), .lit (.int .u32 3204031479), .lit (.int .u32 3329325298)]
def laid_unicode_utf8_acceptRanges {H : Type} : DataW H := .agg [.agg [.lit (.int .u8 128), .lit (.int .u8 191)], .agg [.lit (.int .u8 160), .lit (.int .u8 191)], .agg [.lit (.int .u8 128), .lit (.int .u8 159)], .agg [.lit (.int .u8 144), .lit (.int .u8 191)], .agg [.lit (.int .u8 128), .lit (.int .u8 143)], .agg [.lit (.int .u8 0), .lit (.int .u8 0)], .agg [.lit (.int .u8 0), .lit (.int .u8 0)], .agg [.lit (.int .u8 0), .lit (.int .u8 0)], .agg [.lit (.int .u8 0), .lit (.int .u8 0)], .agg [.lit (.int .u8 0), .lit (.int .u8 0)], .agg [.lit (.int .u8 0), .lit (.int .u8 0)], .agg [.lit (.int .u8 0), .lit (.int .u8 0)], .agg [.lit (.int .u8 0), .lit (.int .u8 0)], .agg [.lit (.int .u8 0), .lit (.int .u8 0)], .agg [.lit (.int .u8 0), .lit (.int .u8 0)], .agg [.lit (.int .u8 0), .lit (.int .u8 0)]]
/-- One of Go's own tables, pinned by name: the form's constant. -/
def laid_unicode_utf8_first : DataW Unit := Go.Pinned.utf8First

/-- 'paymasterlaw14.NodeClimbs': WHATEVER THE INPUT: true; the input reads as it did. -/
def nodeClimbsSpec : ChangeSpec := { name := "nodeClimbs", fn := fun _ => fun
  | [d1, d2, d3, d4] => { results := [.lit (.bool true)], args := [d1, d2, d3, d4] }
  | _ => none }
def nodeClimbsRow : OpenClaim := { program := "ytlmmpncdemblbaadoor", sum := "80b60cabae357f3781dafc42c1f143d8cb7317b46d77941bbaaba419af9303a3", func := "paymaster/paymasterlaw14.NodeClimbs", spec := "nodeClimbs", inPlace := ["math/bits.Add64", "internal/abi.NoEscape"], unfollowed := true, recurses := true, named := ["paymaster/block.constants"], apart := false, laid := [("paymaster/block.constants", laid_paymaster_block_constants)] }
def NodeClimbsSaid : Prop := nodeClimbsRow.holds Tryd.pinned (OpenSpec.ofChange nodeClimbsSpec)

/-- ITS FALSE NEIGHBOUR: 'it returns false'. Refute it at one input. -/
def nodeClimbsWrong : ChangeSpec := { name := "nodeClimbs", fn := fun _ => fun
  | [d1, d2, d3, d4] => { results := [.lit (.bool false)], args := [d1, d2, d3, d4] }
  | _ => none }
def NodeClimbsWrongFalsely : Prop := nodeClimbsRow.holds Tryd.pinned (OpenSpec.ofChange nodeClimbsWrong)

/-- 'paymasterlaw14.NodeFolds': WHATEVER THE INPUT: true; the input reads as it did. -/
def nodeFoldsSpec : ChangeSpec := { name := "nodeFolds", fn := fun _ => fun
  | [d1, d2] => { results := [.lit (.bool true)], args := [d1, d2] }
  | _ => none }
def nodeFoldsRow : OpenClaim := { program := "ytlmmpncdemblbaadoor", sum := "80b60cabae357f3781dafc42c1f143d8cb7317b46d77941bbaaba419af9303a3", func := "paymaster/paymasterlaw14.NodeFolds", spec := "nodeFolds", inPlace := ["math/bits.Add64", "internal/abi.NoEscape"], unfollowed := true, recurses := true, named := ["paymaster/block.constants"], apart := false, laid := [("paymaster/block.constants", laid_paymaster_block_constants)] }
def NodeFoldsSaid : Prop := nodeFoldsRow.holds Tryd.pinned (OpenSpec.ofChange nodeFoldsSpec)

/-- ITS FALSE NEIGHBOUR: 'it returns false'. Refute it at one input. -/
def nodeFoldsWrong : ChangeSpec := { name := "nodeFolds", fn := fun _ => fun
  | [d1, d2] => { results := [.lit (.bool false)], args := [d1, d2] }
  | _ => none }
def NodeFoldsWrongFalsely : Prop := nodeFoldsRow.holds Tryd.pinned (OpenSpec.ofChange nodeFoldsWrong)

/-- 'paymasterlaw14.NodeSums': WHATEVER THE INPUT: true; the input reads as it did. -/
def nodeSumsSpec : ChangeSpec := { name := "nodeSums", fn := fun _ => fun
  | [d1, d2, d3] => { results := [.lit (.bool true)], args := [d1, d2, d3] }
  | _ => none }
def nodeSumsRow : OpenClaim := { program := "ytlmmpncdemblbaadoor", sum := "80b60cabae357f3781dafc42c1f143d8cb7317b46d77941bbaaba419af9303a3", func := "paymaster/paymasterlaw14.NodeSums", spec := "nodeSums", inPlace := ["math/bits.Add64", "internal/abi.NoEscape"], unfollowed := true, recurses := true, named := ["paymaster/block.constants"], apart := false, laid := [("paymaster/block.constants", laid_paymaster_block_constants)] }
def NodeSumsSaid : Prop := nodeSumsRow.holds Tryd.pinned (OpenSpec.ofChange nodeSumsSpec)

/-- ITS FALSE NEIGHBOUR: 'it returns false'. Refute it at one input. -/
def nodeSumsWrong : ChangeSpec := { name := "nodeSums", fn := fun _ => fun
  | [d1, d2, d3] => { results := [.lit (.bool false)], args := [d1, d2, d3] }
  | _ => none }
def NodeSumsWrongFalsely : Prop := nodeSumsRow.holds Tryd.pinned (OpenSpec.ofChange nodeSumsWrong)

/-- 'paymasterlaw14.NodePlaces': WHATEVER THE INPUT: true; the input reads as it did. -/
def nodePlacesSpec : ChangeSpec := { name := "nodePlaces", fn := fun _ => fun
  | [d1, d2, d3] => { results := [.lit (.bool true)], args := [d1, d2, d3] }
  | _ => none }
def nodePlacesRow : OpenClaim := { program := "ytlmmpncdemblbaadoor", sum := "80b60cabae357f3781dafc42c1f143d8cb7317b46d77941bbaaba419af9303a3", func := "paymaster/paymasterlaw14.NodePlaces", spec := "nodePlaces", inPlace := ["math/bits.Add64", "internal/abi.NoEscape"], unfollowed := true, recurses := true, named := ["paymaster/block.constants"], apart := false, laid := [("paymaster/block.constants", laid_paymaster_block_constants)] }
def NodePlacesSaid : Prop := nodePlacesRow.holds Tryd.pinned (OpenSpec.ofChange nodePlacesSpec)

/-- ITS FALSE NEIGHBOUR: 'it returns false'. Refute it at one input. -/
def nodePlacesWrong : ChangeSpec := { name := "nodePlaces", fn := fun _ => fun
  | [d1, d2, d3] => { results := [.lit (.bool false)], args := [d1, d2, d3] }
  | _ => none }
def NodePlacesWrongFalsely : Prop := nodePlacesRow.holds Tryd.pinned (OpenSpec.ofChange nodePlacesWrong)

/-- 'paymasterlaw14.NodeHalves': WHATEVER THE INPUT: true; the input reads as it did. -/
def nodeHalvesSpec : ChangeSpec := { name := "nodeHalves", fn := fun _ => fun
  | [d1, d2, d3, d4] => { results := [.lit (.bool true)], args := [d1, d2, d3, d4] }
  | _ => none }
def nodeHalvesRow : OpenClaim := { program := "ytlmmpncdemblbaadoor", sum := "80b60cabae357f3781dafc42c1f143d8cb7317b46d77941bbaaba419af9303a3", func := "paymaster/paymasterlaw14.NodeHalves", spec := "nodeHalves", inPlace := ["math/bits.Add64", "internal/abi.NoEscape"], unfollowed := true, recurses := true, named := ["paymaster/block.constants"], apart := false, laid := [("paymaster/block.constants", laid_paymaster_block_constants)] }
def NodeHalvesSaid : Prop := nodeHalvesRow.holds Tryd.pinned (OpenSpec.ofChange nodeHalvesSpec)

/-- ITS FALSE NEIGHBOUR: 'it returns false'. Refute it at one input. -/
def nodeHalvesWrong : ChangeSpec := { name := "nodeHalves", fn := fun _ => fun
  | [d1, d2, d3, d4] => { results := [.lit (.bool false)], args := [d1, d2, d3, d4] }
  | _ => none }
def NodeHalvesWrongFalsely : Prop := nodeHalvesRow.holds Tryd.pinned (OpenSpec.ofChange nodeHalvesWrong)

/-- 'paymasterlaw18.TraceNodes': WHATEVER THE INPUT: true; the input reads as it did. -/
def traceNodesSpec : ChangeSpec := { name := "traceNodes", fn := fun _ => fun
  | [d1, d2] => { results := [.lit (.bool true)], args := [d1, d2] }
  | _ => none }
def traceNodesRow : OpenClaim := { program := "ytlmmpncdemblbaadoor", sum := "80b60cabae357f3781dafc42c1f143d8cb7317b46d77941bbaaba419af9303a3", func := "paymaster/paymasterlaw18.TraceNodes", spec := "traceNodes", inPlace := ["internal/abi.NoEscape", "math/bits.Add64", "internal/bytealg.IndexByteString", "internal/bytealg.IndexString"], unfollowed := true, recurses := true, named := ["paymaster/block.constants", "unicode/utf8.first", "unicode/utf8.acceptRanges", "internal/bytealg.MaxLen"], apart := false, laid := [("paymaster/block.constants", laid_paymaster_block_constants), ("unicode/utf8.acceptRanges", laid_unicode_utf8_acceptRanges), ("unicode/utf8.first", laid_unicode_utf8_first)] }
def TraceNodesSaid : Prop := traceNodesRow.holds Tryd.pinned (OpenSpec.ofChange traceNodesSpec)

/-- ITS FALSE NEIGHBOUR: 'it returns false'. Refute it at one input. -/
def traceNodesWrong : ChangeSpec := { name := "traceNodes", fn := fun _ => fun
  | [d1, d2] => { results := [.lit (.bool false)], args := [d1, d2] }
  | _ => none }
def TraceNodesWrongFalsely : Prop := traceNodesRow.holds Tryd.pinned (OpenSpec.ofChange traceNodesWrong)

/-- 'paymasterlaw18.TraceCuts': WHATEVER THE INPUT: true; the input reads as it did. -/
def traceCutsSpec : ChangeSpec := { name := "traceCuts", fn := fun _ => fun
  | [d1, d2, d3] => { results := [.lit (.bool true)], args := [d1, d2, d3] }
  | _ => none }
def traceCutsRow : OpenClaim := { program := "ytlmmpncdemblbaadoor", sum := "80b60cabae357f3781dafc42c1f143d8cb7317b46d77941bbaaba419af9303a3", func := "paymaster/paymasterlaw18.TraceCuts", spec := "traceCuts", inPlace := ["internal/abi.NoEscape", "math/bits.Add64", "internal/bytealg.IndexByteString", "internal/bytealg.IndexString"], unfollowed := true, recurses := true, named := ["paymaster/block.constants", "unicode/utf8.first", "unicode/utf8.acceptRanges", "internal/bytealg.MaxLen"], apart := false, laid := [("paymaster/block.constants", laid_paymaster_block_constants), ("unicode/utf8.acceptRanges", laid_unicode_utf8_acceptRanges), ("unicode/utf8.first", laid_unicode_utf8_first)] }
def TraceCutsSaid : Prop := traceCutsRow.holds Tryd.pinned (OpenSpec.ofChange traceCutsSpec)

/-- ITS FALSE NEIGHBOUR: 'it returns false'. Refute it at one input. -/
def traceCutsWrong : ChangeSpec := { name := "traceCuts", fn := fun _ => fun
  | [d1, d2, d3] => { results := [.lit (.bool false)], args := [d1, d2, d3] }
  | _ => none }
def TraceCutsWrongFalsely : Prop := traceCutsRow.holds Tryd.pinned (OpenSpec.ofChange traceCutsWrong)

/-- 'paymasterlaw17.VerifyUps': WHATEVER THE INPUT: true; the input reads as it did. -/
def verifyUpsSpec : ChangeSpec := { name := "verifyUps", fn := fun _ => fun
  | [d1, d2] => { results := [.lit (.bool true)], args := [d1, d2] }
  | _ => none }
def verifyUpsRow : OpenClaim := { program := "ytlmmpncdemblbaadoor", sum := "80b60cabae357f3781dafc42c1f143d8cb7317b46d77941bbaaba419af9303a3", func := "paymaster/paymasterlaw17.VerifyUps", spec := "verifyUps", inPlace := ["internal/bytealg.IndexByteString", "internal/bytealg.IndexString", "internal/abi.NoEscape", "math/bits.Add64"], unfollowed := true, recurses := true, named := ["unicode/utf8.first", "unicode/utf8.acceptRanges", "paymaster/block.constants", "internal/bytealg.MaxLen"], apart := false, laid := [("paymaster/block.constants", laid_paymaster_block_constants), ("unicode/utf8.acceptRanges", laid_unicode_utf8_acceptRanges), ("unicode/utf8.first", laid_unicode_utf8_first)] }
def VerifyUpsSaid : Prop := verifyUpsRow.holds Tryd.pinned (OpenSpec.ofChange verifyUpsSpec)

/-- ITS FALSE NEIGHBOUR: 'it returns false'. Refute it at one input. -/
def verifyUpsWrong : ChangeSpec := { name := "verifyUps", fn := fun _ => fun
  | [d1, d2] => { results := [.lit (.bool false)], args := [d1, d2] }
  | _ => none }
def VerifyUpsWrongFalsely : Prop := verifyUpsRow.holds Tryd.pinned (OpenSpec.ofChange verifyUpsWrong)

/-- 'paymasterlaw17.VerifyHigh': WHATEVER THE INPUT: true; the input reads as it did. -/
def verifyHighSpec : ChangeSpec := { name := "verifyHigh", fn := fun _ => fun
  | [d1, d2, d3] => { results := [.lit (.bool true)], args := [d1, d2, d3] }
  | _ => none }
def verifyHighRow : OpenClaim := { program := "ytlmmpncdemblbaadoor", sum := "80b60cabae357f3781dafc42c1f143d8cb7317b46d77941bbaaba419af9303a3", func := "paymaster/paymasterlaw17.VerifyHigh", spec := "verifyHigh", inPlace := ["internal/bytealg.IndexByteString", "internal/bytealg.IndexString", "internal/abi.NoEscape", "math/bits.Add64"], unfollowed := true, recurses := true, named := ["unicode/utf8.first", "unicode/utf8.acceptRanges", "paymaster/block.constants", "internal/bytealg.MaxLen"], apart := false, laid := [("paymaster/block.constants", laid_paymaster_block_constants), ("unicode/utf8.acceptRanges", laid_unicode_utf8_acceptRanges), ("unicode/utf8.first", laid_unicode_utf8_first)] }
def VerifyHighSaid : Prop := verifyHighRow.holds Tryd.pinned (OpenSpec.ofChange verifyHighSpec)

/-- ITS FALSE NEIGHBOUR: 'it returns false'. Refute it at one input. -/
def verifyHighWrong : ChangeSpec := { name := "verifyHigh", fn := fun _ => fun
  | [d1, d2, d3] => { results := [.lit (.bool false)], args := [d1, d2, d3] }
  | _ => none }
def VerifyHighWrongFalsely : Prop := verifyHighRow.holds Tryd.pinned (OpenSpec.ofChange verifyHighWrong)

/-- 'paymasterlaw17.VerifyOne': WHATEVER THE INPUT: true; the input reads as it did. -/
def verifyOneSpec : ChangeSpec := { name := "verifyOne", fn := fun _ => fun
  | [d1, d2, d3] => { results := [.lit (.bool true)], args := [d1, d2, d3] }
  | _ => none }
def verifyOneRow : OpenClaim := { program := "ytlmmpncdemblbaadoor", sum := "80b60cabae357f3781dafc42c1f143d8cb7317b46d77941bbaaba419af9303a3", func := "paymaster/paymasterlaw17.VerifyOne", spec := "verifyOne", inPlace := ["internal/bytealg.IndexByteString", "internal/bytealg.IndexString", "internal/abi.NoEscape", "math/bits.Add64"], unfollowed := true, recurses := true, named := ["unicode/utf8.first", "unicode/utf8.acceptRanges", "paymaster/block.constants", "internal/bytealg.MaxLen"], apart := false, laid := [("paymaster/block.constants", laid_paymaster_block_constants), ("unicode/utf8.acceptRanges", laid_unicode_utf8_acceptRanges), ("unicode/utf8.first", laid_unicode_utf8_first)] }
def VerifyOneSaid : Prop := verifyOneRow.holds Tryd.pinned (OpenSpec.ofChange verifyOneSpec)

/-- ITS FALSE NEIGHBOUR: 'it returns false'. Refute it at one input. -/
def verifyOneWrong : ChangeSpec := { name := "verifyOne", fn := fun _ => fun
  | [d1, d2, d3] => { results := [.lit (.bool false)], args := [d1, d2, d3] }
  | _ => none }
def VerifyOneWrongFalsely : Prop := verifyOneRow.holds Tryd.pinned (OpenSpec.ofChange verifyOneWrong)

/- THE SECOND FORM. 'bulk': how many values and letters a reading holds, each counted each time it is reached (what is shared counts as often as it is met; a slice's spare places count too). A statement '..UptoSaid' is the law's where the arguments, and the package variables that the reading takes, are together of bulk at most 1048576: NARROWER than '..Said'. Prove '..Said' where nothing that the law and all that it calls make is longer than what came in: it says more and counts as full. Else prove '..UptoSaid'. A law counts once. -/
mutual
def uptoBulk {H : Type} : DataW H → Nat
  | .lit (.string bytes) => bytes.length + 1
  | .lit _ => 1
  | .nil => 1
  | .ptr d => uptoBulk d + 1
  | .slice elems spare => uptoBulkAll elems + uptoBulkAll spare + 1
  | .agg parts => uptoBulkAll parts + 1
  | .iface _ d => uptoBulk d + 1
  | .map entries => uptoBulkEntries entries + 1
  | .held _ => 1
def uptoBulkAll {H : Type} : List (DataW H) → Nat
  | [] => 0
  | d :: r => uptoBulk d + uptoBulkAll r
def uptoBulkEntries {H : Type} : List (Lit × DataW H) → Nat
  | [] => 0
  | x :: r => uptoBulkEntry x + uptoBulkEntries r
def uptoBulkEntry {H : Type} : Lit × DataW H → Nat
  | (.string bytes, d) => bytes.length + uptoBulk d + 1
  | (_, d) => uptoBulk d + 1
 end
def uptoSmall : (H : Type) → List (DataW H) → Bool := fun _ ds => decide (uptoBulkAll ds ≤ 1048576)
def OpenSpec.upto (s : _root_.Go.ChangeSpec) : _root_.Go.OpenSpec := { _root_.Go.OpenSpec.ofChange s with cond := some uptoSmall }

/-- 'paymasterlaw14.NodeClimbs', WHERE WHAT IT READS IS OF BULK AT MOST 1048576: true; the input reads as it did. -/
def nodeClimbsUptoRow : OpenClaim := { program := "ytlmmpncdemblbaadoor", sum := "80b60cabae357f3781dafc42c1f143d8cb7317b46d77941bbaaba419af9303a3", func := "paymaster/paymasterlaw14.NodeClimbs", spec := "nodeClimbs", inPlace := ["math/bits.Add64", "internal/abi.NoEscape"], unfollowed := true, recurses := true, named := ["paymaster/block.constants"], apart := false, laid := [("paymaster/block.constants", laid_paymaster_block_constants)], narrowed := true }
def NodeClimbsUptoSaid : Prop := nodeClimbsUptoRow.holds Tryd.pinned (OpenSpec.upto nodeClimbsSpec)

/-- 'paymasterlaw14.NodeFolds', WHERE WHAT IT READS IS OF BULK AT MOST 1048576: true; the input reads as it did. -/
def nodeFoldsUptoRow : OpenClaim := { program := "ytlmmpncdemblbaadoor", sum := "80b60cabae357f3781dafc42c1f143d8cb7317b46d77941bbaaba419af9303a3", func := "paymaster/paymasterlaw14.NodeFolds", spec := "nodeFolds", inPlace := ["math/bits.Add64", "internal/abi.NoEscape"], unfollowed := true, recurses := true, named := ["paymaster/block.constants"], apart := false, laid := [("paymaster/block.constants", laid_paymaster_block_constants)], narrowed := true }
def NodeFoldsUptoSaid : Prop := nodeFoldsUptoRow.holds Tryd.pinned (OpenSpec.upto nodeFoldsSpec)

/-- 'paymasterlaw14.NodeSums', WHERE WHAT IT READS IS OF BULK AT MOST 1048576: true; the input reads as it did. -/
def nodeSumsUptoRow : OpenClaim := { program := "ytlmmpncdemblbaadoor", sum := "80b60cabae357f3781dafc42c1f143d8cb7317b46d77941bbaaba419af9303a3", func := "paymaster/paymasterlaw14.NodeSums", spec := "nodeSums", inPlace := ["math/bits.Add64", "internal/abi.NoEscape"], unfollowed := true, recurses := true, named := ["paymaster/block.constants"], apart := false, laid := [("paymaster/block.constants", laid_paymaster_block_constants)], narrowed := true }
def NodeSumsUptoSaid : Prop := nodeSumsUptoRow.holds Tryd.pinned (OpenSpec.upto nodeSumsSpec)

/-- 'paymasterlaw14.NodePlaces', WHERE WHAT IT READS IS OF BULK AT MOST 1048576: true; the input reads as it did. -/
def nodePlacesUptoRow : OpenClaim := { program := "ytlmmpncdemblbaadoor", sum := "80b60cabae357f3781dafc42c1f143d8cb7317b46d77941bbaaba419af9303a3", func := "paymaster/paymasterlaw14.NodePlaces", spec := "nodePlaces", inPlace := ["math/bits.Add64", "internal/abi.NoEscape"], unfollowed := true, recurses := true, named := ["paymaster/block.constants"], apart := false, laid := [("paymaster/block.constants", laid_paymaster_block_constants)], narrowed := true }
def NodePlacesUptoSaid : Prop := nodePlacesUptoRow.holds Tryd.pinned (OpenSpec.upto nodePlacesSpec)

/-- 'paymasterlaw14.NodeHalves', WHERE WHAT IT READS IS OF BULK AT MOST 1048576: true; the input reads as it did. -/
def nodeHalvesUptoRow : OpenClaim := { program := "ytlmmpncdemblbaadoor", sum := "80b60cabae357f3781dafc42c1f143d8cb7317b46d77941bbaaba419af9303a3", func := "paymaster/paymasterlaw14.NodeHalves", spec := "nodeHalves", inPlace := ["math/bits.Add64", "internal/abi.NoEscape"], unfollowed := true, recurses := true, named := ["paymaster/block.constants"], apart := false, laid := [("paymaster/block.constants", laid_paymaster_block_constants)], narrowed := true }
def NodeHalvesUptoSaid : Prop := nodeHalvesUptoRow.holds Tryd.pinned (OpenSpec.upto nodeHalvesSpec)

/-- 'paymasterlaw18.TraceNodes', WHERE WHAT IT READS IS OF BULK AT MOST 1048576: true; the input reads as it did. -/
def traceNodesUptoRow : OpenClaim := { program := "ytlmmpncdemblbaadoor", sum := "80b60cabae357f3781dafc42c1f143d8cb7317b46d77941bbaaba419af9303a3", func := "paymaster/paymasterlaw18.TraceNodes", spec := "traceNodes", inPlace := ["internal/abi.NoEscape", "math/bits.Add64", "internal/bytealg.IndexByteString", "internal/bytealg.IndexString"], unfollowed := true, recurses := true, named := ["paymaster/block.constants", "unicode/utf8.first", "unicode/utf8.acceptRanges", "internal/bytealg.MaxLen"], apart := false, laid := [("paymaster/block.constants", laid_paymaster_block_constants), ("unicode/utf8.acceptRanges", laid_unicode_utf8_acceptRanges), ("unicode/utf8.first", laid_unicode_utf8_first)], narrowed := true }
def TraceNodesUptoSaid : Prop := traceNodesUptoRow.holds Tryd.pinned (OpenSpec.upto traceNodesSpec)

/-- 'paymasterlaw18.TraceCuts', WHERE WHAT IT READS IS OF BULK AT MOST 1048576: true; the input reads as it did. -/
def traceCutsUptoRow : OpenClaim := { program := "ytlmmpncdemblbaadoor", sum := "80b60cabae357f3781dafc42c1f143d8cb7317b46d77941bbaaba419af9303a3", func := "paymaster/paymasterlaw18.TraceCuts", spec := "traceCuts", inPlace := ["internal/abi.NoEscape", "math/bits.Add64", "internal/bytealg.IndexByteString", "internal/bytealg.IndexString"], unfollowed := true, recurses := true, named := ["paymaster/block.constants", "unicode/utf8.first", "unicode/utf8.acceptRanges", "internal/bytealg.MaxLen"], apart := false, laid := [("paymaster/block.constants", laid_paymaster_block_constants), ("unicode/utf8.acceptRanges", laid_unicode_utf8_acceptRanges), ("unicode/utf8.first", laid_unicode_utf8_first)], narrowed := true }
def TraceCutsUptoSaid : Prop := traceCutsUptoRow.holds Tryd.pinned (OpenSpec.upto traceCutsSpec)

/-- 'paymasterlaw17.VerifyUps', WHERE WHAT IT READS IS OF BULK AT MOST 1048576: true; the input reads as it did. -/
def verifyUpsUptoRow : OpenClaim := { program := "ytlmmpncdemblbaadoor", sum := "80b60cabae357f3781dafc42c1f143d8cb7317b46d77941bbaaba419af9303a3", func := "paymaster/paymasterlaw17.VerifyUps", spec := "verifyUps", inPlace := ["internal/bytealg.IndexByteString", "internal/bytealg.IndexString", "internal/abi.NoEscape", "math/bits.Add64"], unfollowed := true, recurses := true, named := ["unicode/utf8.first", "unicode/utf8.acceptRanges", "paymaster/block.constants", "internal/bytealg.MaxLen"], apart := false, laid := [("paymaster/block.constants", laid_paymaster_block_constants), ("unicode/utf8.acceptRanges", laid_unicode_utf8_acceptRanges), ("unicode/utf8.first", laid_unicode_utf8_first)], narrowed := true }
def VerifyUpsUptoSaid : Prop := verifyUpsUptoRow.holds Tryd.pinned (OpenSpec.upto verifyUpsSpec)

/-- 'paymasterlaw17.VerifyHigh', WHERE WHAT IT READS IS OF BULK AT MOST 1048576: true; the input reads as it did. -/
def verifyHighUptoRow : OpenClaim := { program := "ytlmmpncdemblbaadoor", sum := "80b60cabae357f3781dafc42c1f143d8cb7317b46d77941bbaaba419af9303a3", func := "paymaster/paymasterlaw17.VerifyHigh", spec := "verifyHigh", inPlace := ["internal/bytealg.IndexByteString", "internal/bytealg.IndexString", "internal/abi.NoEscape", "math/bits.Add64"], unfollowed := true, recurses := true, named := ["unicode/utf8.first", "unicode/utf8.acceptRanges", "paymaster/block.constants", "internal/bytealg.MaxLen"], apart := false, laid := [("paymaster/block.constants", laid_paymaster_block_constants), ("unicode/utf8.acceptRanges", laid_unicode_utf8_acceptRanges), ("unicode/utf8.first", laid_unicode_utf8_first)], narrowed := true }
def VerifyHighUptoSaid : Prop := verifyHighUptoRow.holds Tryd.pinned (OpenSpec.upto verifyHighSpec)

/-- 'paymasterlaw17.VerifyOne', WHERE WHAT IT READS IS OF BULK AT MOST 1048576: true; the input reads as it did. -/
def verifyOneUptoRow : OpenClaim := { program := "ytlmmpncdemblbaadoor", sum := "80b60cabae357f3781dafc42c1f143d8cb7317b46d77941bbaaba419af9303a3", func := "paymaster/paymasterlaw17.VerifyOne", spec := "verifyOne", inPlace := ["internal/bytealg.IndexByteString", "internal/bytealg.IndexString", "internal/abi.NoEscape", "math/bits.Add64"], unfollowed := true, recurses := true, named := ["unicode/utf8.first", "unicode/utf8.acceptRanges", "paymaster/block.constants", "internal/bytealg.MaxLen"], apart := false, laid := [("paymaster/block.constants", laid_paymaster_block_constants), ("unicode/utf8.acceptRanges", laid_unicode_utf8_acceptRanges), ("unicode/utf8.first", laid_unicode_utf8_first)], narrowed := true }
def VerifyOneUptoSaid : Prop := verifyOneUptoRow.holds Tryd.pinned (OpenSpec.upto verifyOneSpec)

end Rows
end Go.Proofs.YtlmmpncdemblbaaDoor
