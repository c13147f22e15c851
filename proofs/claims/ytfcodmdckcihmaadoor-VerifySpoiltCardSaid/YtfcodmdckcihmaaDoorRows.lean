/-
  NARROWER THAN 'FOR EVERY INPUT', by the rows' own cells (each row's printed sentence says how): TreeBuilds: laid · TreeBack: laid · TreeOther: laid · TreeFolded: laid · ProofBeside: laid · ProofClimbs: laid · ProofChanges: laid · VerifyHonest: laid · VerifySpoilt: laid · RangesChecks: laid.
  DERIVED. THE GIVEN ROWS OF THIS SEAT. 10 by the template 'for every input the law returns true; each argument reads behind the call as it read before'; 0 by the template 'total and deterministic' (their statements: YtfcodmdckcihmaaDoorTotals.lean).
  GIVEN WITH THE SEED: the statements are not yours to turn. If you find one false, say at which input.
  Laid BY PROGRAM, IN A SANDBOX (cutbox-rows.mjs): the forced cells as the released guide's own fill.sh prints them over the translation 42ae51c8b8826f3c… (all of the seat's roots in one cut). By AI agents, Wed Nov 11 2026. No macro, syntax, notation, axiom, sorry.
-/
import Derived.Test.YtfcodmdckcihmaaDoorChecked
import GoSem.PinnedTables
import GoSem.Claim
import GoSem.ClaimJoined
import GoSem.ClaimMapViews
import Derived.JoinedTies
import Derived.KernelRfl
namespace Go.Proofs.YtfcodmdckcihmaaDoor
/- THE CELL 'sum', in the pinned program and in every row, IS THE sha256 OF THE DUMP (.gsa) THAT YtfcodmdckcihmaaDoorProg.lean LOADS. Nothing in Lean hashes anything: it is a label: what it is worth is what the hold of that sum in a sandbox is worth. -/
noncomputable def Tryd.pinned : Pinned := { name := "ytfcodmdckcihmaadoor", sum := "42ae51c8b8826f3c914a03ef5fecc5bebede97a0d05676aa1e27a364b061443a", checked := Tryd.checked }
namespace Rows
def none {H : Type} : Left H := { results := [], args := [] }

/- WHAT THE LISTED PACKAGE-LEVEL VARIABLES READ AS WHEN THE CALL BEGINS. Each datum BY PROGRAM (the guide's laid-datum.mjs) off the statement by which the dump's own 'gosem.cut.vars' lays the variable. In a bare row this is a premise. The card (YtfcodmdckcihmaaDoorCards.lean) ties it to the program's text. -/
def laid_paymaster_block_constants {H : Type} : DataW H := .agg [.lit (.int .u32 1116352408), .lit (.int .u32 1899447441), .lit (.int .u32 3049323471), .lit (.int .u32 3921009573), .lit (.int .u32 961987163), .lit (.int .u32 1508970993), .lit (.int .u32 2453635748), .lit (.int .u32 2870763221), .lit (.int .u32 3624381080), .lit (.int .u32 310598401), .lit (.int .u32 607225278), .lit (.int .u32 1426881987), .lit (.int .u32 1925078388), .lit (.int .u32 2162078206), .lit (.int .u32 2614888103), .lit (.int .u32 3248222580), .lit (.int .u32 3835390401), .lit (.int .u32 4022224774), .lit (.int .u32 264347078), .lit (.int .u32 604807628), .lit (.int .u32 770255983), .lit (.int .u32 1249150122), .lit (.int .u32 1555081692), .lit (.int .u32 1996064986), .lit (.int .u32 2554220882), .lit (.int .u32 2821834349), .lit (.int .u32 2952996808), .lit (.int .u32 3210313671), .lit (.int .u32 3336571891), .lit (.int .u32 3584528711), .lit (.int .u32 113926993), .lit (.int .u32 338241895), .lit (.int .u32 666307205), .lit (.int .u32 773529912), .lit (.int .u32 1294757372), .lit (.int .u32 1396182291), .lit (.int .u32 1695183700), .lit (.int .u32 1986661051), .lit (.int .u32 2177026350), .lit (.int .u32 2456956037), .lit (.int .u32 2730485921), .lit (.int .u32 2820302411), .lit (.int .u32 3259730800), .lit (.int .u32 3345764771), .lit (.int .u32 3516065817), .lit (.int .u32 3600352804), .lit (.int .u32 4094571909), .lit (.int .u32 275423344), .lit (.int .u32 430227734), .lit (.int .u32 506948616), .lit (.int .u32 659060556), .lit (.int .u32 883997877), .lit (.int .u32 958139571), .lit (.int .u32 1322822218), .lit (.int .u32 1537002063), .lit (.int .u32 1747873779), .lit (.int .u32 1955562222), .lit (.int .u32 2024104815), .lit (.int .u32 2227730452), .lit (.int .u32 2361852424), .lit (.int .u32 2428436474), .lit (.int .u32 2756734187), .lit (.int .u32 3204031479), .lit (.int .u32 3329325298)]
def laid_unicode_utf8_acceptRanges {H : Type} : DataW H := .agg [.agg [.lit (.int .u8 128), .lit (.int .u8 191)], .agg [.lit (.int .u8 160), .lit (.int .u8 191)], .agg [.lit (.int .u8 128), .lit (.int .u8 159)], .agg [.lit (.int .u8 144), .lit (.int .u8 191)], .agg [.lit (.int .u8 128), .lit (.int .u8 143)], .agg [.lit (.int .u8 0), .lit (.int .u8 0)], .agg [.lit (.int .u8 0), .lit (.int .u8 0)], .agg [.lit (.int .u8 0), .lit (.int .u8 0)], .agg [.lit (.int .u8 0), .lit (.int .u8 0)], .agg [.lit (.int .u8 0), .lit (.int .u8 0)], .agg [.lit (.int .u8 0), .lit (.int .u8 0)], .agg [.lit (.int .u8 0), .lit (.int .u8 0)], .agg [.lit (.int .u8 0), .lit (.int .u8 0)], .agg [.lit (.int .u8 0), .lit (.int .u8 0)], .agg [.lit (.int .u8 0), .lit (.int .u8 0)], .agg [.lit (.int .u8 0), .lit (.int .u8 0)]]
/-- One of Go's own tables, pinned by name: the form's constant. -/
def laid_unicode_utf8_first : DataW Unit := Go.Pinned.utf8First
def laid_math_bits_deBruijn64tab {H : Type} : DataW H := .agg [.lit (.int .u8 0), .lit (.int .u8 1), .lit (.int .u8 56), .lit (.int .u8 2), .lit (.int .u8 57), .lit (.int .u8 49), .lit (.int .u8 28), .lit (.int .u8 3), .lit (.int .u8 61), .lit (.int .u8 58), .lit (.int .u8 42), .lit (.int .u8 50), .lit (.int .u8 38), .lit (.int .u8 29), .lit (.int .u8 17), .lit (.int .u8 4), .lit (.int .u8 62), .lit (.int .u8 47), .lit (.int .u8 59), .lit (.int .u8 36), .lit (.int .u8 45), .lit (.int .u8 43), .lit (.int .u8 51), .lit (.int .u8 22), .lit (.int .u8 53), .lit (.int .u8 39), .lit (.int .u8 33), .lit (.int .u8 30), .lit (.int .u8 24), .lit (.int .u8 18), .lit (.int .u8 12), .lit (.int .u8 5), .lit (.int .u8 63), .lit (.int .u8 55), .lit (.int .u8 48), .lit (.int .u8 27), .lit (.int .u8 60), .lit (.int .u8 41), .lit (.int .u8 37), .lit (.int .u8 16), .lit (.int .u8 46), .lit (.int .u8 35), .lit (.int .u8 44), .lit (.int .u8 21), .lit (.int .u8 52), .lit (.int .u8 32), .lit (.int .u8 23), .lit (.int .u8 11), .lit (.int .u8 54), .lit (.int .u8 26), .lit (.int .u8 40), .lit (.int .u8 15), .lit (.int .u8 34), .lit (.int .u8 20), .lit (.int .u8 31), .lit (.int .u8 10), .lit (.int .u8 25), .lit (.int .u8 14), .lit (.int .u8 19), .lit (.int .u8 9), .lit (.int .u8 13), .lit (.int .u8 8), .lit (.int .u8 7), .lit (.int .u8 6)]

/-- 'paymasterlaw15.TreeBuilds': WHATEVER THE INPUT: true; the input reads as it did. -/
def treeBuildsSpec : ChangeSpec := { name := "treeBuilds", fn := fun _ => fun
  | [d1, d2, d3, d4] => { results := [.lit (.bool true)], args := [d1, d2, d3, d4] }
  | _ => none }
def treeBuildsRow : OpenClaim := { program := "ytfcodmdckcihmaadoor", sum := "42ae51c8b8826f3c914a03ef5fecc5bebede97a0d05676aa1e27a364b061443a", func := "paymaster/paymasterlaw15.TreeBuilds", spec := "treeBuilds", inPlace := ["internal/bytealg.IndexByteString", "internal/bytealg.IndexString", "internal/abi.NoEscape", "math/bits.Add64"], unfollowed := true, recurses := true, named := ["unicode/utf8.first", "unicode/utf8.acceptRanges", "paymaster/block.constants", "internal/bytealg.MaxLen"], apart := false, laid := [("paymaster/block.constants", laid_paymaster_block_constants), ("unicode/utf8.acceptRanges", laid_unicode_utf8_acceptRanges), ("unicode/utf8.first", laid_unicode_utf8_first)] }
def TreeBuildsSaid : Prop := treeBuildsRow.holds Tryd.pinned (OpenSpec.ofChange treeBuildsSpec)

/-- ITS FALSE NEIGHBOUR: 'it returns false'. Refute it at one input. -/
def treeBuildsWrong : ChangeSpec := { name := "treeBuilds", fn := fun _ => fun
  | [d1, d2, d3, d4] => { results := [.lit (.bool false)], args := [d1, d2, d3, d4] }
  | _ => none }
def TreeBuildsWrongFalsely : Prop := treeBuildsRow.holds Tryd.pinned (OpenSpec.ofChange treeBuildsWrong)

/-- 'paymasterlaw15.TreeBack': WHATEVER THE INPUT: true; the input reads as it did. -/
def treeBackSpec : ChangeSpec := { name := "treeBack", fn := fun _ => fun
  | [d1, d2, d3, d4] => { results := [.lit (.bool true)], args := [d1, d2, d3, d4] }
  | _ => none }
def treeBackRow : OpenClaim := { program := "ytfcodmdckcihmaadoor", sum := "42ae51c8b8826f3c914a03ef5fecc5bebede97a0d05676aa1e27a364b061443a", func := "paymaster/paymasterlaw15.TreeBack", spec := "treeBack", inPlace := ["internal/bytealg.IndexByteString", "internal/bytealg.IndexString", "internal/abi.NoEscape", "math/bits.Add64"], unfollowed := true, recurses := true, named := ["unicode/utf8.first", "unicode/utf8.acceptRanges", "paymaster/block.constants", "internal/bytealg.MaxLen"], apart := false, laid := [("paymaster/block.constants", laid_paymaster_block_constants), ("unicode/utf8.acceptRanges", laid_unicode_utf8_acceptRanges), ("unicode/utf8.first", laid_unicode_utf8_first)] }
def TreeBackSaid : Prop := treeBackRow.holds Tryd.pinned (OpenSpec.ofChange treeBackSpec)

/-- ITS FALSE NEIGHBOUR: 'it returns false'. Refute it at one input. -/
def treeBackWrong : ChangeSpec := { name := "treeBack", fn := fun _ => fun
  | [d1, d2, d3, d4] => { results := [.lit (.bool false)], args := [d1, d2, d3, d4] }
  | _ => none }
def TreeBackWrongFalsely : Prop := treeBackRow.holds Tryd.pinned (OpenSpec.ofChange treeBackWrong)

/-- 'paymasterlaw15.TreeOther': WHATEVER THE INPUT: true; the input reads as it did. -/
def treeOtherSpec : ChangeSpec := { name := "treeOther", fn := fun _ => fun
  | [d1, d2, d3, d4] => { results := [.lit (.bool true)], args := [d1, d2, d3, d4] }
  | _ => none }
def treeOtherRow : OpenClaim := { program := "ytfcodmdckcihmaadoor", sum := "42ae51c8b8826f3c914a03ef5fecc5bebede97a0d05676aa1e27a364b061443a", func := "paymaster/paymasterlaw15.TreeOther", spec := "treeOther", inPlace := ["internal/bytealg.IndexByteString", "internal/bytealg.IndexString", "internal/abi.NoEscape", "math/bits.Add64"], unfollowed := true, recurses := true, named := ["unicode/utf8.first", "unicode/utf8.acceptRanges", "paymaster/block.constants", "internal/bytealg.MaxLen"], apart := false, laid := [("paymaster/block.constants", laid_paymaster_block_constants), ("unicode/utf8.acceptRanges", laid_unicode_utf8_acceptRanges), ("unicode/utf8.first", laid_unicode_utf8_first)] }
def TreeOtherSaid : Prop := treeOtherRow.holds Tryd.pinned (OpenSpec.ofChange treeOtherSpec)

/-- ITS FALSE NEIGHBOUR: 'it returns false'. Refute it at one input. -/
def treeOtherWrong : ChangeSpec := { name := "treeOther", fn := fun _ => fun
  | [d1, d2, d3, d4] => { results := [.lit (.bool false)], args := [d1, d2, d3, d4] }
  | _ => none }
def TreeOtherWrongFalsely : Prop := treeOtherRow.holds Tryd.pinned (OpenSpec.ofChange treeOtherWrong)

/-- 'paymasterlaw15.TreeFolded': WHATEVER THE INPUT: true; the input reads as it did. -/
def treeFoldedSpec : ChangeSpec := { name := "treeFolded", fn := fun _ => fun
  | [d1, d2, d3, d4] => { results := [.lit (.bool true)], args := [d1, d2, d3, d4] }
  | _ => none }
def treeFoldedRow : OpenClaim := { program := "ytfcodmdckcihmaadoor", sum := "42ae51c8b8826f3c914a03ef5fecc5bebede97a0d05676aa1e27a364b061443a", func := "paymaster/paymasterlaw15.TreeFolded", spec := "treeFolded", inPlace := ["internal/bytealg.IndexByteString", "internal/bytealg.IndexString", "internal/abi.NoEscape", "math/bits.Add64"], unfollowed := true, recurses := true, named := ["unicode/utf8.first", "unicode/utf8.acceptRanges", "paymaster/block.constants", "internal/bytealg.MaxLen"], apart := false, laid := [("paymaster/block.constants", laid_paymaster_block_constants), ("unicode/utf8.acceptRanges", laid_unicode_utf8_acceptRanges), ("unicode/utf8.first", laid_unicode_utf8_first)] }
def TreeFoldedSaid : Prop := treeFoldedRow.holds Tryd.pinned (OpenSpec.ofChange treeFoldedSpec)

/-- ITS FALSE NEIGHBOUR: 'it returns false'. Refute it at one input. -/
def treeFoldedWrong : ChangeSpec := { name := "treeFolded", fn := fun _ => fun
  | [d1, d2, d3, d4] => { results := [.lit (.bool false)], args := [d1, d2, d3, d4] }
  | _ => none }
def TreeFoldedWrongFalsely : Prop := treeFoldedRow.holds Tryd.pinned (OpenSpec.ofChange treeFoldedWrong)

/-- 'paymasterlaw16.ProofBeside': WHATEVER THE INPUT: true; the input reads as it did. -/
def proofBesideSpec : ChangeSpec := { name := "proofBeside", fn := fun _ => fun
  | [d1, d2, d3, d4] => { results := [.lit (.bool true)], args := [d1, d2, d3, d4] }
  | _ => none }
def proofBesideRow : OpenClaim := { program := "ytfcodmdckcihmaadoor", sum := "42ae51c8b8826f3c914a03ef5fecc5bebede97a0d05676aa1e27a364b061443a", func := "paymaster/paymasterlaw16.ProofBeside", spec := "proofBeside", inPlace := ["internal/bytealg.IndexByteString", "internal/bytealg.IndexString", "internal/abi.NoEscape", "math/bits.Add64"], unfollowed := true, recurses := true, named := ["unicode/utf8.first", "unicode/utf8.acceptRanges", "paymaster/block.constants", "internal/bytealg.MaxLen"], apart := false, laid := [("paymaster/block.constants", laid_paymaster_block_constants), ("unicode/utf8.acceptRanges", laid_unicode_utf8_acceptRanges), ("unicode/utf8.first", laid_unicode_utf8_first)] }
def ProofBesideSaid : Prop := proofBesideRow.holds Tryd.pinned (OpenSpec.ofChange proofBesideSpec)

/-- ITS FALSE NEIGHBOUR: 'it returns false'. Refute it at one input. -/
def proofBesideWrong : ChangeSpec := { name := "proofBeside", fn := fun _ => fun
  | [d1, d2, d3, d4] => { results := [.lit (.bool false)], args := [d1, d2, d3, d4] }
  | _ => none }
def ProofBesideWrongFalsely : Prop := proofBesideRow.holds Tryd.pinned (OpenSpec.ofChange proofBesideWrong)

/-- 'paymasterlaw16.ProofClimbs': WHATEVER THE INPUT: true; the input reads as it did. -/
def proofClimbsSpec : ChangeSpec := { name := "proofClimbs", fn := fun _ => fun
  | [d1, d2] => { results := [.lit (.bool true)], args := [d1, d2] }
  | _ => none }
def proofClimbsRow : OpenClaim := { program := "ytfcodmdckcihmaadoor", sum := "42ae51c8b8826f3c914a03ef5fecc5bebede97a0d05676aa1e27a364b061443a", func := "paymaster/paymasterlaw16.ProofClimbs", spec := "proofClimbs", inPlace := ["internal/bytealg.IndexByteString", "internal/bytealg.IndexString", "internal/abi.NoEscape", "math/bits.Add64"], unfollowed := true, recurses := true, named := ["unicode/utf8.first", "unicode/utf8.acceptRanges", "paymaster/block.constants", "internal/bytealg.MaxLen"], apart := false, laid := [("paymaster/block.constants", laid_paymaster_block_constants), ("unicode/utf8.acceptRanges", laid_unicode_utf8_acceptRanges), ("unicode/utf8.first", laid_unicode_utf8_first)] }
def ProofClimbsSaid : Prop := proofClimbsRow.holds Tryd.pinned (OpenSpec.ofChange proofClimbsSpec)

/-- ITS FALSE NEIGHBOUR: 'it returns false'. Refute it at one input. -/
def proofClimbsWrong : ChangeSpec := { name := "proofClimbs", fn := fun _ => fun
  | [d1, d2] => { results := [.lit (.bool false)], args := [d1, d2] }
  | _ => none }
def ProofClimbsWrongFalsely : Prop := proofClimbsRow.holds Tryd.pinned (OpenSpec.ofChange proofClimbsWrong)

/-- 'paymasterlaw16.ProofChanges': WHATEVER THE INPUT: true; the input reads as it did. -/
def proofChangesSpec : ChangeSpec := { name := "proofChanges", fn := fun _ => fun
  | [d1, d2, d3, d4] => { results := [.lit (.bool true)], args := [d1, d2, d3, d4] }
  | _ => none }
def proofChangesRow : OpenClaim := { program := "ytfcodmdckcihmaadoor", sum := "42ae51c8b8826f3c914a03ef5fecc5bebede97a0d05676aa1e27a364b061443a", func := "paymaster/paymasterlaw16.ProofChanges", spec := "proofChanges", inPlace := ["internal/bytealg.IndexByteString", "internal/bytealg.IndexString", "internal/abi.NoEscape", "math/bits.Add64"], unfollowed := true, recurses := true, named := ["unicode/utf8.first", "unicode/utf8.acceptRanges", "paymaster/block.constants", "internal/bytealg.MaxLen"], apart := false, laid := [("paymaster/block.constants", laid_paymaster_block_constants), ("unicode/utf8.acceptRanges", laid_unicode_utf8_acceptRanges), ("unicode/utf8.first", laid_unicode_utf8_first)] }
def ProofChangesSaid : Prop := proofChangesRow.holds Tryd.pinned (OpenSpec.ofChange proofChangesSpec)

/-- ITS FALSE NEIGHBOUR: 'it returns false'. Refute it at one input. -/
def proofChangesWrong : ChangeSpec := { name := "proofChanges", fn := fun _ => fun
  | [d1, d2, d3, d4] => { results := [.lit (.bool false)], args := [d1, d2, d3, d4] }
  | _ => none }
def ProofChangesWrongFalsely : Prop := proofChangesRow.holds Tryd.pinned (OpenSpec.ofChange proofChangesWrong)

/-- 'paymasterlaw17.VerifyHonest': WHATEVER THE INPUT: true; the input reads as it did. -/
def verifyHonestSpec : ChangeSpec := { name := "verifyHonest", fn := fun _ => fun
  | [d1, d2, d3] => { results := [.lit (.bool true)], args := [d1, d2, d3] }
  | _ => none }
def verifyHonestRow : OpenClaim := { program := "ytfcodmdckcihmaadoor", sum := "42ae51c8b8826f3c914a03ef5fecc5bebede97a0d05676aa1e27a364b061443a", func := "paymaster/paymasterlaw17.VerifyHonest", spec := "verifyHonest", inPlace := ["internal/bytealg.IndexByteString", "internal/bytealg.IndexString", "internal/abi.NoEscape", "math/bits.Add64"], unfollowed := true, recurses := true, named := ["unicode/utf8.first", "unicode/utf8.acceptRanges", "paymaster/block.constants", "internal/bytealg.MaxLen"], apart := false, laid := [("paymaster/block.constants", laid_paymaster_block_constants), ("unicode/utf8.acceptRanges", laid_unicode_utf8_acceptRanges), ("unicode/utf8.first", laid_unicode_utf8_first)] }
def VerifyHonestSaid : Prop := verifyHonestRow.holds Tryd.pinned (OpenSpec.ofChange verifyHonestSpec)

/-- ITS FALSE NEIGHBOUR: 'it returns false'. Refute it at one input. -/
def verifyHonestWrong : ChangeSpec := { name := "verifyHonest", fn := fun _ => fun
  | [d1, d2, d3] => { results := [.lit (.bool false)], args := [d1, d2, d3] }
  | _ => none }
def VerifyHonestWrongFalsely : Prop := verifyHonestRow.holds Tryd.pinned (OpenSpec.ofChange verifyHonestWrong)

/-- 'paymasterlaw17.VerifySpoilt': WHATEVER THE INPUT: true; the input reads as it did. -/
def verifySpoiltSpec : ChangeSpec := { name := "verifySpoilt", fn := fun _ => fun
  | [d1, d2, d3, d4, d5, d6] => { results := [.lit (.bool true)], args := [d1, d2, d3, d4, d5, d6] }
  | _ => none }
def verifySpoiltRow : OpenClaim := { program := "ytfcodmdckcihmaadoor", sum := "42ae51c8b8826f3c914a03ef5fecc5bebede97a0d05676aa1e27a364b061443a", func := "paymaster/paymasterlaw17.VerifySpoilt", spec := "verifySpoilt", inPlace := ["internal/bytealg.IndexByteString", "internal/bytealg.IndexString", "internal/abi.NoEscape", "math/bits.Add64"], unfollowed := true, recurses := true, named := ["unicode/utf8.first", "unicode/utf8.acceptRanges", "paymaster/block.constants", "internal/bytealg.MaxLen"], apart := false, laid := [("paymaster/block.constants", laid_paymaster_block_constants), ("unicode/utf8.acceptRanges", laid_unicode_utf8_acceptRanges), ("unicode/utf8.first", laid_unicode_utf8_first)] }
def VerifySpoiltSaid : Prop := verifySpoiltRow.holds Tryd.pinned (OpenSpec.ofChange verifySpoiltSpec)

/-- ITS FALSE NEIGHBOUR: 'it returns false'. Refute it at one input. -/
def verifySpoiltWrong : ChangeSpec := { name := "verifySpoilt", fn := fun _ => fun
  | [d1, d2, d3, d4, d5, d6] => { results := [.lit (.bool false)], args := [d1, d2, d3, d4, d5, d6] }
  | _ => none }
def VerifySpoiltWrongFalsely : Prop := verifySpoiltRow.holds Tryd.pinned (OpenSpec.ofChange verifySpoiltWrong)

/-- 'paymasterlaw21.RangesChecks': WHATEVER THE INPUT: true; the input reads as it did. -/
def rangesChecksSpec : ChangeSpec := { name := "rangesChecks", fn := fun _ => fun
  | [d1, d2, d3] => { results := [.lit (.bool true)], args := [d1, d2, d3] }
  | _ => none }
def rangesChecksRow : OpenClaim := { program := "ytfcodmdckcihmaadoor", sum := "42ae51c8b8826f3c914a03ef5fecc5bebede97a0d05676aa1e27a364b061443a", func := "paymaster/paymasterlaw21.RangesChecks", spec := "rangesChecks", inPlace := ["math/bits.Add64", "internal/abi.NoEscape"], unfollowed := true, recurses := true, named := ["math/bits.deBruijn64tab", "paymaster/block.constants"], apart := false, laid := [("math/bits.deBruijn64tab", laid_math_bits_deBruijn64tab), ("paymaster/block.constants", laid_paymaster_block_constants)] }
def RangesChecksSaid : Prop := rangesChecksRow.holds Tryd.pinned (OpenSpec.ofChange rangesChecksSpec)

/-- ITS FALSE NEIGHBOUR: 'it returns false'. Refute it at one input. -/
def rangesChecksWrong : ChangeSpec := { name := "rangesChecks", fn := fun _ => fun
  | [d1, d2, d3] => { results := [.lit (.bool false)], args := [d1, d2, d3] }
  | _ => none }
def RangesChecksWrongFalsely : Prop := rangesChecksRow.holds Tryd.pinned (OpenSpec.ofChange rangesChecksWrong)

/- THE SECOND FORM. 'bulk': how many values and letters a reading holds, each counted each time it is reached (what is shared counts as often as it is met; a slice's spare places count too). A statement '..UptoSaid' is the law's where the arguments, and the package variables that the reading takes, are together of bulk at most 1048576: NARROWER than '..Said'. Prove '..Said' where nothing that the law and all that it calls make is longer than what came in: it says more and counts as full. Else prove '..UptoSaid'. A law counts once. -/
mutual
def uptoBulk {H : Type} : DataW H → Nat
  | .lit (.string bytes) => bytes.length + 1
  | .lit _ => 1
  | .nil => 1
  | .ptr d => uptoBulk d + 1
  | .slice elems spare => uptoBulkAll elems + uptoBulkAll spare + 1
  | .agg parts => uptoBulkAll parts + 1
  | .iface _ d => uptoBulk d + 1
  | .map entries => uptoBulkEntries entries + 1
  | .held _ => 1
def uptoBulkAll {H : Type} : List (DataW H) → Nat
  | [] => 0
  | d :: r => uptoBulk d + uptoBulkAll r
def uptoBulkEntries {H : Type} : List (Lit × DataW H) → Nat
  | [] => 0
  | x :: r => uptoBulkEntry x + uptoBulkEntries r
def uptoBulkEntry {H : Type} : Lit × DataW H → Nat
  | (.string bytes, d) => bytes.length + uptoBulk d + 1
  | (_, d) => uptoBulk d + 1
 end
def uptoSmall : (H : Type) → List (DataW H) → Bool := fun _ ds => decide (uptoBulkAll ds ≤ 1048576)
def OpenSpec.upto (s : _root_.Go.ChangeSpec) : _root_.Go.OpenSpec := { _root_.Go.OpenSpec.ofChange s with cond := some uptoSmall }

/-- 'paymasterlaw15.TreeBuilds', WHERE WHAT IT READS IS OF BULK AT MOST 1048576: true; the input reads as it did. -/
def treeBuildsUptoRow : OpenClaim := { program := "ytfcodmdckcihmaadoor", sum := "42ae51c8b8826f3c914a03ef5fecc5bebede97a0d05676aa1e27a364b061443a", func := "paymaster/paymasterlaw15.TreeBuilds", spec := "treeBuilds", inPlace := ["internal/bytealg.IndexByteString", "internal/bytealg.IndexString", "internal/abi.NoEscape", "math/bits.Add64"], unfollowed := true, recurses := true, named := ["unicode/utf8.first", "unicode/utf8.acceptRanges", "paymaster/block.constants", "internal/bytealg.MaxLen"], apart := false, laid := [("paymaster/block.constants", laid_paymaster_block_constants), ("unicode/utf8.acceptRanges", laid_unicode_utf8_acceptRanges), ("unicode/utf8.first", laid_unicode_utf8_first)], narrowed := true }
def TreeBuildsUptoSaid : Prop := treeBuildsUptoRow.holds Tryd.pinned (OpenSpec.upto treeBuildsSpec)

/-- 'paymasterlaw15.TreeBack', WHERE WHAT IT READS IS OF BULK AT MOST 1048576: true; the input reads as it did. -/
def treeBackUptoRow : OpenClaim := { program := "ytfcodmdckcihmaadoor", sum := "42ae51c8b8826f3c914a03ef5fecc5bebede97a0d05676aa1e27a364b061443a", func := "paymaster/paymasterlaw15.TreeBack", spec := "treeBack", inPlace := ["internal/bytealg.IndexByteString", "internal/bytealg.IndexString", "internal/abi.NoEscape", "math/bits.Add64"], unfollowed := true, recurses := true, named := ["unicode/utf8.first", "unicode/utf8.acceptRanges", "paymaster/block.constants", "internal/bytealg.MaxLen"], apart := false, laid := [("paymaster/block.constants", laid_paymaster_block_constants), ("unicode/utf8.acceptRanges", laid_unicode_utf8_acceptRanges), ("unicode/utf8.first", laid_unicode_utf8_first)], narrowed := true }
def TreeBackUptoSaid : Prop := treeBackUptoRow.holds Tryd.pinned (OpenSpec.upto treeBackSpec)

/-- 'paymasterlaw15.TreeOther', WHERE WHAT IT READS IS OF BULK AT MOST 1048576: true; the input reads as it did. -/
def treeOtherUptoRow : OpenClaim := { program := "ytfcodmdckcihmaadoor", sum := "42ae51c8b8826f3c914a03ef5fecc5bebede97a0d05676aa1e27a364b061443a", func := "paymaster/paymasterlaw15.TreeOther", spec := "treeOther", inPlace := ["internal/bytealg.IndexByteString", "internal/bytealg.IndexString", "internal/abi.NoEscape", "math/bits.Add64"], unfollowed := true, recurses := true, named := ["unicode/utf8.first", "unicode/utf8.acceptRanges", "paymaster/block.constants", "internal/bytealg.MaxLen"], apart := false, laid := [("paymaster/block.constants", laid_paymaster_block_constants), ("unicode/utf8.acceptRanges", laid_unicode_utf8_acceptRanges), ("unicode/utf8.first", laid_unicode_utf8_first)], narrowed := true }
def TreeOtherUptoSaid : Prop := treeOtherUptoRow.holds Tryd.pinned (OpenSpec.upto treeOtherSpec)

/-- 'paymasterlaw15.TreeFolded', WHERE WHAT IT READS IS OF BULK AT MOST 1048576: true; the input reads as it did. -/
def treeFoldedUptoRow : OpenClaim := { program := "ytfcodmdckcihmaadoor", sum := "42ae51c8b8826f3c914a03ef5fecc5bebede97a0d05676aa1e27a364b061443a", func := "paymaster/paymasterlaw15.TreeFolded", spec := "treeFolded", inPlace := ["internal/bytealg.IndexByteString", "internal/bytealg.IndexString", "internal/abi.NoEscape", "math/bits.Add64"], unfollowed := true, recurses := true, named := ["unicode/utf8.first", "unicode/utf8.acceptRanges", "paymaster/block.constants", "internal/bytealg.MaxLen"], apart := false, laid := [("paymaster/block.constants", laid_paymaster_block_constants), ("unicode/utf8.acceptRanges", laid_unicode_utf8_acceptRanges), ("unicode/utf8.first", laid_unicode_utf8_first)], narrowed := true }
def TreeFoldedUptoSaid : Prop := treeFoldedUptoRow.holds Tryd.pinned (OpenSpec.upto treeFoldedSpec)

/-- 'paymasterlaw16.ProofBeside', WHERE WHAT IT READS IS OF BULK AT MOST 1048576: true; the input reads as it did. -/
def proofBesideUptoRow : OpenClaim := { program := "ytfcodmdckcihmaadoor", sum := "42ae51c8b8826f3c914a03ef5fecc5bebede97a0d05676aa1e27a364b061443a", func := "paymaster/paymasterlaw16.ProofBeside", spec := "proofBeside", inPlace := ["internal/bytealg.IndexByteString", "internal/bytealg.IndexString", "internal/abi.NoEscape", "math/bits.Add64"], unfollowed := true, recurses := true, named := ["unicode/utf8.first", "unicode/utf8.acceptRanges", "paymaster/block.constants", "internal/bytealg.MaxLen"], apart := false, laid := [("paymaster/block.constants", laid_paymaster_block_constants), ("unicode/utf8.acceptRanges", laid_unicode_utf8_acceptRanges), ("unicode/utf8.first", laid_unicode_utf8_first)], narrowed := true }
def ProofBesideUptoSaid : Prop := proofBesideUptoRow.holds Tryd.pinned (OpenSpec.upto proofBesideSpec)

/-- 'paymasterlaw16.ProofClimbs', WHERE WHAT IT READS IS OF BULK AT MOST 1048576: true; the input reads as it did. -/
def proofClimbsUptoRow : OpenClaim := { program := "ytfcodmdckcihmaadoor", sum := "42ae51c8b8826f3c914a03ef5fecc5bebede97a0d05676aa1e27a364b061443a", func := "paymaster/paymasterlaw16.ProofClimbs", spec := "proofClimbs", inPlace := ["internal/bytealg.IndexByteString", "internal/bytealg.IndexString", "internal/abi.NoEscape", "math/bits.Add64"], unfollowed := true, recurses := true, named := ["unicode/utf8.first", "unicode/utf8.acceptRanges", "paymaster/block.constants", "internal/bytealg.MaxLen"], apart := false, laid := [("paymaster/block.constants", laid_paymaster_block_constants), ("unicode/utf8.acceptRanges", laid_unicode_utf8_acceptRanges), ("unicode/utf8.first", laid_unicode_utf8_first)], narrowed := true }
def ProofClimbsUptoSaid : Prop := proofClimbsUptoRow.holds Tryd.pinned (OpenSpec.upto proofClimbsSpec)

/-- 'paymasterlaw16.ProofChanges', WHERE WHAT IT READS IS OF BULK AT MOST 1048576: true; the input reads as it did. -/
def proofChangesUptoRow : OpenClaim := { program := "ytfcodmdckcihmaadoor", sum := "42ae51c8b8826f3c914a03ef5fecc5bebede97a0d05676aa1e27a364b061443a", func := "paymaster/paymasterlaw16.ProofChanges", spec := "proofChanges", inPlace := ["internal/bytealg.IndexByteString", "internal/bytealg.IndexString", "internal/abi.NoEscape", "math/bits.Add64"], unfollowed := true, recurses := true, named := ["unicode/utf8.first", "unicode/utf8.acceptRanges", "paymaster/block.constants", "internal/bytealg.MaxLen"], apart := false, laid := [("paymaster/block.constants", laid_paymaster_block_constants), ("unicode/utf8.acceptRanges", laid_unicode_utf8_acceptRanges), ("unicode/utf8.first", laid_unicode_utf8_first)], narrowed := true }
def ProofChangesUptoSaid : Prop := proofChangesUptoRow.holds Tryd.pinned (OpenSpec.upto proofChangesSpec)

/-- 'paymasterlaw17.VerifyHonest', WHERE WHAT IT READS IS OF BULK AT MOST 1048576: true; the input reads as it did. -/
def verifyHonestUptoRow : OpenClaim := { program := "ytfcodmdckcihmaadoor", sum := "42ae51c8b8826f3c914a03ef5fecc5bebede97a0d05676aa1e27a364b061443a", func := "paymaster/paymasterlaw17.VerifyHonest", spec := "verifyHonest", inPlace := ["internal/bytealg.IndexByteString", "internal/bytealg.IndexString", "internal/abi.NoEscape", "math/bits.Add64"], unfollowed := true, recurses := true, named := ["unicode/utf8.first", "unicode/utf8.acceptRanges", "paymaster/block.constants", "internal/bytealg.MaxLen"], apart := false, laid := [("paymaster/block.constants", laid_paymaster_block_constants), ("unicode/utf8.acceptRanges", laid_unicode_utf8_acceptRanges), ("unicode/utf8.first", laid_unicode_utf8_first)], narrowed := true }
def VerifyHonestUptoSaid : Prop := verifyHonestUptoRow.holds Tryd.pinned (OpenSpec.upto verifyHonestSpec)

/-- 'paymasterlaw17.VerifySpoilt', WHERE WHAT IT READS IS OF BULK AT MOST 1048576: true; the input reads as it did. -/
def verifySpoiltUptoRow : OpenClaim := { program := "ytfcodmdckcihmaadoor", sum := "42ae51c8b8826f3c914a03ef5fecc5bebede97a0d05676aa1e27a364b061443a", func := "paymaster/paymasterlaw17.VerifySpoilt", spec := "verifySpoilt", inPlace := ["internal/bytealg.IndexByteString", "internal/bytealg.IndexString", "internal/abi.NoEscape", "math/bits.Add64"], unfollowed := true, recurses := true, named := ["unicode/utf8.first", "unicode/utf8.acceptRanges", "paymaster/block.constants", "internal/bytealg.MaxLen"], apart := false, laid := [("paymaster/block.constants", laid_paymaster_block_constants), ("unicode/utf8.acceptRanges", laid_unicode_utf8_acceptRanges), ("unicode/utf8.first", laid_unicode_utf8_first)], narrowed := true }
def VerifySpoiltUptoSaid : Prop := verifySpoiltUptoRow.holds Tryd.pinned (OpenSpec.upto verifySpoiltSpec)

/-- 'paymasterlaw21.RangesChecks', WHERE WHAT IT READS IS OF BULK AT MOST 1048576: true; the input reads as it did. -/
def rangesChecksUptoRow : OpenClaim := { program := "ytfcodmdckcihmaadoor", sum := "42ae51c8b8826f3c914a03ef5fecc5bebede97a0d05676aa1e27a364b061443a", func := "paymaster/paymasterlaw21.RangesChecks", spec := "rangesChecks", inPlace := ["math/bits.Add64", "internal/abi.NoEscape"], unfollowed := true, recurses := true, named := ["math/bits.deBruijn64tab", "paymaster/block.constants"], apart := false, laid := [("math/bits.deBruijn64tab", laid_math_bits_deBruijn64tab), ("paymaster/block.constants", laid_paymaster_block_constants)], narrowed := true }
def RangesChecksUptoSaid : Prop := rangesChecksUptoRow.holds Tryd.pinned (OpenSpec.upto rangesChecksSpec)

end Rows
end Go.Proofs.YtfcodmdckcihmaaDoor
