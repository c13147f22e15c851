/-
  DERIVED. GIVEN WITH THE SEED: THE CARDS: each row of YtfcodmdckcihmaaDoorRows.lean that lists a variable, with what it lists TIED to the program's text (the seventh form; the later family's looks); each row that meets fmt, with fmt's text TOLD by the authors' own Lean function (tested against real Go, not proved from fmt's source: count such statements apart). THE CARD IS WHAT COUNTS. Prove the row's statement (the work); the ties are given (YtfcodmdckcihmaaDoorTie.lean); close each card by the builder's one call (the guide's Derived/Test/ToyasCard.lean, 'card_holds'). Laid BY PROGRAM, IN A SANDBOX (cutbox-door.mjs). By AI agents, Wed Nov 11 2026. No macro, syntax, notation, axiom, sorry.
-/
import Derived.Test.YtfcodmdckcihmaaDoorRows
import GoSem.ClaimSeven
namespace Go.Proofs.YtfcodmdckcihmaaDoor
namespace Rows

/-- THE TIED CARD OF 'paymasterlaw15.TreeBuilds'. -/
def treeBuildsCard : Claim7 := { stood := { row := treeBuildsRow, standIns := [], harness := (true, "4f2cffd12862c0dd414eb8a94792080809aa0e0cec70df79135b296e27b5c26d"), looks := false }, kinds := [], alts := [], laidByText := true, laidKinds := [.data, .data, .pinned], laidTests := true, laidLooks := .later }
def TreeBuildsCardSaid : Prop := Claim7.holds Tryd.pinned (.plain (OpenSpec.ofChange treeBuildsSpec)) treeBuildsCard

/-- THE TIED CARD OF 'paymasterlaw15.TreeBack'. -/
def treeBackCard : Claim7 := { stood := { row := treeBackRow, standIns := [], harness := (true, "4f2cffd12862c0dd414eb8a94792080809aa0e0cec70df79135b296e27b5c26d"), looks := false }, kinds := [], alts := [], laidByText := true, laidKinds := [.data, .data, .pinned], laidTests := true, laidLooks := .later }
def TreeBackCardSaid : Prop := Claim7.holds Tryd.pinned (.plain (OpenSpec.ofChange treeBackSpec)) treeBackCard

/-- THE TIED CARD OF 'paymasterlaw15.TreeOther'. -/
def treeOtherCard : Claim7 := { stood := { row := treeOtherRow, standIns := [], harness := (true, "4f2cffd12862c0dd414eb8a94792080809aa0e0cec70df79135b296e27b5c26d"), looks := false }, kinds := [], alts := [], laidByText := true, laidKinds := [.data, .data, .pinned], laidTests := true, laidLooks := .later }
def TreeOtherCardSaid : Prop := Claim7.holds Tryd.pinned (.plain (OpenSpec.ofChange treeOtherSpec)) treeOtherCard

/-- THE TIED CARD OF 'paymasterlaw15.TreeFolded'. -/
def treeFoldedCard : Claim7 := { stood := { row := treeFoldedRow, standIns := [], harness := (true, "4f2cffd12862c0dd414eb8a94792080809aa0e0cec70df79135b296e27b5c26d"), looks := false }, kinds := [], alts := [], laidByText := true, laidKinds := [.data, .data, .pinned], laidTests := true, laidLooks := .later }
def TreeFoldedCardSaid : Prop := Claim7.holds Tryd.pinned (.plain (OpenSpec.ofChange treeFoldedSpec)) treeFoldedCard

/-- THE TIED CARD OF 'paymasterlaw16.ProofBeside'. -/
def proofBesideCard : Claim7 := { stood := { row := proofBesideRow, standIns := [], harness := (true, "4f2cffd12862c0dd414eb8a94792080809aa0e0cec70df79135b296e27b5c26d"), looks := false }, kinds := [], alts := [], laidByText := true, laidKinds := [.data, .data, .pinned], laidTests := true, laidLooks := .later }
def ProofBesideCardSaid : Prop := Claim7.holds Tryd.pinned (.plain (OpenSpec.ofChange proofBesideSpec)) proofBesideCard

/-- THE TIED CARD OF 'paymasterlaw16.ProofClimbs'. -/
def proofClimbsCard : Claim7 := { stood := { row := proofClimbsRow, standIns := [], harness := (true, "4f2cffd12862c0dd414eb8a94792080809aa0e0cec70df79135b296e27b5c26d"), looks := false }, kinds := [], alts := [], laidByText := true, laidKinds := [.data, .data, .pinned], laidTests := true, laidLooks := .later }
def ProofClimbsCardSaid : Prop := Claim7.holds Tryd.pinned (.plain (OpenSpec.ofChange proofClimbsSpec)) proofClimbsCard

/-- THE TIED CARD OF 'paymasterlaw16.ProofChanges'. -/
def proofChangesCard : Claim7 := { stood := { row := proofChangesRow, standIns := [], harness := (true, "4f2cffd12862c0dd414eb8a94792080809aa0e0cec70df79135b296e27b5c26d"), looks := false }, kinds := [], alts := [], laidByText := true, laidKinds := [.data, .data, .pinned], laidTests := true, laidLooks := .later }
def ProofChangesCardSaid : Prop := Claim7.holds Tryd.pinned (.plain (OpenSpec.ofChange proofChangesSpec)) proofChangesCard

/-- THE TIED CARD OF 'paymasterlaw17.VerifyHonest'. -/
def verifyHonestCard : Claim7 := { stood := { row := verifyHonestRow, standIns := [], harness := (true, "4f2cffd12862c0dd414eb8a94792080809aa0e0cec70df79135b296e27b5c26d"), looks := false }, kinds := [], alts := [], laidByText := true, laidKinds := [.data, .data, .pinned], laidTests := true, laidLooks := .later }
def VerifyHonestCardSaid : Prop := Claim7.holds Tryd.pinned (.plain (OpenSpec.ofChange verifyHonestSpec)) verifyHonestCard

/-- THE TIED CARD OF 'paymasterlaw17.VerifySpoilt'. -/
def verifySpoiltCard : Claim7 := { stood := { row := verifySpoiltRow, standIns := [], harness := (true, "4f2cffd12862c0dd414eb8a94792080809aa0e0cec70df79135b296e27b5c26d"), looks := false }, kinds := [], alts := [], laidByText := true, laidKinds := [.data, .data, .pinned], laidTests := true, laidLooks := .later }
def VerifySpoiltCardSaid : Prop := Claim7.holds Tryd.pinned (.plain (OpenSpec.ofChange verifySpoiltSpec)) verifySpoiltCard

/-- THE TIED CARD OF 'paymasterlaw21.RangesChecks'. -/
def rangesChecksCard : Claim7 := { stood := { row := rangesChecksRow, standIns := [], harness := (true, "4f2cffd12862c0dd414eb8a94792080809aa0e0cec70df79135b296e27b5c26d"), looks := false }, kinds := [], alts := [], laidByText := true, laidKinds := [.data, .data], laidTests := true, laidLooks := .later }
def RangesChecksCardSaid : Prop := Claim7.holds Tryd.pinned (.plain (OpenSpec.ofChange rangesChecksSpec)) rangesChecksCard

/-- THE SECOND FORM's CARD OF 'paymasterlaw15.TreeBuilds'. -/
def treeBuildsUptoCard : Claim7 := { stood := { row := treeBuildsUptoRow, standIns := [], harness := (true, "4f2cffd12862c0dd414eb8a94792080809aa0e0cec70df79135b296e27b5c26d"), looks := false }, kinds := [], alts := [], laidByText := true, laidKinds := [.data, .data, .pinned], laidTests := true, laidLooks := .later }
def TreeBuildsUptoCardSaid : Prop := Claim7.holds Tryd.pinned (.plain (OpenSpec.upto treeBuildsSpec)) treeBuildsUptoCard

/-- THE SECOND FORM's CARD OF 'paymasterlaw15.TreeBack'. -/
def treeBackUptoCard : Claim7 := { stood := { row := treeBackUptoRow, standIns := [], harness := (true, "4f2cffd12862c0dd414eb8a94792080809aa0e0cec70df79135b296e27b5c26d"), looks := false }, kinds := [], alts := [], laidByText := true, laidKinds := [.data, .data, .pinned], laidTests := true, laidLooks := .later }
def TreeBackUptoCardSaid : Prop := Claim7.holds Tryd.pinned (.plain (OpenSpec.upto treeBackSpec)) treeBackUptoCard

/-- THE SECOND FORM's CARD OF 'paymasterlaw15.TreeOther'. -/
def treeOtherUptoCard : Claim7 := { stood := { row := treeOtherUptoRow, standIns := [], harness := (true, "4f2cffd12862c0dd414eb8a94792080809aa0e0cec70df79135b296e27b5c26d"), looks := false }, kinds := [], alts := [], laidByText := true, laidKinds := [.data, .data, .pinned], laidTests := true, laidLooks := .later }
def TreeOtherUptoCardSaid : Prop := Claim7.holds Tryd.pinned (.plain (OpenSpec.upto treeOtherSpec)) treeOtherUptoCard

/-- THE SECOND FORM's CARD OF 'paymasterlaw15.TreeFolded'. -/
def treeFoldedUptoCard : Claim7 := { stood := { row := treeFoldedUptoRow, standIns := [], harness := (true, "4f2cffd12862c0dd414eb8a94792080809aa0e0cec70df79135b296e27b5c26d"), looks := false }, kinds := [], alts := [], laidByText := true, laidKinds := [.data, .data, .pinned], laidTests := true, laidLooks := .later }
def TreeFoldedUptoCardSaid : Prop := Claim7.holds Tryd.pinned (.plain (OpenSpec.upto treeFoldedSpec)) treeFoldedUptoCard

/-- THE SECOND FORM's CARD OF 'paymasterlaw16.ProofBeside'. -/
def proofBesideUptoCard : Claim7 := { stood := { row := proofBesideUptoRow, standIns := [], harness := (true, "4f2cffd12862c0dd414eb8a94792080809aa0e0cec70df79135b296e27b5c26d"), looks := false }, kinds := [], alts := [], laidByText := true, laidKinds := [.data, .data, .pinned], laidTests := true, laidLooks := .later }
def ProofBesideUptoCardSaid : Prop := Claim7.holds Tryd.pinned (.plain (OpenSpec.upto proofBesideSpec)) proofBesideUptoCard

/-- THE SECOND FORM's CARD OF 'paymasterlaw16.ProofClimbs'. -/
def proofClimbsUptoCard : Claim7 := { stood := { row := proofClimbsUptoRow, standIns := [], harness := (true, "4f2cffd12862c0dd414eb8a94792080809aa0e0cec70df79135b296e27b5c26d"), looks := false }, kinds := [], alts := [], laidByText := true, laidKinds := [.data, .data, .pinned], laidTests := true, laidLooks := .later }
def ProofClimbsUptoCardSaid : Prop := Claim7.holds Tryd.pinned (.plain (OpenSpec.upto proofClimbsSpec)) proofClimbsUptoCard

/-- THE SECOND FORM's CARD OF 'paymasterlaw16.ProofChanges'. -/
def proofChangesUptoCard : Claim7 := { stood := { row := proofChangesUptoRow, standIns := [], harness := (true, "4f2cffd12862c0dd414eb8a94792080809aa0e0cec70df79135b296e27b5c26d"), looks := false }, kinds := [], alts := [], laidByText := true, laidKinds := [.data, .data, .pinned], laidTests := true, laidLooks := .later }
def ProofChangesUptoCardSaid : Prop := Claim7.holds Tryd.pinned (.plain (OpenSpec.upto proofChangesSpec)) proofChangesUptoCard

/-- THE SECOND FORM's CARD OF 'paymasterlaw17.VerifyHonest'. -/
def verifyHonestUptoCard : Claim7 := { stood := { row := verifyHonestUptoRow, standIns := [], harness := (true, "4f2cffd12862c0dd414eb8a94792080809aa0e0cec70df79135b296e27b5c26d"), looks := false }, kinds := [], alts := [], laidByText := true, laidKinds := [.data, .data, .pinned], laidTests := true, laidLooks := .later }
def VerifyHonestUptoCardSaid : Prop := Claim7.holds Tryd.pinned (.plain (OpenSpec.upto verifyHonestSpec)) verifyHonestUptoCard

/-- THE SECOND FORM's CARD OF 'paymasterlaw17.VerifySpoilt'. -/
def verifySpoiltUptoCard : Claim7 := { stood := { row := verifySpoiltUptoRow, standIns := [], harness := (true, "4f2cffd12862c0dd414eb8a94792080809aa0e0cec70df79135b296e27b5c26d"), looks := false }, kinds := [], alts := [], laidByText := true, laidKinds := [.data, .data, .pinned], laidTests := true, laidLooks := .later }
def VerifySpoiltUptoCardSaid : Prop := Claim7.holds Tryd.pinned (.plain (OpenSpec.upto verifySpoiltSpec)) verifySpoiltUptoCard

/-- THE SECOND FORM's CARD OF 'paymasterlaw21.RangesChecks'. -/
def rangesChecksUptoCard : Claim7 := { stood := { row := rangesChecksUptoRow, standIns := [], harness := (true, "4f2cffd12862c0dd414eb8a94792080809aa0e0cec70df79135b296e27b5c26d"), looks := false }, kinds := [], alts := [], laidByText := true, laidKinds := [.data, .data], laidTests := true, laidLooks := .later }
def RangesChecksUptoCardSaid : Prop := Claim7.holds Tryd.pinned (.plain (OpenSpec.upto rangesChecksSpec)) rangesChecksUptoCard
end Rows
end Go.Proofs.YtfcodmdckcihmaaDoor
