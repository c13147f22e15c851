/-
  DERIVED. GIVEN WITH THE SEED: THE CARDS: each row of YtcidfahoajmcmaaDoorRows.lean that lists a variable, with what it lists TIED to the program's text (the seventh form; the later family's looks); each row that meets fmt, with fmt's text TOLD by the authors' own Lean function (tested against real Go, not proved from fmt's source: count such statements apart). THE CARD IS WHAT COUNTS. Prove the row's statement (the work); the ties are given (YtcidfahoajmcmaaDoorTie.lean); close each card by the builder's one call (the guide's Derived/Test/ToyasCard.lean, 'card_holds'). Laid BY PROGRAM, IN A SANDBOX (cutbox-door.mjs). By AI agents, Wed Nov 11 2026. No macro, syntax, notation, axiom, sorry.
-/
import Derived.Test.YtcidfahoajmcmaaDoorRows
import GoSem.ClaimSeven
namespace Go.Proofs.YtcidfahoajmcmaaDoor
namespace Rows

/-- THE TIED CARD OF 'paymasterlaw05.ShaNil'. -/
def shaNilCard : Claim7 := { stood := { row := shaNilRow, standIns := [], harness := (true, "a08cd12a569dfd50d9ce2b1ba367bcd25cd7e107ae1d23db066b46ec4c531b1f"), looks := false }, kinds := [], alts := [], laidByText := true, laidKinds := [.data], laidTests := true, laidLooks := .later }
def ShaNilCardSaid : Prop := Claim7.holds Tryd.pinned (.plain (OpenSpec.ofChange shaNilSpec)) shaNilCard

/-- THE TIED CARD OF 'paymasterlaw05.ShaSums'. -/
def shaSumsCard : Claim7 := { stood := { row := shaSumsRow, standIns := [], harness := (true, "a08cd12a569dfd50d9ce2b1ba367bcd25cd7e107ae1d23db066b46ec4c531b1f"), looks := false }, kinds := [], alts := [], laidByText := true, laidKinds := [.data], laidTests := true, laidLooks := .later }
def ShaSumsCardSaid : Prop := Claim7.holds Tryd.pinned (.plain (OpenSpec.ofChange shaSumsSpec)) shaSumsCard

/-- THE TIED CARD OF 'paymasterlaw05.ShaBlocks'. -/
def shaBlocksCard : Claim7 := { stood := { row := shaBlocksRow, standIns := [], harness := (true, "a08cd12a569dfd50d9ce2b1ba367bcd25cd7e107ae1d23db066b46ec4c531b1f"), looks := false }, kinds := [], alts := [], laidByText := true, laidKinds := [.data], laidTests := true, laidLooks := .later }
def ShaBlocksCardSaid : Prop := Claim7.holds Tryd.pinned (.plain (OpenSpec.ofChange shaBlocksSpec)) shaBlocksCard

/-- THE TIED CARD OF 'paymasterlaw05.ShaPadded'. -/
def shaPaddedCard : Claim7 := { stood := { row := shaPaddedRow, standIns := [], harness := (true, "a08cd12a569dfd50d9ce2b1ba367bcd25cd7e107ae1d23db066b46ec4c531b1f"), looks := false }, kinds := [], alts := [], laidByText := true, laidKinds := [.data], laidTests := true, laidLooks := .later }
def ShaPaddedCardSaid : Prop := Claim7.holds Tryd.pinned (.plain (OpenSpec.ofChange shaPaddedSpec)) shaPaddedCard

/-- THE TIED CARD OF 'paymasterlaw05.ShaHex'. -/
def shaHexCard : Claim7 := { stood := { row := shaHexRow, standIns := [], harness := (true, "a08cd12a569dfd50d9ce2b1ba367bcd25cd7e107ae1d23db066b46ec4c531b1f"), looks := false }, kinds := [], alts := [], laidByText := true, laidKinds := [.data], laidTests := true, laidLooks := .later }
def ShaHexCardSaid : Prop := Claim7.holds Tryd.pinned (.plain (OpenSpec.ofChange shaHexSpec)) shaHexCard

/-- THE TIED CARD OF 'paymasterlaw05.ShaRuns'. -/
def shaRunsCard : Claim7 := { stood := { row := shaRunsRow, standIns := [], harness := (true, "a08cd12a569dfd50d9ce2b1ba367bcd25cd7e107ae1d23db066b46ec4c531b1f"), looks := false }, kinds := [], alts := [], laidByText := true, laidKinds := [.data], laidTests := true, laidLooks := .later }
def ShaRunsCardSaid : Prop := Claim7.holds Tryd.pinned (.plain (OpenSpec.ofChange shaRunsSpec)) shaRunsCard

/-- THE TIED CARD OF 'paymasterlaw05.ShaPieces'. -/
def shaPiecesCard : Claim7 := { stood := { row := shaPiecesRow, standIns := [], harness := (true, "a08cd12a569dfd50d9ce2b1ba367bcd25cd7e107ae1d23db066b46ec4c531b1f"), looks := false }, kinds := [], alts := [], laidByText := true, laidKinds := [.data], laidTests := true, laidLooks := .later }
def ShaPiecesCardSaid : Prop := Claim7.holds Tryd.pinned (.plain (OpenSpec.ofChange shaPiecesSpec)) shaPiecesCard

/-- THE TIED CARD OF 'paymasterlaw19.CollideFinds'. -/
def collideFindsCard : Claim7 := { stood := { row := collideFindsRow, standIns := [], harness := (true, "a08cd12a569dfd50d9ce2b1ba367bcd25cd7e107ae1d23db066b46ec4c531b1f"), looks := false }, kinds := [], alts := [], laidByText := true, laidKinds := [.data], laidTests := true, laidLooks := .later }
def CollideFindsCardSaid : Prop := Claim7.holds Tryd.pinned (.plain (OpenSpec.ofChange collideFindsSpec)) collideFindsCard

/-- THE TIED CARD OF 'paymasterlaw14.NodeJoins'. -/
def nodeJoinsCard : Claim7 := { stood := { row := nodeJoinsRow, standIns := [], harness := (true, "a08cd12a569dfd50d9ce2b1ba367bcd25cd7e107ae1d23db066b46ec4c531b1f"), looks := false }, kinds := [], alts := [], laidByText := true, laidKinds := [.data], laidTests := true, laidLooks := .later }
def NodeJoinsCardSaid : Prop := Claim7.holds Tryd.pinned (.plain (OpenSpec.ofChange nodeJoinsSpec)) nodeJoinsCard

/-- THE SECOND FORM's CARD OF 'paymasterlaw05.ShaNil'. -/
def shaNilUptoCard : Claim7 := { stood := { row := shaNilUptoRow, standIns := [], harness := (true, "a08cd12a569dfd50d9ce2b1ba367bcd25cd7e107ae1d23db066b46ec4c531b1f"), looks := false }, kinds := [], alts := [], laidByText := true, laidKinds := [.data], laidTests := true, laidLooks := .later }
def ShaNilUptoCardSaid : Prop := Claim7.holds Tryd.pinned (.plain (OpenSpec.upto shaNilSpec)) shaNilUptoCard

/-- THE SECOND FORM's CARD OF 'paymasterlaw05.ShaSums'. -/
def shaSumsUptoCard : Claim7 := { stood := { row := shaSumsUptoRow, standIns := [], harness := (true, "a08cd12a569dfd50d9ce2b1ba367bcd25cd7e107ae1d23db066b46ec4c531b1f"), looks := false }, kinds := [], alts := [], laidByText := true, laidKinds := [.data], laidTests := true, laidLooks := .later }
def ShaSumsUptoCardSaid : Prop := Claim7.holds Tryd.pinned (.plain (OpenSpec.upto shaSumsSpec)) shaSumsUptoCard

/-- THE SECOND FORM's CARD OF 'paymasterlaw05.ShaBlocks'. -/
def shaBlocksUptoCard : Claim7 := { stood := { row := shaBlocksUptoRow, standIns := [], harness := (true, "a08cd12a569dfd50d9ce2b1ba367bcd25cd7e107ae1d23db066b46ec4c531b1f"), looks := false }, kinds := [], alts := [], laidByText := true, laidKinds := [.data], laidTests := true, laidLooks := .later }
def ShaBlocksUptoCardSaid : Prop := Claim7.holds Tryd.pinned (.plain (OpenSpec.upto shaBlocksSpec)) shaBlocksUptoCard

/-- THE SECOND FORM's CARD OF 'paymasterlaw05.ShaPadded'. -/
def shaPaddedUptoCard : Claim7 := { stood := { row := shaPaddedUptoRow, standIns := [], harness := (true, "a08cd12a569dfd50d9ce2b1ba367bcd25cd7e107ae1d23db066b46ec4c531b1f"), looks := false }, kinds := [], alts := [], laidByText := true, laidKinds := [.data], laidTests := true, laidLooks := .later }
def ShaPaddedUptoCardSaid : Prop := Claim7.holds Tryd.pinned (.plain (OpenSpec.upto shaPaddedSpec)) shaPaddedUptoCard

/-- THE SECOND FORM's CARD OF 'paymasterlaw05.ShaHex'. -/
def shaHexUptoCard : Claim7 := { stood := { row := shaHexUptoRow, standIns := [], harness := (true, "a08cd12a569dfd50d9ce2b1ba367bcd25cd7e107ae1d23db066b46ec4c531b1f"), looks := false }, kinds := [], alts := [], laidByText := true, laidKinds := [.data], laidTests := true, laidLooks := .later }
def ShaHexUptoCardSaid : Prop := Claim7.holds Tryd.pinned (.plain (OpenSpec.upto shaHexSpec)) shaHexUptoCard

/-- THE SECOND FORM's CARD OF 'paymasterlaw05.ShaRuns'. -/
def shaRunsUptoCard : Claim7 := { stood := { row := shaRunsUptoRow, standIns := [], harness := (true, "a08cd12a569dfd50d9ce2b1ba367bcd25cd7e107ae1d23db066b46ec4c531b1f"), looks := false }, kinds := [], alts := [], laidByText := true, laidKinds := [.data], laidTests := true, laidLooks := .later }
def ShaRunsUptoCardSaid : Prop := Claim7.holds Tryd.pinned (.plain (OpenSpec.upto shaRunsSpec)) shaRunsUptoCard

/-- THE SECOND FORM's CARD OF 'paymasterlaw05.ShaPieces'. -/
def shaPiecesUptoCard : Claim7 := { stood := { row := shaPiecesUptoRow, standIns := [], harness := (true, "a08cd12a569dfd50d9ce2b1ba367bcd25cd7e107ae1d23db066b46ec4c531b1f"), looks := false }, kinds := [], alts := [], laidByText := true, laidKinds := [.data], laidTests := true, laidLooks := .later }
def ShaPiecesUptoCardSaid : Prop := Claim7.holds Tryd.pinned (.plain (OpenSpec.upto shaPiecesSpec)) shaPiecesUptoCard

/-- THE SECOND FORM's CARD OF 'paymasterlaw19.CollideFinds'. -/
def collideFindsUptoCard : Claim7 := { stood := { row := collideFindsUptoRow, standIns := [], harness := (true, "a08cd12a569dfd50d9ce2b1ba367bcd25cd7e107ae1d23db066b46ec4c531b1f"), looks := false }, kinds := [], alts := [], laidByText := true, laidKinds := [.data], laidTests := true, laidLooks := .later }
def CollideFindsUptoCardSaid : Prop := Claim7.holds Tryd.pinned (.plain (OpenSpec.upto collideFindsSpec)) collideFindsUptoCard

/-- THE SECOND FORM's CARD OF 'paymasterlaw14.NodeJoins'. -/
def nodeJoinsUptoCard : Claim7 := { stood := { row := nodeJoinsUptoRow, standIns := [], harness := (true, "a08cd12a569dfd50d9ce2b1ba367bcd25cd7e107ae1d23db066b46ec4c531b1f"), looks := false }, kinds := [], alts := [], laidByText := true, laidKinds := [.data], laidTests := true, laidLooks := .later }
def NodeJoinsUptoCardSaid : Prop := Claim7.holds Tryd.pinned (.plain (OpenSpec.upto nodeJoinsSpec)) nodeJoinsUptoCard
end Rows
end Go.Proofs.YtcidfahoajmcmaaDoor
