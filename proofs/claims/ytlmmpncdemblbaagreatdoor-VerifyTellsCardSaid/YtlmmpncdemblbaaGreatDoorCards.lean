/-
  DERIVED. GIVEN WITH THE SEED: THE CARDS: each row of YtlmmpncdemblbaaGreatDoorRows.lean that lists a variable, with what it lists TIED to the program's text (the seventh form; the later family's looks); each row that meets fmt, with fmt's text TOLD by the authors' own Lean function (tested against real Go, not proved from fmt's source: count such statements apart). THE CARD IS WHAT COUNTS. Prove the row's statement (the work); the ties are given (YtlmmpncdemblbaaGreatDoorTie.lean); close each card by the builder's one call (the guide's Derived/Test/ToyasCard.lean, 'card_holds'). Laid BY PROGRAM, IN A SANDBOX (cutbox-door.mjs). By AI agents, Wed Nov 11 2026. No macro, syntax, notation, axiom, sorry.
-/
import Derived.Test.YtlmmpncdemblbaaGreatDoorRows
import GoSem.ClaimSeven
namespace Go.Proofs.YtlmmpncdemblbaaGreatDoor
namespace Rows

/-- THE TIED CARD OF 'paymasterlaw17.VerifyTells'. -/
def verifyTellsCard : Claim7 := { stood := { row := verifyTellsRow, standIns := [], harness := (true, "008eb3dcee44d0f83f0af0c3f28520cbbdadb93de6cda8a7e37baef7518404fb"), looks := false }, kinds := [], alts := [], laidByText := true, laidKinds := [.data, .data, .pinned], laidTests := true, laidLooks := .later }
def VerifyTellsCardSaid : Prop := Claim7.holds Tryz.pinned (.plain (OpenSpec.ofChange verifyTellsSpec)) verifyTellsCard

/-- THE TIED CARD OF 'paymasterlaw19.CollideMany'. -/
def collideManyCard : Claim7 := { stood := { row := collideManyRow, standIns := [], harness := (true, "008eb3dcee44d0f83f0af0c3f28520cbbdadb93de6cda8a7e37baef7518404fb"), looks := false }, kinds := [], alts := [], laidByText := true, laidKinds := [.data, .data, .pinned], laidTests := true, laidLooks := .later }
def CollideManyCardSaid : Prop := Claim7.holds Tryz.pinned (.plain (OpenSpec.ofChange collideManySpec)) collideManyCard

/-- THE SECOND FORM's CARD OF 'paymasterlaw17.VerifyTells'. -/
def verifyTellsUptoCard : Claim7 := { stood := { row := verifyTellsUptoRow, standIns := [], harness := (true, "008eb3dcee44d0f83f0af0c3f28520cbbdadb93de6cda8a7e37baef7518404fb"), looks := false }, kinds := [], alts := [], laidByText := true, laidKinds := [.data, .data, .pinned], laidTests := true, laidLooks := .later }
def VerifyTellsUptoCardSaid : Prop := Claim7.holds Tryz.pinned (.plain (OpenSpec.upto verifyTellsSpec)) verifyTellsUptoCard

/-- THE SECOND FORM's CARD OF 'paymasterlaw19.CollideMany'. -/
def collideManyUptoCard : Claim7 := { stood := { row := collideManyUptoRow, standIns := [], harness := (true, "008eb3dcee44d0f83f0af0c3f28520cbbdadb93de6cda8a7e37baef7518404fb"), looks := false }, kinds := [], alts := [], laidByText := true, laidKinds := [.data, .data, .pinned], laidTests := true, laidLooks := .later }
def CollideManyUptoCardSaid : Prop := Claim7.holds Tryz.pinned (.plain (OpenSpec.upto collideManySpec)) collideManyUptoCard
end Rows
end Go.Proofs.YtlmmpncdemblbaaGreatDoor
