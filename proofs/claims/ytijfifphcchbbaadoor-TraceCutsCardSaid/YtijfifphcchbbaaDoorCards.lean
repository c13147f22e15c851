/-
  DERIVED. GIVEN WITH THE SEED: THE CARDS: each row of YtijfifphcchbbaaDoorRows.lean that lists a variable, with what it lists TIED to the program's text (the seventh form; the later family's looks); each row that meets fmt, with fmt's text TOLD by the authors' own Lean function (tested against real Go, not proved from fmt's source: count such statements apart). THE CARD IS WHAT COUNTS. Prove the row's statement (the work); the ties are given (YtijfifphcchbbaaDoorTie.lean); close each card by the builder's one call (the guide's Derived/Test/ToyasCard.lean, 'card_holds'). Laid BY PROGRAM, IN A SANDBOX (cutbox-door.mjs). By AI agents, Wed Nov 11 2026. No macro, syntax, notation, axiom, sorry.
-/
import Derived.Test.YtijfifphcchbbaaDoorRows
import GoSem.ClaimSeven
namespace Go.Proofs.YtijfifphcchbbaaDoor
namespace Rows

/-- THE TIED CARD OF 'paymasterlaw14.NodeFolds'. -/
def nodeFoldsCard : Claim7 := { stood := { row := nodeFoldsRow, standIns := [], harness := (true, "165769d79d58bfc62aef2440c3d64497f5a859f08bfc759ed4b0f4abe4cad1c8"), looks := true }, kinds := [], alts := [], laidByText := true, laidKinds := [.data], laidTests := true, laidLooks := .later }
def NodeFoldsCardSaid : Prop := Claim7.holds Tryd.pinned (.plain (OpenSpec.ofChange nodeFoldsSpec)) nodeFoldsCard

/-- THE TIED CARD OF 'paymasterlaw14.NodeSums'. -/
def nodeSumsCard : Claim7 := { stood := { row := nodeSumsRow, standIns := [], harness := (true, "165769d79d58bfc62aef2440c3d64497f5a859f08bfc759ed4b0f4abe4cad1c8"), looks := true }, kinds := [], alts := [], laidByText := true, laidKinds := [.data], laidTests := true, laidLooks := .later }
def NodeSumsCardSaid : Prop := Claim7.holds Tryd.pinned (.plain (OpenSpec.ofChange nodeSumsSpec)) nodeSumsCard

/-- THE TIED CARD OF 'paymasterlaw14.NodePlaces'. -/
def nodePlacesCard : Claim7 := { stood := { row := nodePlacesRow, standIns := [], harness := (true, "165769d79d58bfc62aef2440c3d64497f5a859f08bfc759ed4b0f4abe4cad1c8"), looks := true }, kinds := [], alts := [], laidByText := true, laidKinds := [.data], laidTests := true, laidLooks := .later }
def NodePlacesCardSaid : Prop := Claim7.holds Tryd.pinned (.plain (OpenSpec.ofChange nodePlacesSpec)) nodePlacesCard

/-- THE TIED CARD OF 'paymasterlaw14.NodeHalves'. -/
def nodeHalvesCard : Claim7 := { stood := { row := nodeHalvesRow, standIns := [], harness := (true, "165769d79d58bfc62aef2440c3d64497f5a859f08bfc759ed4b0f4abe4cad1c8"), looks := true }, kinds := [], alts := [], laidByText := true, laidKinds := [.data], laidTests := true, laidLooks := .later }
def NodeHalvesCardSaid : Prop := Claim7.holds Tryd.pinned (.plain (OpenSpec.ofChange nodeHalvesSpec)) nodeHalvesCard

/-- THE TIED CARD OF 'paymasterlaw18.TraceNodes'. -/
def traceNodesCard : Claim7 := { stood := { row := traceNodesRow, standIns := [], harness := (true, "165769d79d58bfc62aef2440c3d64497f5a859f08bfc759ed4b0f4abe4cad1c8"), looks := true }, kinds := [], alts := [], laidByText := true, laidKinds := [.data, .data, .pinned], laidTests := true, laidLooks := .later }
def TraceNodesCardSaid : Prop := Claim7.holds Tryd.pinned (.plain (OpenSpec.ofChange traceNodesSpec)) traceNodesCard

/-- THE TIED CARD OF 'paymasterlaw18.TraceCuts'. -/
def traceCutsCard : Claim7 := { stood := { row := traceCutsRow, standIns := [], harness := (true, "165769d79d58bfc62aef2440c3d64497f5a859f08bfc759ed4b0f4abe4cad1c8"), looks := true }, kinds := [], alts := [], laidByText := true, laidKinds := [.data, .data, .pinned], laidTests := true, laidLooks := .later }
def TraceCutsCardSaid : Prop := Claim7.holds Tryd.pinned (.plain (OpenSpec.ofChange traceCutsSpec)) traceCutsCard

/-- THE TIED CARD OF 'paymasterlaw17.VerifyOne'. -/
def verifyOneCard : Claim7 := { stood := { row := verifyOneRow, standIns := [], harness := (true, "165769d79d58bfc62aef2440c3d64497f5a859f08bfc759ed4b0f4abe4cad1c8"), looks := true }, kinds := [], alts := [], laidByText := true, laidKinds := [.data, .data, .pinned], laidTests := true, laidLooks := .later }
def VerifyOneCardSaid : Prop := Claim7.holds Tryd.pinned (.plain (OpenSpec.ofChange verifyOneSpec)) verifyOneCard

/-- THE TIED CARD OF 'paymasterlaw15.TreeNil'. -/
def treeNilCard : Claim7 := { stood := { row := treeNilRow, standIns := [], harness := (true, "165769d79d58bfc62aef2440c3d64497f5a859f08bfc759ed4b0f4abe4cad1c8"), looks := true }, kinds := [], alts := [], laidByText := true, laidKinds := [.data, .data, .pinned], laidTests := true, laidLooks := .later }
def TreeNilCardSaid : Prop := Claim7.holds Tryd.pinned (.plain (OpenSpec.ofChange treeNilSpec)) treeNilCard

/-- THE TIED CARD OF 'paymasterlaw21.RangesChecks'. -/
def rangesChecksCard : Claim7 := { stood := { row := rangesChecksRow, standIns := [], harness := (true, "165769d79d58bfc62aef2440c3d64497f5a859f08bfc759ed4b0f4abe4cad1c8"), looks := true }, kinds := [], alts := [], laidByText := true, laidKinds := [.data, .data], laidTests := true, laidLooks := .later }
def RangesChecksCardSaid : Prop := Claim7.holds Tryd.pinned (.plain (OpenSpec.ofChange rangesChecksSpec)) rangesChecksCard

/-- THE TIED CARD OF 'paymasterlaw15.TreeBuilds'. -/
def treeBuildsCard : Claim7 := { stood := { row := treeBuildsRow, standIns := [], harness := (true, "165769d79d58bfc62aef2440c3d64497f5a859f08bfc759ed4b0f4abe4cad1c8"), looks := true }, kinds := [], alts := [], laidByText := true, laidKinds := [.data, .data, .pinned], laidTests := true, laidLooks := .later }
def TreeBuildsCardSaid : Prop := Claim7.holds Tryd.pinned (.plain (OpenSpec.ofChange treeBuildsSpec)) treeBuildsCard

/-- THE SECOND FORM's CARD OF 'paymasterlaw14.NodeFolds'. -/
def nodeFoldsUptoCard : Claim7 := { stood := { row := nodeFoldsUptoRow, standIns := [], harness := (true, "165769d79d58bfc62aef2440c3d64497f5a859f08bfc759ed4b0f4abe4cad1c8"), looks := true }, kinds := [], alts := [], laidByText := true, laidKinds := [.data], laidTests := true, laidLooks := .later }
def NodeFoldsUptoCardSaid : Prop := Claim7.holds Tryd.pinned (.plain (OpenSpec.upto nodeFoldsSpec)) nodeFoldsUptoCard

/-- THE SECOND FORM's CARD OF 'paymasterlaw14.NodeSums'. -/
def nodeSumsUptoCard : Claim7 := { stood := { row := nodeSumsUptoRow, standIns := [], harness := (true, "165769d79d58bfc62aef2440c3d64497f5a859f08bfc759ed4b0f4abe4cad1c8"), looks := true }, kinds := [], alts := [], laidByText := true, laidKinds := [.data], laidTests := true, laidLooks := .later }
def NodeSumsUptoCardSaid : Prop := Claim7.holds Tryd.pinned (.plain (OpenSpec.upto nodeSumsSpec)) nodeSumsUptoCard

/-- THE SECOND FORM's CARD OF 'paymasterlaw14.NodePlaces'. -/
def nodePlacesUptoCard : Claim7 := { stood := { row := nodePlacesUptoRow, standIns := [], harness := (true, "165769d79d58bfc62aef2440c3d64497f5a859f08bfc759ed4b0f4abe4cad1c8"), looks := true }, kinds := [], alts := [], laidByText := true, laidKinds := [.data], laidTests := true, laidLooks := .later }
def NodePlacesUptoCardSaid : Prop := Claim7.holds Tryd.pinned (.plain (OpenSpec.upto nodePlacesSpec)) nodePlacesUptoCard

/-- THE SECOND FORM's CARD OF 'paymasterlaw14.NodeHalves'. -/
def nodeHalvesUptoCard : Claim7 := { stood := { row := nodeHalvesUptoRow, standIns := [], harness := (true, "165769d79d58bfc62aef2440c3d64497f5a859f08bfc759ed4b0f4abe4cad1c8"), looks := true }, kinds := [], alts := [], laidByText := true, laidKinds := [.data], laidTests := true, laidLooks := .later }
def NodeHalvesUptoCardSaid : Prop := Claim7.holds Tryd.pinned (.plain (OpenSpec.upto nodeHalvesSpec)) nodeHalvesUptoCard

/-- THE SECOND FORM's CARD OF 'paymasterlaw18.TraceNodes'. -/
def traceNodesUptoCard : Claim7 := { stood := { row := traceNodesUptoRow, standIns := [], harness := (true, "165769d79d58bfc62aef2440c3d64497f5a859f08bfc759ed4b0f4abe4cad1c8"), looks := true }, kinds := [], alts := [], laidByText := true, laidKinds := [.data, .data, .pinned], laidTests := true, laidLooks := .later }
def TraceNodesUptoCardSaid : Prop := Claim7.holds Tryd.pinned (.plain (OpenSpec.upto traceNodesSpec)) traceNodesUptoCard

/-- THE SECOND FORM's CARD OF 'paymasterlaw18.TraceCuts'. -/
def traceCutsUptoCard : Claim7 := { stood := { row := traceCutsUptoRow, standIns := [], harness := (true, "165769d79d58bfc62aef2440c3d64497f5a859f08bfc759ed4b0f4abe4cad1c8"), looks := true }, kinds := [], alts := [], laidByText := true, laidKinds := [.data, .data, .pinned], laidTests := true, laidLooks := .later }
def TraceCutsUptoCardSaid : Prop := Claim7.holds Tryd.pinned (.plain (OpenSpec.upto traceCutsSpec)) traceCutsUptoCard

/-- THE SECOND FORM's CARD OF 'paymasterlaw17.VerifyOne'. -/
def verifyOneUptoCard : Claim7 := { stood := { row := verifyOneUptoRow, standIns := [], harness := (true, "165769d79d58bfc62aef2440c3d64497f5a859f08bfc759ed4b0f4abe4cad1c8"), looks := true }, kinds := [], alts := [], laidByText := true, laidKinds := [.data, .data, .pinned], laidTests := true, laidLooks := .later }
def VerifyOneUptoCardSaid : Prop := Claim7.holds Tryd.pinned (.plain (OpenSpec.upto verifyOneSpec)) verifyOneUptoCard

/-- THE SECOND FORM's CARD OF 'paymasterlaw15.TreeNil'. -/
def treeNilUptoCard : Claim7 := { stood := { row := treeNilUptoRow, standIns := [], harness := (true, "165769d79d58bfc62aef2440c3d64497f5a859f08bfc759ed4b0f4abe4cad1c8"), looks := true }, kinds := [], alts := [], laidByText := true, laidKinds := [.data, .data, .pinned], laidTests := true, laidLooks := .later }
def TreeNilUptoCardSaid : Prop := Claim7.holds Tryd.pinned (.plain (OpenSpec.upto treeNilSpec)) treeNilUptoCard

/-- THE SECOND FORM's CARD OF 'paymasterlaw21.RangesChecks'. -/
def rangesChecksUptoCard : Claim7 := { stood := { row := rangesChecksUptoRow, standIns := [], harness := (true, "165769d79d58bfc62aef2440c3d64497f5a859f08bfc759ed4b0f4abe4cad1c8"), looks := true }, kinds := [], alts := [], laidByText := true, laidKinds := [.data, .data], laidTests := true, laidLooks := .later }
def RangesChecksUptoCardSaid : Prop := Claim7.holds Tryd.pinned (.plain (OpenSpec.upto rangesChecksSpec)) rangesChecksUptoCard

/-- THE SECOND FORM's CARD OF 'paymasterlaw15.TreeBuilds'. -/
def treeBuildsUptoCard : Claim7 := { stood := { row := treeBuildsUptoRow, standIns := [], harness := (true, "165769d79d58bfc62aef2440c3d64497f5a859f08bfc759ed4b0f4abe4cad1c8"), looks := true }, kinds := [], alts := [], laidByText := true, laidKinds := [.data, .data, .pinned], laidTests := true, laidLooks := .later }
def TreeBuildsUptoCardSaid : Prop := Claim7.holds Tryd.pinned (.plain (OpenSpec.upto treeBuildsSpec)) treeBuildsUptoCard
end Rows
end Go.Proofs.YtijfifphcchbbaaDoor
