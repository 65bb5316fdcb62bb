/-
  DERIVED. GIVEN WITH THE SEED: THE CARDS: each row of YthpgbhpnlnpfnaaDoorRows.lean that lists a variable, with what it lists TIED to the program's text (the seventh form; the later family's looks); each row that meets fmt, with fmt's text TOLD by the authors' own Lean function (tested against real Go, not proved from fmt's source: count such statements apart). THE CARD IS WHAT COUNTS. Prove the row's statement (the work); the ties are given (YthpgbhpnlnpfnaaDoorTie.lean); close each card by the builder's one call (the guide's Derived/Test/ToyasCard.lean, 'card_holds'). Laid BY PROGRAM, IN A SANDBOX (cutbox-door.mjs). By AI agents, Wed Nov 11 2026. No macro, syntax, notation, axiom, sorry.
-/
import Derived.Test.YthpgbhpnlnpfnaaDoorRows
import GoSem.ClaimSeven
namespace Go.Proofs.YthpgbhpnlnpfnaaDoor
namespace Rows

/-- THE TIED CARD OF 'hypogeumlaw21.NodeFaults'. -/
def nodeFaultsCard : Claim7 := { stood := { row := nodeFaultsRow, standIns := [], harness := (true, "34c1fbe6964187a215477d62143f8454b2f9c8c647281a315e10afe742bea11d"), looks := false }, kinds := [], alts := [], laidByText := true, laidKinds := [.data, .pinned], laidTests := true, laidLooks := .later }
def NodeFaultsCardSaid : Prop := Claim7.holds Tryd.pinned (.plain (OpenSpec.ofChange nodeFaultsSpec)) nodeFaultsCard

/-- THE TIED CARD OF 'hypogeumlaw21.NodeNames'. -/
def nodeNamesCard : Claim7 := { stood := { row := nodeNamesRow, standIns := [], harness := (true, "34c1fbe6964187a215477d62143f8454b2f9c8c647281a315e10afe742bea11d"), looks := false }, kinds := [], alts := [], laidByText := true, laidKinds := [.data, .pinned], laidTests := true, laidLooks := .later }
def NodeNamesCardSaid : Prop := Claim7.holds Tryd.pinned (.plain (OpenSpec.ofChange nodeNamesSpec)) nodeNamesCard

/-- THE TIED CARD OF 'hypogeumlaw21.NodeCopies'. -/
def nodeCopiesCard : Claim7 := { stood := { row := nodeCopiesRow, standIns := [], harness := (true, "34c1fbe6964187a215477d62143f8454b2f9c8c647281a315e10afe742bea11d"), looks := false }, kinds := [], alts := [], laidByText := true, laidKinds := [.data, .pinned], laidTests := true, laidLooks := .later }
def NodeCopiesCardSaid : Prop := Claim7.holds Tryd.pinned (.plain (OpenSpec.ofChange nodeCopiesSpec)) nodeCopiesCard

/-- THE TIED CARD OF 'hypogeumlaw21.NodeSame'. -/
def nodeSameCard : Claim7 := { stood := { row := nodeSameRow, standIns := [], harness := (true, "34c1fbe6964187a215477d62143f8454b2f9c8c647281a315e10afe742bea11d"), looks := false }, kinds := [], alts := [], laidByText := true, laidKinds := [.data, .pinned], laidTests := true, laidLooks := .later }
def NodeSameCardSaid : Prop := Claim7.holds Tryd.pinned (.plain (OpenSpec.ofChange nodeSameSpec)) nodeSameCard

/-- THE TIED CARD OF 'hypogeumlaw21.NodeFinds'. -/
def nodeFindsCard : Claim7 := { stood := { row := nodeFindsRow, standIns := [], harness := (true, "34c1fbe6964187a215477d62143f8454b2f9c8c647281a315e10afe742bea11d"), looks := false }, kinds := [], alts := [], laidByText := true, laidKinds := [.data, .pinned], laidTests := true, laidLooks := .later }
def NodeFindsCardSaid : Prop := Claim7.holds Tryd.pinned (.plain (OpenSpec.ofChange nodeFindsSpec)) nodeFindsCard

/-- THE TIED CARD OF 'hypogeumlaw21.NodePaths'. -/
def nodePathsCard : Claim7 := { stood := { row := nodePathsRow, standIns := [], harness := (true, "34c1fbe6964187a215477d62143f8454b2f9c8c647281a315e10afe742bea11d"), looks := false }, kinds := [], alts := [], laidByText := true, laidKinds := [.data, .pinned], laidTests := true, laidLooks := .later }
def NodePathsCardSaid : Prop := Claim7.holds Tryd.pinned (.plain (OpenSpec.ofChange nodePathsSpec)) nodePathsCard

/-- THE TIED CARD OF 'hypogeumlaw21.NodeFolders'. -/
def nodeFoldersCard : Claim7 := { stood := { row := nodeFoldersRow, standIns := [], harness := (true, "34c1fbe6964187a215477d62143f8454b2f9c8c647281a315e10afe742bea11d"), looks := false }, kinds := [], alts := [], laidByText := true, laidKinds := [.data, .pinned], laidTests := true, laidLooks := .later }
def NodeFoldersCardSaid : Prop := Claim7.holds Tryd.pinned (.plain (OpenSpec.ofChange nodeFoldersSpec)) nodeFoldersCard

/-- THE TIED CARD OF 'hypogeumlaw21.NodeBack'. -/
def nodeBackCard : Claim7 := { stood := { row := nodeBackRow, standIns := [], harness := (true, "34c1fbe6964187a215477d62143f8454b2f9c8c647281a315e10afe742bea11d"), looks := false }, kinds := [], alts := [], laidByText := true, laidKinds := [.data, .pinned], laidTests := true, laidLooks := .later }
def NodeBackCardSaid : Prop := Claim7.holds Tryd.pinned (.plain (OpenSpec.ofChange nodeBackSpec)) nodeBackCard

/-- THE SECOND FORM's CARD OF 'hypogeumlaw21.NodeFaults'. -/
def nodeFaultsUptoCard : Claim7 := { stood := { row := nodeFaultsUptoRow, standIns := [], harness := (true, "34c1fbe6964187a215477d62143f8454b2f9c8c647281a315e10afe742bea11d"), looks := false }, kinds := [], alts := [], laidByText := true, laidKinds := [.data, .pinned], laidTests := true, laidLooks := .later }
def NodeFaultsUptoCardSaid : Prop := Claim7.holds Tryd.pinned (.plain (OpenSpec.upto nodeFaultsSpec)) nodeFaultsUptoCard

/-- THE SECOND FORM's CARD OF 'hypogeumlaw21.NodeNames'. -/
def nodeNamesUptoCard : Claim7 := { stood := { row := nodeNamesUptoRow, standIns := [], harness := (true, "34c1fbe6964187a215477d62143f8454b2f9c8c647281a315e10afe742bea11d"), looks := false }, kinds := [], alts := [], laidByText := true, laidKinds := [.data, .pinned], laidTests := true, laidLooks := .later }
def NodeNamesUptoCardSaid : Prop := Claim7.holds Tryd.pinned (.plain (OpenSpec.upto nodeNamesSpec)) nodeNamesUptoCard

/-- THE SECOND FORM's CARD OF 'hypogeumlaw21.NodeCopies'. -/
def nodeCopiesUptoCard : Claim7 := { stood := { row := nodeCopiesUptoRow, standIns := [], harness := (true, "34c1fbe6964187a215477d62143f8454b2f9c8c647281a315e10afe742bea11d"), looks := false }, kinds := [], alts := [], laidByText := true, laidKinds := [.data, .pinned], laidTests := true, laidLooks := .later }
def NodeCopiesUptoCardSaid : Prop := Claim7.holds Tryd.pinned (.plain (OpenSpec.upto nodeCopiesSpec)) nodeCopiesUptoCard

/-- THE SECOND FORM's CARD OF 'hypogeumlaw21.NodeSame'. -/
def nodeSameUptoCard : Claim7 := { stood := { row := nodeSameUptoRow, standIns := [], harness := (true, "34c1fbe6964187a215477d62143f8454b2f9c8c647281a315e10afe742bea11d"), looks := false }, kinds := [], alts := [], laidByText := true, laidKinds := [.data, .pinned], laidTests := true, laidLooks := .later }
def NodeSameUptoCardSaid : Prop := Claim7.holds Tryd.pinned (.plain (OpenSpec.upto nodeSameSpec)) nodeSameUptoCard

/-- THE SECOND FORM's CARD OF 'hypogeumlaw21.NodeFinds'. -/
def nodeFindsUptoCard : Claim7 := { stood := { row := nodeFindsUptoRow, standIns := [], harness := (true, "34c1fbe6964187a215477d62143f8454b2f9c8c647281a315e10afe742bea11d"), looks := false }, kinds := [], alts := [], laidByText := true, laidKinds := [.data, .pinned], laidTests := true, laidLooks := .later }
def NodeFindsUptoCardSaid : Prop := Claim7.holds Tryd.pinned (.plain (OpenSpec.upto nodeFindsSpec)) nodeFindsUptoCard

/-- THE SECOND FORM's CARD OF 'hypogeumlaw21.NodePaths'. -/
def nodePathsUptoCard : Claim7 := { stood := { row := nodePathsUptoRow, standIns := [], harness := (true, "34c1fbe6964187a215477d62143f8454b2f9c8c647281a315e10afe742bea11d"), looks := false }, kinds := [], alts := [], laidByText := true, laidKinds := [.data, .pinned], laidTests := true, laidLooks := .later }
def NodePathsUptoCardSaid : Prop := Claim7.holds Tryd.pinned (.plain (OpenSpec.upto nodePathsSpec)) nodePathsUptoCard

/-- THE SECOND FORM's CARD OF 'hypogeumlaw21.NodeFolders'. -/
def nodeFoldersUptoCard : Claim7 := { stood := { row := nodeFoldersUptoRow, standIns := [], harness := (true, "34c1fbe6964187a215477d62143f8454b2f9c8c647281a315e10afe742bea11d"), looks := false }, kinds := [], alts := [], laidByText := true, laidKinds := [.data, .pinned], laidTests := true, laidLooks := .later }
def NodeFoldersUptoCardSaid : Prop := Claim7.holds Tryd.pinned (.plain (OpenSpec.upto nodeFoldersSpec)) nodeFoldersUptoCard

/-- THE SECOND FORM's CARD OF 'hypogeumlaw21.NodeBack'. -/
def nodeBackUptoCard : Claim7 := { stood := { row := nodeBackUptoRow, standIns := [], harness := (true, "34c1fbe6964187a215477d62143f8454b2f9c8c647281a315e10afe742bea11d"), looks := false }, kinds := [], alts := [], laidByText := true, laidKinds := [.data, .pinned], laidTests := true, laidLooks := .later }
def NodeBackUptoCardSaid : Prop := Claim7.holds Tryd.pinned (.plain (OpenSpec.upto nodeBackSpec)) nodeBackUptoCard
end Rows
end Go.Proofs.YthpgbhpnlnpfnaaDoor
