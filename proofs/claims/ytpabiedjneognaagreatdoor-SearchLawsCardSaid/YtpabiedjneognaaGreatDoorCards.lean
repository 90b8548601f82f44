/-
  DERIVED. GIVEN WITH THE SEED: THE CARDS: each row of YtpabiedjneognaaGreatDoorRows.lean that lists a variable, with what it lists TIED to the program's text (the seventh form; the later family's looks); each row that meets fmt, with fmt's text TOLD by the authors' own Lean function (tested against real Go, not proved from fmt's source: count such statements apart). THE CARD IS WHAT COUNTS. Prove the row's statement (the work); the ties are given (YtpabiedjneognaaGreatDoorTie.lean); close each card by the builder's one call (the guide's Derived/Test/ToyasCard.lean, 'card_holds'). Laid BY PROGRAM, IN A SANDBOX (cutbox-door.mjs). By AI agents, Wed Nov 11 2026. No macro, syntax, notation, axiom, sorry.
-/
import Derived.Test.YtpabiedjneognaaGreatDoorRows
import GoSem.ClaimSeven
namespace Go.Proofs.YtpabiedjneognaaGreatDoor
namespace Rows

/-- THE TIED CARD OF 'forethoughtlaw06.SearchOptimal'. -/
def searchOptimalCard : Claim7 := { stood := { row := searchOptimalRow, standIns := [], harness := (true, "4b5b9ffcc6f8df805ecff25f1710d253db95cba1634782edf60db549af1a9c7c"), looks := true }, kinds := [], alts := [], laidByText := true, laidKinds := [.data, .data, .data], laidTests := true, laidLooks := .later }
def SearchOptimalCardSaid : Prop := Claim7.holds Tryz.pinned (.plain (OpenSpec.ofChange searchOptimalSpec)) searchOptimalCard

/-- THE TIED CARD OF 'forethoughtlaw06.SearchGuided'. -/
def searchGuidedCard : Claim7 := { stood := { row := searchGuidedRow, standIns := [], harness := (true, "4b5b9ffcc6f8df805ecff25f1710d253db95cba1634782edf60db549af1a9c7c"), looks := true }, kinds := [], alts := [], laidByText := true, laidKinds := [.data, .data, .data], laidTests := true, laidLooks := .later }
def SearchGuidedCardSaid : Prop := Claim7.holds Tryz.pinned (.plain (OpenSpec.ofChange searchGuidedSpec)) searchGuidedCard

/-- THE TIED CARD OF 'forethoughtlaw06.SearchStates'. -/
def searchStatesCard : Claim7 := { stood := { row := searchStatesRow, standIns := [], harness := (true, "4b5b9ffcc6f8df805ecff25f1710d253db95cba1634782edf60db549af1a9c7c"), looks := true }, kinds := [], alts := [], laidByText := true, laidKinds := [.data, .data, .data], laidTests := true, laidLooks := .later }
def SearchStatesCardSaid : Prop := Claim7.holds Tryz.pinned (.plain (OpenSpec.ofChange searchStatesSpec)) searchStatesCard

/-- THE TIED CARD OF 'forethoughtlaw06.SearchOwn'. -/
def searchOwnCard : Claim7 := { stood := { row := searchOwnRow, standIns := [], harness := (true, "4b5b9ffcc6f8df805ecff25f1710d253db95cba1634782edf60db549af1a9c7c"), looks := true }, kinds := [], alts := [], laidByText := true, laidKinds := [.data, .data, .data], laidTests := true, laidLooks := .later }
def SearchOwnCardSaid : Prop := Claim7.holds Tryz.pinned (.plain (OpenSpec.ofChange searchOwnSpec)) searchOwnCard

/-- THE TIED CARD OF 'forethoughtlaw06.SearchLaws'. -/
def searchLawsCard : Claim7 := { stood := { row := searchLawsRow, standIns := [], harness := (true, "4b5b9ffcc6f8df805ecff25f1710d253db95cba1634782edf60db549af1a9c7c"), looks := true }, kinds := [], alts := [], laidByText := true, laidKinds := [.data, .data, .data], laidTests := true, laidLooks := .later }
def SearchLawsCardSaid : Prop := Claim7.holds Tryz.pinned (.plain (OpenSpec.ofChange searchLawsSpec)) searchLawsCard

/-- THE SECOND FORM's CARD OF 'forethoughtlaw06.SearchOptimal'. -/
def searchOptimalUptoCard : Claim7 := { stood := { row := searchOptimalUptoRow, standIns := [], harness := (true, "4b5b9ffcc6f8df805ecff25f1710d253db95cba1634782edf60db549af1a9c7c"), looks := true }, kinds := [], alts := [], laidByText := true, laidKinds := [.data, .data, .data], laidTests := true, laidLooks := .later }
def SearchOptimalUptoCardSaid : Prop := Claim7.holds Tryz.pinned (.plain (OpenSpec.upto searchOptimalSpec)) searchOptimalUptoCard

/-- THE SECOND FORM's CARD OF 'forethoughtlaw06.SearchGuided'. -/
def searchGuidedUptoCard : Claim7 := { stood := { row := searchGuidedUptoRow, standIns := [], harness := (true, "4b5b9ffcc6f8df805ecff25f1710d253db95cba1634782edf60db549af1a9c7c"), looks := true }, kinds := [], alts := [], laidByText := true, laidKinds := [.data, .data, .data], laidTests := true, laidLooks := .later }
def SearchGuidedUptoCardSaid : Prop := Claim7.holds Tryz.pinned (.plain (OpenSpec.upto searchGuidedSpec)) searchGuidedUptoCard

/-- THE SECOND FORM's CARD OF 'forethoughtlaw06.SearchStates'. -/
def searchStatesUptoCard : Claim7 := { stood := { row := searchStatesUptoRow, standIns := [], harness := (true, "4b5b9ffcc6f8df805ecff25f1710d253db95cba1634782edf60db549af1a9c7c"), looks := true }, kinds := [], alts := [], laidByText := true, laidKinds := [.data, .data, .data], laidTests := true, laidLooks := .later }
def SearchStatesUptoCardSaid : Prop := Claim7.holds Tryz.pinned (.plain (OpenSpec.upto searchStatesSpec)) searchStatesUptoCard

/-- THE SECOND FORM's CARD OF 'forethoughtlaw06.SearchOwn'. -/
def searchOwnUptoCard : Claim7 := { stood := { row := searchOwnUptoRow, standIns := [], harness := (true, "4b5b9ffcc6f8df805ecff25f1710d253db95cba1634782edf60db549af1a9c7c"), looks := true }, kinds := [], alts := [], laidByText := true, laidKinds := [.data, .data, .data], laidTests := true, laidLooks := .later }
def SearchOwnUptoCardSaid : Prop := Claim7.holds Tryz.pinned (.plain (OpenSpec.upto searchOwnSpec)) searchOwnUptoCard

/-- THE SECOND FORM's CARD OF 'forethoughtlaw06.SearchLaws'. -/
def searchLawsUptoCard : Claim7 := { stood := { row := searchLawsUptoRow, standIns := [], harness := (true, "4b5b9ffcc6f8df805ecff25f1710d253db95cba1634782edf60db549af1a9c7c"), looks := true }, kinds := [], alts := [], laidByText := true, laidKinds := [.data, .data, .data], laidTests := true, laidLooks := .later }
def SearchLawsUptoCardSaid : Prop := Claim7.holds Tryz.pinned (.plain (OpenSpec.upto searchLawsSpec)) searchLawsUptoCard
end Rows
end Go.Proofs.YtpabiedjneognaaGreatDoor
