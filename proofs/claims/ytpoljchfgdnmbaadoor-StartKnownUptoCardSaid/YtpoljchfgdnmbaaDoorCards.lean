/-
  DERIVED. GIVEN WITH THE SEED: THE CARDS: each row of YtpoljchfgdnmbaaDoorRows.lean that lists a variable, with what it lists TIED to the program's text (the seventh form; the later family's looks); each row that meets fmt, with fmt's text TOLD by the authors' own Lean function (tested against real Go, not proved from fmt's source: count such statements apart). THE CARD IS WHAT COUNTS. Prove the row's statement (the work); the ties are given (YtpoljchfgdnmbaaDoorTie.lean); close each card by the builder's one call (the guide's Derived/Test/ToyasCard.lean, 'card_holds'). Laid BY PROGRAM, IN A SANDBOX (cutbox-door.mjs). By AI agents, Wed Nov 11 2026. No macro, syntax, notation, axiom, sorry.
-/
import Derived.Test.YtpoljchfgdnmbaaDoorRows
import GoSem.ClaimSeven
namespace Go.Proofs.YtpoljchfgdnmbaaDoor
namespace Rows

/-- THE TIED CARD OF 'tollhouselaw06.StartRequests'. -/
def startRequestsCard : Claim7 := { stood := { row := startRequestsRow, standIns := [], harness := (true, "c65f0a6b8e4f3963c2bb34e4e07abf6707fabeda3c7a2012315864d26b969c34"), looks := true }, kinds := [], alts := [], laidByText := true, laidKinds := [.data, .data, .data, .data, .sentinel, .sentinel, .pinned], laidTests := true, laidLooks := .later }
def StartRequestsCardSaid : Prop := Claim7.holds Tryd.pinned (.plain (OpenSpec.ofChange startRequestsSpec)) startRequestsCard

/-- THE TIED CARD OF 'tollhouselaw06.StartStatuses'. -/
def startStatusesCard : Claim7 := { stood := { row := startStatusesRow, standIns := [], harness := (true, "c65f0a6b8e4f3963c2bb34e4e07abf6707fabeda3c7a2012315864d26b969c34"), looks := true }, kinds := [], alts := [], laidByText := true, laidKinds := [.data, .data, .data, .data, .sentinel, .sentinel, .pinned], laidTests := true, laidLooks := .later }
def StartStatusesCardSaid : Prop := Claim7.holds Tryd.pinned (.plain (OpenSpec.ofChange startStatusesSpec)) startStatusesCard

/-- THE TIED CARD OF 'tollhouselaw06.StartBack'. -/
def startBackCard : Claim7 := { stood := { row := startBackRow, standIns := [], harness := (true, "c65f0a6b8e4f3963c2bb34e4e07abf6707fabeda3c7a2012315864d26b969c34"), looks := true }, kinds := [], alts := [], laidByText := true, laidKinds := [.data, .data, .data, .data, .sentinel, .sentinel, .pinned], laidTests := true, laidLooks := .later }
def StartBackCardSaid : Prop := Claim7.holds Tryd.pinned (.plain (OpenSpec.ofChange startBackSpec)) startBackCard

/-- THE TIED CARD OF 'tollhouselaw06.StartKnown'. -/
def startKnownCard : Claim7 := { stood := { row := startKnownRow, standIns := [], harness := (true, "c65f0a6b8e4f3963c2bb34e4e07abf6707fabeda3c7a2012315864d26b969c34"), looks := true }, kinds := [], alts := [], laidByText := true, laidKinds := [.data, .data, .data, .data, .sentinel, .sentinel, .pinned], laidTests := true, laidLooks := .later }
def StartKnownCardSaid : Prop := Claim7.holds Tryd.pinned (.plain (OpenSpec.ofChange startKnownSpec)) startKnownCard

/-- THE SECOND FORM's CARD OF 'tollhouselaw06.StartRequests'. -/
def startRequestsUptoCard : Claim7 := { stood := { row := startRequestsUptoRow, standIns := [], harness := (true, "c65f0a6b8e4f3963c2bb34e4e07abf6707fabeda3c7a2012315864d26b969c34"), looks := true }, kinds := [], alts := [], laidByText := true, laidKinds := [.data, .data, .data, .data, .sentinel, .sentinel, .pinned], laidTests := true, laidLooks := .later }
def StartRequestsUptoCardSaid : Prop := Claim7.holds Tryd.pinned (.plain (OpenSpec.upto startRequestsSpec)) startRequestsUptoCard

/-- THE SECOND FORM's CARD OF 'tollhouselaw06.StartStatuses'. -/
def startStatusesUptoCard : Claim7 := { stood := { row := startStatusesUptoRow, standIns := [], harness := (true, "c65f0a6b8e4f3963c2bb34e4e07abf6707fabeda3c7a2012315864d26b969c34"), looks := true }, kinds := [], alts := [], laidByText := true, laidKinds := [.data, .data, .data, .data, .sentinel, .sentinel, .pinned], laidTests := true, laidLooks := .later }
def StartStatusesUptoCardSaid : Prop := Claim7.holds Tryd.pinned (.plain (OpenSpec.upto startStatusesSpec)) startStatusesUptoCard

/-- THE SECOND FORM's CARD OF 'tollhouselaw06.StartBack'. -/
def startBackUptoCard : Claim7 := { stood := { row := startBackUptoRow, standIns := [], harness := (true, "c65f0a6b8e4f3963c2bb34e4e07abf6707fabeda3c7a2012315864d26b969c34"), looks := true }, kinds := [], alts := [], laidByText := true, laidKinds := [.data, .data, .data, .data, .sentinel, .sentinel, .pinned], laidTests := true, laidLooks := .later }
def StartBackUptoCardSaid : Prop := Claim7.holds Tryd.pinned (.plain (OpenSpec.upto startBackSpec)) startBackUptoCard

/-- THE SECOND FORM's CARD OF 'tollhouselaw06.StartKnown'. -/
def startKnownUptoCard : Claim7 := { stood := { row := startKnownUptoRow, standIns := [], harness := (true, "c65f0a6b8e4f3963c2bb34e4e07abf6707fabeda3c7a2012315864d26b969c34"), looks := true }, kinds := [], alts := [], laidByText := true, laidKinds := [.data, .data, .data, .data, .sentinel, .sentinel, .pinned], laidTests := true, laidLooks := .later }
def StartKnownUptoCardSaid : Prop := Claim7.holds Tryd.pinned (.plain (OpenSpec.upto startKnownSpec)) startKnownUptoCard
end Rows
end Go.Proofs.YtpoljchfgdnmbaaDoor
