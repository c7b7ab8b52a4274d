/-
  DERIVED. GIVEN WITH THE SEED: THE CARDS: each row of YthmnhbalmglohaaGreatDoorRows.lean that lists a variable, with what it lists TIED to the program's text (the seventh form; the later family's looks); each row that meets fmt, with fmt's text TOLD by the authors' own Lean function (tested against real Go, not proved from fmt's source: count such statements apart). THE CARD IS WHAT COUNTS. Prove the row's statement (the work); the ties are given (YthmnhbalmglohaaGreatDoorTie.lean); close each card by the builder's one call (the guide's Derived/Test/ToyasCard.lean, 'card_holds'). Laid BY PROGRAM, IN A SANDBOX (cutbox-door.mjs). By AI agents, Wed Nov 11 2026. No macro, syntax, notation, axiom, sorry.
-/
import Derived.Test.YthmnhbalmglohaaGreatDoorRows
import GoSem.ClaimSeven
namespace Go.Proofs.YthmnhbalmglohaaGreatDoor
namespace Rows

/-- THE TIED CARD OF 'tollhouselaw15.AuthConfigs'. -/
def authConfigsCard : Claim7 := { stood := { row := authConfigsRow, standIns := [], harness := (true, "9358c2cdb9fd3b34483533bed24dffd46d7d1a663027b3396ad723d6e7077753"), looks := true }, kinds := [], alts := [], laidByText := true, laidKinds := [.data, .data, .data, .data, .sentinel, .sentinel, .pinned], laidTests := true, laidLooks := .later }
def AuthConfigsCardSaid : Prop := Claim7.holds Tryz.pinned (.plain (OpenSpec.ofChange authConfigsSpec)) authConfigsCard

/-- THE TIED CARD OF 'tollhouselaw15.AuthHolds'. -/
def authHoldsCard : Claim7 := { stood := { row := authHoldsRow, standIns := [], harness := (true, "9358c2cdb9fd3b34483533bed24dffd46d7d1a663027b3396ad723d6e7077753"), looks := true }, kinds := [], alts := [], laidByText := true, laidKinds := [.data, .data, .data, .data, .sentinel, .sentinel, .pinned], laidTests := true, laidLooks := .later }
def AuthHoldsCardSaid : Prop := Claim7.holds Tryz.pinned (.plain (OpenSpec.ofChange authHoldsSpec)) authHoldsCard

/-- THE TIED CARD OF 'tollhouselaw15.AuthApart'. -/
def authApartCard : Claim7 := { stood := { row := authApartRow, standIns := [], harness := (true, "9358c2cdb9fd3b34483533bed24dffd46d7d1a663027b3396ad723d6e7077753"), looks := true }, kinds := [], alts := [], laidByText := true, laidKinds := [.data, .data, .data, .data, .sentinel, .sentinel, .pinned], laidTests := true, laidLooks := .later }
def AuthApartCardSaid : Prop := Claim7.holds Tryz.pinned (.plain (OpenSpec.ofChange authApartSpec)) authApartCard

/-- THE TIED CARD OF 'tollhouselaw15.AuthLess'. -/
def authLessCard : Claim7 := { stood := { row := authLessRow, standIns := [], harness := (true, "9358c2cdb9fd3b34483533bed24dffd46d7d1a663027b3396ad723d6e7077753"), looks := true }, kinds := [], alts := [], laidByText := true, laidKinds := [.data, .data, .data, .data, .sentinel, .sentinel, .pinned], laidTests := true, laidLooks := .later }
def AuthLessCardSaid : Prop := Claim7.holds Tryz.pinned (.plain (OpenSpec.ofChange authLessSpec)) authLessCard

/-- THE TIED CARD OF 'tollhouselaw15.AuthKnown'. -/
def authKnownCard : Claim7 := { stood := { row := authKnownRow, standIns := [], harness := (true, "9358c2cdb9fd3b34483533bed24dffd46d7d1a663027b3396ad723d6e7077753"), looks := true }, kinds := [], alts := [], laidByText := true, laidKinds := [.data, .data, .data, .data, .sentinel, .sentinel, .pinned], laidTests := true, laidLooks := .later }
def AuthKnownCardSaid : Prop := Claim7.holds Tryz.pinned (.plain (OpenSpec.ofChange authKnownSpec)) authKnownCard

/-- THE TIED CARD OF 'tollhouselaw15.AuthOne'. -/
def authOneCard : Claim7 := { stood := { row := authOneRow, standIns := [], harness := (true, "9358c2cdb9fd3b34483533bed24dffd46d7d1a663027b3396ad723d6e7077753"), looks := true }, kinds := [], alts := [], laidByText := true, laidKinds := [.data, .data, .data, .data, .sentinel, .sentinel, .pinned], laidTests := true, laidLooks := .later }
def AuthOneCardSaid : Prop := Claim7.holds Tryz.pinned (.plain (OpenSpec.ofChange authOneSpec)) authOneCard

/-- THE SECOND FORM's CARD OF 'tollhouselaw15.AuthConfigs'. -/
def authConfigsUptoCard : Claim7 := { stood := { row := authConfigsUptoRow, standIns := [], harness := (true, "9358c2cdb9fd3b34483533bed24dffd46d7d1a663027b3396ad723d6e7077753"), looks := true }, kinds := [], alts := [], laidByText := true, laidKinds := [.data, .data, .data, .data, .sentinel, .sentinel, .pinned], laidTests := true, laidLooks := .later }
def AuthConfigsUptoCardSaid : Prop := Claim7.holds Tryz.pinned (.plain (OpenSpec.upto authConfigsSpec)) authConfigsUptoCard

/-- THE SECOND FORM's CARD OF 'tollhouselaw15.AuthHolds'. -/
def authHoldsUptoCard : Claim7 := { stood := { row := authHoldsUptoRow, standIns := [], harness := (true, "9358c2cdb9fd3b34483533bed24dffd46d7d1a663027b3396ad723d6e7077753"), looks := true }, kinds := [], alts := [], laidByText := true, laidKinds := [.data, .data, .data, .data, .sentinel, .sentinel, .pinned], laidTests := true, laidLooks := .later }
def AuthHoldsUptoCardSaid : Prop := Claim7.holds Tryz.pinned (.plain (OpenSpec.upto authHoldsSpec)) authHoldsUptoCard

/-- THE SECOND FORM's CARD OF 'tollhouselaw15.AuthApart'. -/
def authApartUptoCard : Claim7 := { stood := { row := authApartUptoRow, standIns := [], harness := (true, "9358c2cdb9fd3b34483533bed24dffd46d7d1a663027b3396ad723d6e7077753"), looks := true }, kinds := [], alts := [], laidByText := true, laidKinds := [.data, .data, .data, .data, .sentinel, .sentinel, .pinned], laidTests := true, laidLooks := .later }
def AuthApartUptoCardSaid : Prop := Claim7.holds Tryz.pinned (.plain (OpenSpec.upto authApartSpec)) authApartUptoCard

/-- THE SECOND FORM's CARD OF 'tollhouselaw15.AuthLess'. -/
def authLessUptoCard : Claim7 := { stood := { row := authLessUptoRow, standIns := [], harness := (true, "9358c2cdb9fd3b34483533bed24dffd46d7d1a663027b3396ad723d6e7077753"), looks := true }, kinds := [], alts := [], laidByText := true, laidKinds := [.data, .data, .data, .data, .sentinel, .sentinel, .pinned], laidTests := true, laidLooks := .later }
def AuthLessUptoCardSaid : Prop := Claim7.holds Tryz.pinned (.plain (OpenSpec.upto authLessSpec)) authLessUptoCard

/-- THE SECOND FORM's CARD OF 'tollhouselaw15.AuthKnown'. -/
def authKnownUptoCard : Claim7 := { stood := { row := authKnownUptoRow, standIns := [], harness := (true, "9358c2cdb9fd3b34483533bed24dffd46d7d1a663027b3396ad723d6e7077753"), looks := true }, kinds := [], alts := [], laidByText := true, laidKinds := [.data, .data, .data, .data, .sentinel, .sentinel, .pinned], laidTests := true, laidLooks := .later }
def AuthKnownUptoCardSaid : Prop := Claim7.holds Tryz.pinned (.plain (OpenSpec.upto authKnownSpec)) authKnownUptoCard

/-- THE SECOND FORM's CARD OF 'tollhouselaw15.AuthOne'. -/
def authOneUptoCard : Claim7 := { stood := { row := authOneUptoRow, standIns := [], harness := (true, "9358c2cdb9fd3b34483533bed24dffd46d7d1a663027b3396ad723d6e7077753"), looks := true }, kinds := [], alts := [], laidByText := true, laidKinds := [.data, .data, .data, .data, .sentinel, .sentinel, .pinned], laidTests := true, laidLooks := .later }
def AuthOneUptoCardSaid : Prop := Claim7.holds Tryz.pinned (.plain (OpenSpec.upto authOneSpec)) authOneUptoCard
end Rows
end Go.Proofs.YthmnhbalmglohaaGreatDoor
