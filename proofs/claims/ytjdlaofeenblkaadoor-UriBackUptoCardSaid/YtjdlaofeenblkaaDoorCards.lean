/-
  DERIVED. GIVEN WITH THE SEED: THE CARDS: each row of YtjdlaofeenblkaaDoorRows.lean that lists a variable, with what it lists TIED to the program's text (the seventh form; the later family's looks); each row that meets fmt, with fmt's text TOLD by the authors' own Lean function (tested against real Go, not proved from fmt's source: count such statements apart). THE CARD IS WHAT COUNTS. Prove the row's statement (the work); the ties are given (YtjdlaofeenblkaaDoorTie.lean); close each card by the builder's one call (the guide's Derived/Test/ToyasCard.lean, 'card_holds'). Laid BY PROGRAM, IN A SANDBOX (cutbox-door.mjs). By AI agents, Wed Nov 11 2026. No macro, syntax, notation, axiom, sorry.
-/
import Derived.Test.YtjdlaofeenblkaaDoorRows
import GoSem.ClaimSeven
namespace Go.Proofs.YtjdlaofeenblkaaDoor
namespace Rows

/-- THE TIED CARD OF 'tollhouselaw14.AclRules'. -/
def aclRulesCard : Claim7 := { stood := { row := aclRulesRow, standIns := [], harness := (true, "c21de0a9673d5602f59b434a70c446022101426454d6fcaa3c0dead6d6d10882"), looks := true }, kinds := [], alts := [], laidByText := true, laidKinds := [.data, .data, .data, .data, .sentinel, .sentinel, .pinned], laidTests := true, laidLooks := .later }
def AclRulesCardSaid : Prop := Claim7.holds Tryd.pinned (.plain (OpenSpec.ofChange aclRulesSpec)) aclRulesCard

/-- THE TIED CARD OF 'tollhouselaw14.AclFirst'. -/
def aclFirstCard : Claim7 := { stood := { row := aclFirstRow, standIns := [], harness := (true, "c21de0a9673d5602f59b434a70c446022101426454d6fcaa3c0dead6d6d10882"), looks := true }, kinds := [], alts := [], laidByText := true, laidKinds := [.data, .data, .data, .data, .sentinel, .sentinel, .pinned], laidTests := true, laidLooks := .later }
def AclFirstCardSaid : Prop := Claim7.holds Tryd.pinned (.plain (OpenSpec.ofChange aclFirstSpec)) aclFirstCard

/-- THE TIED CARD OF 'tollhouselaw14.AclDenies'. -/
def aclDeniesCard : Claim7 := { stood := { row := aclDeniesRow, standIns := [], harness := (true, "c21de0a9673d5602f59b434a70c446022101426454d6fcaa3c0dead6d6d10882"), looks := true }, kinds := [], alts := [], laidByText := true, laidKinds := [.data, .data, .data, .data, .sentinel, .sentinel, .pinned], laidTests := true, laidLooks := .later }
def AclDeniesCardSaid : Prop := Claim7.holds Tryd.pinned (.plain (OpenSpec.ofChange aclDeniesSpec)) aclDeniesCard

/-- THE TIED CARD OF 'tollhouselaw14.AclWide'. -/
def aclWideCard : Claim7 := { stood := { row := aclWideRow, standIns := [], harness := (true, "c21de0a9673d5602f59b434a70c446022101426454d6fcaa3c0dead6d6d10882"), looks := true }, kinds := [], alts := [], laidByText := true, laidKinds := [.data, .data, .data, .data, .sentinel, .sentinel, .pinned], laidTests := true, laidLooks := .later }
def AclWideCardSaid : Prop := Claim7.holds Tryd.pinned (.plain (OpenSpec.ofChange aclWideSpec)) aclWideCard

/-- THE TIED CARD OF 'tollhouselaw14.AclKnown'. -/
def aclKnownCard : Claim7 := { stood := { row := aclKnownRow, standIns := [], harness := (true, "c21de0a9673d5602f59b434a70c446022101426454d6fcaa3c0dead6d6d10882"), looks := true }, kinds := [], alts := [], laidByText := true, laidKinds := [.data, .data, .data, .data, .sentinel, .sentinel, .pinned], laidTests := true, laidLooks := .later }
def AclKnownCardSaid : Prop := Claim7.holds Tryd.pinned (.plain (OpenSpec.ofChange aclKnownSpec)) aclKnownCard

/-- THE TIED CARD OF 'tollhouselaw10.UriBack'. -/
def uriBackCard : Claim7 := { stood := { row := uriBackRow, standIns := [], harness := (true, "c21de0a9673d5602f59b434a70c446022101426454d6fcaa3c0dead6d6d10882"), looks := true }, kinds := [], alts := [], laidByText := true, laidKinds := [.data, .data, .data, .data, .sentinel, .sentinel, .pinned], laidTests := true, laidLooks := .later }
def UriBackCardSaid : Prop := Claim7.holds Tryd.pinned (.plain (OpenSpec.ofChange uriBackSpec)) uriBackCard

/-- THE TIED CARD OF 'tollhouselaw10.UriJoins'. -/
def uriJoinsCard : Claim7 := { stood := { row := uriJoinsRow, standIns := [], harness := (true, "c21de0a9673d5602f59b434a70c446022101426454d6fcaa3c0dead6d6d10882"), looks := true }, kinds := [], alts := [], laidByText := true, laidKinds := [.data, .data, .data, .data, .sentinel, .sentinel, .pinned], laidTests := true, laidLooks := .later }
def UriJoinsCardSaid : Prop := Claim7.holds Tryd.pinned (.plain (OpenSpec.ofChange uriJoinsSpec)) uriJoinsCard

/-- THE TIED CARD OF 'tollhouselaw10.UriOne'. -/
def uriOneCard : Claim7 := { stood := { row := uriOneRow, standIns := [], harness := (true, "c21de0a9673d5602f59b434a70c446022101426454d6fcaa3c0dead6d6d10882"), looks := true }, kinds := [], alts := [], laidByText := true, laidKinds := [.data, .data, .data, .data, .sentinel, .sentinel, .pinned], laidTests := true, laidLooks := .later }
def UriOneCardSaid : Prop := Claim7.holds Tryd.pinned (.plain (OpenSpec.ofChange uriOneSpec)) uriOneCard

/-- THE TIED CARD OF 'tollhouselaw10.UriKnown'. -/
def uriKnownCard : Claim7 := { stood := { row := uriKnownRow, standIns := [], harness := (true, "c21de0a9673d5602f59b434a70c446022101426454d6fcaa3c0dead6d6d10882"), looks := true }, kinds := [], alts := [], laidByText := true, laidKinds := [.data, .data, .data, .data, .sentinel, .sentinel, .pinned], laidTests := true, laidLooks := .later }
def UriKnownCardSaid : Prop := Claim7.holds Tryd.pinned (.plain (OpenSpec.ofChange uriKnownSpec)) uriKnownCard

/-- THE SECOND FORM's CARD OF 'tollhouselaw14.AclRules'. -/
def aclRulesUptoCard : Claim7 := { stood := { row := aclRulesUptoRow, standIns := [], harness := (true, "c21de0a9673d5602f59b434a70c446022101426454d6fcaa3c0dead6d6d10882"), looks := true }, kinds := [], alts := [], laidByText := true, laidKinds := [.data, .data, .data, .data, .sentinel, .sentinel, .pinned], laidTests := true, laidLooks := .later }
def AclRulesUptoCardSaid : Prop := Claim7.holds Tryd.pinned (.plain (OpenSpec.upto aclRulesSpec)) aclRulesUptoCard

/-- THE SECOND FORM's CARD OF 'tollhouselaw14.AclFirst'. -/
def aclFirstUptoCard : Claim7 := { stood := { row := aclFirstUptoRow, standIns := [], harness := (true, "c21de0a9673d5602f59b434a70c446022101426454d6fcaa3c0dead6d6d10882"), looks := true }, kinds := [], alts := [], laidByText := true, laidKinds := [.data, .data, .data, .data, .sentinel, .sentinel, .pinned], laidTests := true, laidLooks := .later }
def AclFirstUptoCardSaid : Prop := Claim7.holds Tryd.pinned (.plain (OpenSpec.upto aclFirstSpec)) aclFirstUptoCard

/-- THE SECOND FORM's CARD OF 'tollhouselaw14.AclDenies'. -/
def aclDeniesUptoCard : Claim7 := { stood := { row := aclDeniesUptoRow, standIns := [], harness := (true, "c21de0a9673d5602f59b434a70c446022101426454d6fcaa3c0dead6d6d10882"), looks := true }, kinds := [], alts := [], laidByText := true, laidKinds := [.data, .data, .data, .data, .sentinel, .sentinel, .pinned], laidTests := true, laidLooks := .later }
def AclDeniesUptoCardSaid : Prop := Claim7.holds Tryd.pinned (.plain (OpenSpec.upto aclDeniesSpec)) aclDeniesUptoCard

/-- THE SECOND FORM's CARD OF 'tollhouselaw14.AclWide'. -/
def aclWideUptoCard : Claim7 := { stood := { row := aclWideUptoRow, standIns := [], harness := (true, "c21de0a9673d5602f59b434a70c446022101426454d6fcaa3c0dead6d6d10882"), looks := true }, kinds := [], alts := [], laidByText := true, laidKinds := [.data, .data, .data, .data, .sentinel, .sentinel, .pinned], laidTests := true, laidLooks := .later }
def AclWideUptoCardSaid : Prop := Claim7.holds Tryd.pinned (.plain (OpenSpec.upto aclWideSpec)) aclWideUptoCard

/-- THE SECOND FORM's CARD OF 'tollhouselaw14.AclKnown'. -/
def aclKnownUptoCard : Claim7 := { stood := { row := aclKnownUptoRow, standIns := [], harness := (true, "c21de0a9673d5602f59b434a70c446022101426454d6fcaa3c0dead6d6d10882"), looks := true }, kinds := [], alts := [], laidByText := true, laidKinds := [.data, .data, .data, .data, .sentinel, .sentinel, .pinned], laidTests := true, laidLooks := .later }
def AclKnownUptoCardSaid : Prop := Claim7.holds Tryd.pinned (.plain (OpenSpec.upto aclKnownSpec)) aclKnownUptoCard

/-- THE SECOND FORM's CARD OF 'tollhouselaw10.UriBack'. -/
def uriBackUptoCard : Claim7 := { stood := { row := uriBackUptoRow, standIns := [], harness := (true, "c21de0a9673d5602f59b434a70c446022101426454d6fcaa3c0dead6d6d10882"), looks := true }, kinds := [], alts := [], laidByText := true, laidKinds := [.data, .data, .data, .data, .sentinel, .sentinel, .pinned], laidTests := true, laidLooks := .later }
def UriBackUptoCardSaid : Prop := Claim7.holds Tryd.pinned (.plain (OpenSpec.upto uriBackSpec)) uriBackUptoCard

/-- THE SECOND FORM's CARD OF 'tollhouselaw10.UriJoins'. -/
def uriJoinsUptoCard : Claim7 := { stood := { row := uriJoinsUptoRow, standIns := [], harness := (true, "c21de0a9673d5602f59b434a70c446022101426454d6fcaa3c0dead6d6d10882"), looks := true }, kinds := [], alts := [], laidByText := true, laidKinds := [.data, .data, .data, .data, .sentinel, .sentinel, .pinned], laidTests := true, laidLooks := .later }
def UriJoinsUptoCardSaid : Prop := Claim7.holds Tryd.pinned (.plain (OpenSpec.upto uriJoinsSpec)) uriJoinsUptoCard

/-- THE SECOND FORM's CARD OF 'tollhouselaw10.UriOne'. -/
def uriOneUptoCard : Claim7 := { stood := { row := uriOneUptoRow, standIns := [], harness := (true, "c21de0a9673d5602f59b434a70c446022101426454d6fcaa3c0dead6d6d10882"), looks := true }, kinds := [], alts := [], laidByText := true, laidKinds := [.data, .data, .data, .data, .sentinel, .sentinel, .pinned], laidTests := true, laidLooks := .later }
def UriOneUptoCardSaid : Prop := Claim7.holds Tryd.pinned (.plain (OpenSpec.upto uriOneSpec)) uriOneUptoCard

/-- THE SECOND FORM's CARD OF 'tollhouselaw10.UriKnown'. -/
def uriKnownUptoCard : Claim7 := { stood := { row := uriKnownUptoRow, standIns := [], harness := (true, "c21de0a9673d5602f59b434a70c446022101426454d6fcaa3c0dead6d6d10882"), looks := true }, kinds := [], alts := [], laidByText := true, laidKinds := [.data, .data, .data, .data, .sentinel, .sentinel, .pinned], laidTests := true, laidLooks := .later }
def UriKnownUptoCardSaid : Prop := Claim7.holds Tryd.pinned (.plain (OpenSpec.upto uriKnownSpec)) uriKnownUptoCard
end Rows
end Go.Proofs.YtjdlaofeenblkaaDoor
