/-
  DERIVED. GIVEN WITH THE SEED: THE CARDS: each row of YthkdggoohpgnnaaGreatDoorRows.lean that lists a variable, with what it lists TIED to the program's text (the seventh form; the later family's looks); each row that meets fmt, with fmt's text TOLD by the authors' own Lean function (tested against real Go, not proved from fmt's source: count such statements apart). THE CARD IS WHAT COUNTS. Prove the row's statement (the work); the ties are given (YthkdggoohpgnnaaGreatDoorTie.lean); close each card by the builder's one call (the guide's Derived/Test/ToyasCard.lean, 'card_holds'). Laid BY PROGRAM, IN A SANDBOX (cutbox-door.mjs). By AI agents, Wed Nov 11 2026. No macro, syntax, notation, axiom, sorry.
-/
import Derived.Test.YthkdggoohpgnnaaGreatDoorRows
import GoSem.ClaimSeven
namespace Go.Proofs.YthkdggoohpgnnaaGreatDoor
namespace Rows

/-- THE TIED CARD OF 'hearsaylaw14.SubsumeFinds'. -/
def subsumeFindsCard : Claim7 := { stood := { row := subsumeFindsRow, standIns := [], harness := (true, "8f4cc133df7ce016dce915198bf975827efd5e91578b89cf7bdc3809129a6879"), looks := false }, kinds := [], alts := [], laidByText := true, laidKinds := [.data, .data, .data, .funcs], laidTests := true, laidLooks := .later }
def SubsumeFindsCardSaid : Prop := Claim7.holds Tryz.pinned (.plain (OpenSpec.ofChange subsumeFindsSpec)) subsumeFindsCard

/-- THE TIED CARD OF 'hearsaylaw14.SubsumeReduces'. -/
def subsumeReducesCard : Claim7 := { stood := { row := subsumeReducesRow, standIns := [], harness := (true, "8f4cc133df7ce016dce915198bf975827efd5e91578b89cf7bdc3809129a6879"), looks := false }, kinds := [], alts := [], laidByText := true, laidKinds := [.data, .data, .data, .funcs], laidTests := true, laidLooks := .later }
def SubsumeReducesCardSaid : Prop := Claim7.holds Tryz.pinned (.plain (OpenSpec.ofChange subsumeReducesSpec)) subsumeReducesCard

/-- THE TIED CARD OF 'hearsaylaw14.SubsumeLeast'. -/
def subsumeLeastCard : Claim7 := { stood := { row := subsumeLeastRow, standIns := [], harness := (true, "8f4cc133df7ce016dce915198bf975827efd5e91578b89cf7bdc3809129a6879"), looks := false }, kinds := [], alts := [], laidByText := true, laidKinds := [.data, .funcs], laidTests := true, laidLooks := .later }
def SubsumeLeastCardSaid : Prop := Claim7.holds Tryz.pinned (.plain (OpenSpec.ofChange subsumeLeastSpec)) subsumeLeastCard

/-- THE TIED CARD OF 'hearsaylaw14.SubsumeOrder'. -/
def subsumeOrderCard : Claim7 := { stood := { row := subsumeOrderRow, standIns := [], harness := (true, "8f4cc133df7ce016dce915198bf975827efd5e91578b89cf7bdc3809129a6879"), looks := false }, kinds := [], alts := [], laidByText := true, laidKinds := [.data, .funcs], laidTests := true, laidLooks := .later }
def SubsumeOrderCardSaid : Prop := Claim7.holds Tryz.pinned (.plain (OpenSpec.ofChange subsumeOrderSpec)) subsumeOrderCard

/-- THE TIED CARD OF 'hearsaylaw14.SubsumeReduced'. -/
def subsumeReducedCard : Claim7 := { stood := { row := subsumeReducedRow, standIns := [], harness := (true, "8f4cc133df7ce016dce915198bf975827efd5e91578b89cf7bdc3809129a6879"), looks := false }, kinds := [], alts := [], laidByText := true, laidKinds := [.data, .funcs], laidTests := true, laidLooks := .later }
def SubsumeReducedCardSaid : Prop := Claim7.holds Tryz.pinned (.plain (OpenSpec.ofChange subsumeReducedSpec)) subsumeReducedCard

/-- THE TIED CARD OF 'hearsaylaw14.SubsumeCondensed'. -/
def subsumeCondensedCard : Claim7 := { stood := { row := subsumeCondensedRow, standIns := [], harness := (true, "8f4cc133df7ce016dce915198bf975827efd5e91578b89cf7bdc3809129a6879"), looks := false }, kinds := [], alts := [], laidByText := true, laidKinds := [.data, .funcs], laidTests := true, laidLooks := .later }
def SubsumeCondensedCardSaid : Prop := Claim7.holds Tryz.pinned (.plain (OpenSpec.ofChange subsumeCondensedSpec)) subsumeCondensedCard

/-- THE TIED CARD OF 'hearsaylaw14.SubsumeApart'. -/
def subsumeApartCard : Claim7 := { stood := { row := subsumeApartRow, standIns := [], harness := (true, "8f4cc133df7ce016dce915198bf975827efd5e91578b89cf7bdc3809129a6879"), looks := false }, kinds := [], alts := [], laidByText := true, laidKinds := [.data, .funcs], laidTests := true, laidLooks := .later }
def SubsumeApartCardSaid : Prop := Claim7.holds Tryz.pinned (.plain (OpenSpec.ofChange subsumeApartSpec)) subsumeApartCard

/-- THE SECOND FORM's CARD OF 'hearsaylaw14.SubsumeFinds'. -/
def subsumeFindsUptoCard : Claim7 := { stood := { row := subsumeFindsUptoRow, standIns := [], harness := (true, "8f4cc133df7ce016dce915198bf975827efd5e91578b89cf7bdc3809129a6879"), looks := false }, kinds := [], alts := [], laidByText := true, laidKinds := [.data, .data, .data, .funcs], laidTests := true, laidLooks := .later }
def SubsumeFindsUptoCardSaid : Prop := Claim7.holds Tryz.pinned (.plain (OpenSpec.upto subsumeFindsSpec)) subsumeFindsUptoCard

/-- THE SECOND FORM's CARD OF 'hearsaylaw14.SubsumeReduces'. -/
def subsumeReducesUptoCard : Claim7 := { stood := { row := subsumeReducesUptoRow, standIns := [], harness := (true, "8f4cc133df7ce016dce915198bf975827efd5e91578b89cf7bdc3809129a6879"), looks := false }, kinds := [], alts := [], laidByText := true, laidKinds := [.data, .data, .data, .funcs], laidTests := true, laidLooks := .later }
def SubsumeReducesUptoCardSaid : Prop := Claim7.holds Tryz.pinned (.plain (OpenSpec.upto subsumeReducesSpec)) subsumeReducesUptoCard

/-- THE SECOND FORM's CARD OF 'hearsaylaw14.SubsumeLeast'. -/
def subsumeLeastUptoCard : Claim7 := { stood := { row := subsumeLeastUptoRow, standIns := [], harness := (true, "8f4cc133df7ce016dce915198bf975827efd5e91578b89cf7bdc3809129a6879"), looks := false }, kinds := [], alts := [], laidByText := true, laidKinds := [.data, .funcs], laidTests := true, laidLooks := .later }
def SubsumeLeastUptoCardSaid : Prop := Claim7.holds Tryz.pinned (.plain (OpenSpec.upto subsumeLeastSpec)) subsumeLeastUptoCard

/-- THE SECOND FORM's CARD OF 'hearsaylaw14.SubsumeOrder'. -/
def subsumeOrderUptoCard : Claim7 := { stood := { row := subsumeOrderUptoRow, standIns := [], harness := (true, "8f4cc133df7ce016dce915198bf975827efd5e91578b89cf7bdc3809129a6879"), looks := false }, kinds := [], alts := [], laidByText := true, laidKinds := [.data, .funcs], laidTests := true, laidLooks := .later }
def SubsumeOrderUptoCardSaid : Prop := Claim7.holds Tryz.pinned (.plain (OpenSpec.upto subsumeOrderSpec)) subsumeOrderUptoCard

/-- THE SECOND FORM's CARD OF 'hearsaylaw14.SubsumeReduced'. -/
def subsumeReducedUptoCard : Claim7 := { stood := { row := subsumeReducedUptoRow, standIns := [], harness := (true, "8f4cc133df7ce016dce915198bf975827efd5e91578b89cf7bdc3809129a6879"), looks := false }, kinds := [], alts := [], laidByText := true, laidKinds := [.data, .funcs], laidTests := true, laidLooks := .later }
def SubsumeReducedUptoCardSaid : Prop := Claim7.holds Tryz.pinned (.plain (OpenSpec.upto subsumeReducedSpec)) subsumeReducedUptoCard

/-- THE SECOND FORM's CARD OF 'hearsaylaw14.SubsumeCondensed'. -/
def subsumeCondensedUptoCard : Claim7 := { stood := { row := subsumeCondensedUptoRow, standIns := [], harness := (true, "8f4cc133df7ce016dce915198bf975827efd5e91578b89cf7bdc3809129a6879"), looks := false }, kinds := [], alts := [], laidByText := true, laidKinds := [.data, .funcs], laidTests := true, laidLooks := .later }
def SubsumeCondensedUptoCardSaid : Prop := Claim7.holds Tryz.pinned (.plain (OpenSpec.upto subsumeCondensedSpec)) subsumeCondensedUptoCard

/-- THE SECOND FORM's CARD OF 'hearsaylaw14.SubsumeApart'. -/
def subsumeApartUptoCard : Claim7 := { stood := { row := subsumeApartUptoRow, standIns := [], harness := (true, "8f4cc133df7ce016dce915198bf975827efd5e91578b89cf7bdc3809129a6879"), looks := false }, kinds := [], alts := [], laidByText := true, laidKinds := [.data, .funcs], laidTests := true, laidLooks := .later }
def SubsumeApartUptoCardSaid : Prop := Claim7.holds Tryz.pinned (.plain (OpenSpec.upto subsumeApartSpec)) subsumeApartUptoCard
end Rows
end Go.Proofs.YthkdggoohpgnnaaGreatDoor
