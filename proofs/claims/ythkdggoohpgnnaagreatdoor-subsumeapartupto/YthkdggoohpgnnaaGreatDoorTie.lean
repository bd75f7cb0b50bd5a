/-
  DERIVED. GIVEN WITH THE SEED: THE PROGRAM's TIES (one call each: nine closed facts by the kernel) AND EACH ROW's TIE, after the 31st guide's Derived/Test/Toyas{Tie, Card}.lean. No idea stands in it: it is a product of the set-up. Laid BY PROGRAM, IN A SANDBOX (cutbox-door.mjs). By AI agents, Wed Nov 11 2026. No macro, syntax, notation, axiom, sorry.
-/
import Derived.Test.YthkdggoohpgnnaaGreatDoorRows
import Derived.LaidByTextLater
import Derived.SevenTiedAt
import Derived.LaidSub
import Derived.LaidOnce
namespace Go.Proofs.YthkdggoohpgnnaaGreatDoor
open Go
set_option maxRecDepth 100000
theorem seatTie1 : Tryz.prog.laidByTextLater [("hearsay/hearsayref03.behindTerm", Rows.laid_hearsay_hearsayref03_behindTerm), ("hearsay/hearsayref03.behindTest", Rows.laid_hearsay_hearsayref03_behindTest), ("hearsay/term.none", Rows.laid_hearsay_term_none), ("hearsay/clause.checks", Rows.laid_hearsay_clause_checks)] [.data, .data, .data, .funcs] true :=
  Program.laidByTextLater_by_one 35 8 8 (by kernel_rfl) (by kernel_rfl) (by kernel_rfl) (by kernel_rfl) (by kernel_rfl) (by kernel_rfl) (fun _ _ => by kernel_rfl)
theorem noOwnUnsafe : Tryz.pinned.checked.prog.headLifts.contains "ownunsafe" = false := by kernel_rfl
theorem tie : Tryz.prog.laidByTextLater [("hearsay/hearsayref03.behindTerm", Rows.laid_hearsay_hearsayref03_behindTerm), ("hearsay/hearsayref03.behindTest", Rows.laid_hearsay_hearsayref03_behindTest), ("hearsay/term.none", Rows.laid_hearsay_term_none), ("hearsay/clause.checks", Rows.laid_hearsay_clause_checks)] [.data, .data, .data, .funcs] true :=
  Program.laidByTextLater.sub seatTie1 ["hearsay/hearsayref03.behindTerm", "hearsay/hearsayref03.behindTest", "hearsay/term.none", "hearsay/clause.checks"] (by kernel_rfl) (by kernel_rfl)
theorem subsumeFinds_row_tie : Rows.subsumeFindsRow.laidByTextAt .later Tryz.pinned [.data, .data, .data, .funcs] true :=
  OpenClaim.laidByTextAt_later rfl rfl tie noOwnUnsafe
theorem subsumeReduces_row_tie : Rows.subsumeReducesRow.laidByTextAt .later Tryz.pinned [.data, .data, .data, .funcs] true :=
  OpenClaim.laidByTextAt_later rfl rfl tie noOwnUnsafe
theorem tie2 : Tryz.prog.laidByTextLater [("hearsay/term.none", Rows.laid_hearsay_term_none), ("hearsay/clause.checks", Rows.laid_hearsay_clause_checks)] [.data, .funcs] true :=
  Program.laidByTextLater.sub seatTie1 ["hearsay/term.none", "hearsay/clause.checks"] (by kernel_rfl) (by kernel_rfl)
theorem subsumeLeast_row_tie : Rows.subsumeLeastRow.laidByTextAt .later Tryz.pinned [.data, .funcs] true :=
  OpenClaim.laidByTextAt_later rfl rfl tie2 noOwnUnsafe
theorem subsumeOrder_row_tie : Rows.subsumeOrderRow.laidByTextAt .later Tryz.pinned [.data, .funcs] true :=
  OpenClaim.laidByTextAt_later rfl rfl tie2 noOwnUnsafe
theorem subsumeReduced_row_tie : Rows.subsumeReducedRow.laidByTextAt .later Tryz.pinned [.data, .funcs] true :=
  OpenClaim.laidByTextAt_later rfl rfl tie2 noOwnUnsafe
theorem subsumeCondensed_row_tie : Rows.subsumeCondensedRow.laidByTextAt .later Tryz.pinned [.data, .funcs] true :=
  OpenClaim.laidByTextAt_later rfl rfl tie2 noOwnUnsafe
theorem subsumeApart_row_tie : Rows.subsumeApartRow.laidByTextAt .later Tryz.pinned [.data, .funcs] true :=
  OpenClaim.laidByTextAt_later rfl rfl tie2 noOwnUnsafe
theorem subsumeFindsUpto_row_tie : Rows.subsumeFindsUptoRow.laidByTextAt .later Tryz.pinned [.data, .data, .data, .funcs] true :=
  OpenClaim.laidByTextAt_later rfl rfl tie noOwnUnsafe
theorem subsumeReducesUpto_row_tie : Rows.subsumeReducesUptoRow.laidByTextAt .later Tryz.pinned [.data, .data, .data, .funcs] true :=
  OpenClaim.laidByTextAt_later rfl rfl tie noOwnUnsafe
theorem subsumeLeastUpto_row_tie : Rows.subsumeLeastUptoRow.laidByTextAt .later Tryz.pinned [.data, .funcs] true :=
  OpenClaim.laidByTextAt_later rfl rfl tie2 noOwnUnsafe
theorem subsumeOrderUpto_row_tie : Rows.subsumeOrderUptoRow.laidByTextAt .later Tryz.pinned [.data, .funcs] true :=
  OpenClaim.laidByTextAt_later rfl rfl tie2 noOwnUnsafe
theorem subsumeReducedUpto_row_tie : Rows.subsumeReducedUptoRow.laidByTextAt .later Tryz.pinned [.data, .funcs] true :=
  OpenClaim.laidByTextAt_later rfl rfl tie2 noOwnUnsafe
theorem subsumeCondensedUpto_row_tie : Rows.subsumeCondensedUptoRow.laidByTextAt .later Tryz.pinned [.data, .funcs] true :=
  OpenClaim.laidByTextAt_later rfl rfl tie2 noOwnUnsafe
theorem subsumeApartUpto_row_tie : Rows.subsumeApartUptoRow.laidByTextAt .later Tryz.pinned [.data, .funcs] true :=
  OpenClaim.laidByTextAt_later rfl rfl tie2 noOwnUnsafe
end Go.Proofs.YthkdggoohpgnnaaGreatDoor
