/-
  NARROWER THAN 'FOR EVERY INPUT', by the rows' own cells (each row's printed sentence says how): SubsumeFinds: laid · SubsumeReduces: laid · SubsumeLeast: laid · SubsumeOrder: laid · SubsumeReduced: laid · SubsumeCondensed: laid · SubsumeApart: laid.
  DERIVED. THE GIVEN ROWS OF THIS SEAT. 7 by the template 'for every input the law returns true; each argument reads behind the call as it read before'; 0 by the template 'total and deterministic' (their statements: YthkdggoohpgnnaaGreatDoorTotals.lean).
  GIVEN WITH THE SEED: the statements are not yours to turn. If you find one false, say at which input.
  Laid BY PROGRAM, IN A SANDBOX (cutbox-rows.mjs): the forced cells as the released guide's own fill.sh prints them over the translation 1223794f0fcba0ea… (all of the seat's roots in one cut). By AI agents, Wed Nov 11 2026. No macro, syntax, notation, axiom, sorry.
-/
import Derived.Test.YthkdggoohpgnnaaGreatDoorChecked
import GoSem.Claim
import GoSem.ClaimJoined
import GoSem.ClaimMapViews
import Derived.JoinedTies
import Derived.KernelRfl
namespace Go.Proofs.YthkdggoohpgnnaaGreatDoor
/- THE CELL 'sum', in the pinned program and in every row, IS THE sha256 OF THE DUMP (.gsa) THAT YthkdggoohpgnnaaGreatDoorProg.lean LOADS. Nothing in Lean hashes anything: it is a label: what it is worth is what the hold of that sum in a sandbox is worth. -/
noncomputable def Tryz.pinned : Pinned := { name := "ythkdggoohpgnnaagreatdoor", sum := "1223794f0fcba0ea8dd25a78bc59b4edc962582d4d1f5d10787c3ff07aaf9437", checked := Tryz.checked }
namespace Rows
def none {H : Type} : Left H := { results := [], args := [] }

/- WHAT THE LISTED PACKAGE-LEVEL VARIABLES READ AS WHEN THE CALL BEGINS. Each datum BY PROGRAM (the guide's laid-datum.mjs) off the statement by which the dump's own 'gosem.cut.vars' lays the variable. In a bare row this is a premise. The card (YthkdggoohpgnnaaGreatDoorCards.lean) ties it to the program's text. -/
def laid_hearsay_hearsayref03_behindTerm {H : Type} : DataW H := .agg [.lit (.int .i64 901), .lit (.int .i64 902), .lit (.string [98, 101, 104, 105, 110, 100])]
def laid_hearsay_hearsayref03_behindTest {H : Type} : DataW H := .agg [.lit (.int .i64 903), .agg [.lit (.int .i64 0), .lit (.int .i64 0), .lit (.string [])], .agg [.lit (.int .i64 0), .lit (.int .i64 0), .lit (.string [])]]
def laid_hearsay_term_none {H : Type} : DataW H := .agg [.lit (.int .i64 0), .lit (.int .i64 0), .lit (.string [])]
def laid_hearsay_clause_checks {H : Type} : DataW H := .iface "func table" (.agg [.agg [.iface "func" (.lit (.string [104, 101, 97, 114, 115, 97, 121, 47, 99, 108, 97, 117, 115, 101, 46, 116, 111, 111, 76, 111, 110, 103]))], .agg [.iface "func" (.lit (.string [104, 101, 97, 114, 115, 97, 121, 47, 99, 108, 97, 117, 115, 101, 46, 98, 97, 100, 65, 116, 111, 109]))], .agg [.iface "func" (.lit (.string [104, 101, 97, 114, 115, 97, 121, 47, 99, 108, 97, 117, 115, 101, 46, 98, 97, 100, 84, 101, 115, 116]))], .agg [.iface "func" (.lit (.string [104, 101, 97, 114, 115, 97, 121, 47, 99, 108, 97, 117, 115, 101, 46, 111, 112, 101, 110, 72, 101, 97, 100]))], .agg [.iface "func" (.lit (.string [104, 101, 97, 114, 115, 97, 121, 47, 99, 108, 97, 117, 115, 101, 46, 117, 110, 115, 97, 102, 101]))], .agg [.iface "func" (.lit (.string [104, 101, 97, 114, 115, 97, 121, 47, 99, 108, 97, 117, 115, 101, 46, 109, 105, 115, 110, 117, 109, 98, 101, 114, 101, 100]))]])

/-- 'hearsaylaw14.SubsumeFinds': WHATEVER THE INPUT: true; the input reads as it did. -/
def subsumeFindsSpec : ChangeSpec := { name := "subsumeFinds", fn := fun _ => fun
  | [d1, d2] => { results := [.lit (.bool true)], args := [d1, d2] }
  | _ => none }
def subsumeFindsRow : OpenClaim := { program := "ythkdggoohpgnnaagreatdoor", sum := "1223794f0fcba0ea8dd25a78bc59b4edc962582d4d1f5d10787c3ff07aaf9437", func := "hearsay/hearsaylaw14.SubsumeFinds", spec := "subsumeFinds", inPlace := ["internal/bytealg.abigen_runtime_cmpstring"], unfollowed := true, recurses := true, named := ["hearsay/hearsayref03.behindTest", "hearsay/hearsayref03.behindTerm", "hearsay/clause.checks", "hearsay/term.none"], apart := false, laid := [("hearsay/hearsayref03.behindTerm", laid_hearsay_hearsayref03_behindTerm), ("hearsay/hearsayref03.behindTest", laid_hearsay_hearsayref03_behindTest), ("hearsay/term.none", laid_hearsay_term_none), ("hearsay/clause.checks", laid_hearsay_clause_checks)] }
def SubsumeFindsSaid : Prop := subsumeFindsRow.holds Tryz.pinned (OpenSpec.ofChange subsumeFindsSpec)

/-- ITS FALSE NEIGHBOUR: 'it returns false'. Refute it at one input. -/
def subsumeFindsWrong : ChangeSpec := { name := "subsumeFinds", fn := fun _ => fun
  | [d1, d2] => { results := [.lit (.bool false)], args := [d1, d2] }
  | _ => none }
def SubsumeFindsWrongFalsely : Prop := subsumeFindsRow.holds Tryz.pinned (OpenSpec.ofChange subsumeFindsWrong)

/-- 'hearsaylaw14.SubsumeReduces': WHATEVER THE INPUT: true; the input reads as it did. -/
def subsumeReducesSpec : ChangeSpec := { name := "subsumeReduces", fn := fun _ => fun
  | [d] => { results := [.lit (.bool true)], args := [d] }
  | _ => none }
def subsumeReducesRow : OpenClaim := { program := "ythkdggoohpgnnaagreatdoor", sum := "1223794f0fcba0ea8dd25a78bc59b4edc962582d4d1f5d10787c3ff07aaf9437", func := "hearsay/hearsaylaw14.SubsumeReduces", spec := "subsumeReduces", inPlace := ["internal/bytealg.abigen_runtime_cmpstring"], unfollowed := true, recurses := true, named := ["hearsay/hearsayref03.behindTest", "hearsay/hearsayref03.behindTerm", "hearsay/clause.checks", "hearsay/term.none"], apart := false, laid := [("hearsay/hearsayref03.behindTerm", laid_hearsay_hearsayref03_behindTerm), ("hearsay/hearsayref03.behindTest", laid_hearsay_hearsayref03_behindTest), ("hearsay/term.none", laid_hearsay_term_none), ("hearsay/clause.checks", laid_hearsay_clause_checks)] }
def SubsumeReducesSaid : Prop := subsumeReducesRow.holds Tryz.pinned (OpenSpec.ofChange subsumeReducesSpec)

/-- ITS FALSE NEIGHBOUR: 'it returns false'. Refute it at one input. -/
def subsumeReducesWrong : ChangeSpec := { name := "subsumeReduces", fn := fun _ => fun
  | [d] => { results := [.lit (.bool false)], args := [d] }
  | _ => none }
def SubsumeReducesWrongFalsely : Prop := subsumeReducesRow.holds Tryz.pinned (OpenSpec.ofChange subsumeReducesWrong)

/-- 'hearsaylaw14.SubsumeLeast': WHATEVER THE INPUT: true; the input reads as it did. -/
def subsumeLeastSpec : ChangeSpec := { name := "subsumeLeast", fn := fun _ => fun
  | [d1, d2] => { results := [.lit (.bool true)], args := [d1, d2] }
  | _ => none }
def subsumeLeastRow : OpenClaim := { program := "ythkdggoohpgnnaagreatdoor", sum := "1223794f0fcba0ea8dd25a78bc59b4edc962582d4d1f5d10787c3ff07aaf9437", func := "hearsay/hearsaylaw14.SubsumeLeast", spec := "subsumeLeast", inPlace := ["internal/bytealg.abigen_runtime_cmpstring"], unfollowed := true, recurses := true, named := ["hearsay/clause.checks", "hearsay/term.none"], apart := false, laid := [("hearsay/term.none", laid_hearsay_term_none), ("hearsay/clause.checks", laid_hearsay_clause_checks)] }
def SubsumeLeastSaid : Prop := subsumeLeastRow.holds Tryz.pinned (OpenSpec.ofChange subsumeLeastSpec)

/-- ITS FALSE NEIGHBOUR: 'it returns false'. Refute it at one input. -/
def subsumeLeastWrong : ChangeSpec := { name := "subsumeLeast", fn := fun _ => fun
  | [d1, d2] => { results := [.lit (.bool false)], args := [d1, d2] }
  | _ => none }
def SubsumeLeastWrongFalsely : Prop := subsumeLeastRow.holds Tryz.pinned (OpenSpec.ofChange subsumeLeastWrong)

/-- 'hearsaylaw14.SubsumeOrder': WHATEVER THE INPUT: true; the input reads as it did. -/
def subsumeOrderSpec : ChangeSpec := { name := "subsumeOrder", fn := fun _ => fun
  | [d1, d2, d3, d4] => { results := [.lit (.bool true)], args := [d1, d2, d3, d4] }
  | _ => none }
def subsumeOrderRow : OpenClaim := { program := "ythkdggoohpgnnaagreatdoor", sum := "1223794f0fcba0ea8dd25a78bc59b4edc962582d4d1f5d10787c3ff07aaf9437", func := "hearsay/hearsaylaw14.SubsumeOrder", spec := "subsumeOrder", inPlace := ["internal/bytealg.abigen_runtime_cmpstring"], unfollowed := true, recurses := true, named := ["hearsay/clause.checks", "hearsay/term.none"], apart := false, laid := [("hearsay/term.none", laid_hearsay_term_none), ("hearsay/clause.checks", laid_hearsay_clause_checks)] }
def SubsumeOrderSaid : Prop := subsumeOrderRow.holds Tryz.pinned (OpenSpec.ofChange subsumeOrderSpec)

/-- ITS FALSE NEIGHBOUR: 'it returns false'. Refute it at one input. -/
def subsumeOrderWrong : ChangeSpec := { name := "subsumeOrder", fn := fun _ => fun
  | [d1, d2, d3, d4] => { results := [.lit (.bool false)], args := [d1, d2, d3, d4] }
  | _ => none }
def SubsumeOrderWrongFalsely : Prop := subsumeOrderRow.holds Tryz.pinned (OpenSpec.ofChange subsumeOrderWrong)

/-- 'hearsaylaw14.SubsumeReduced': WHATEVER THE INPUT: true; the input reads as it did. -/
def subsumeReducedSpec : ChangeSpec := { name := "subsumeReduced", fn := fun _ => fun
  | [d1, d2] => { results := [.lit (.bool true)], args := [d1, d2] }
  | _ => none }
def subsumeReducedRow : OpenClaim := { program := "ythkdggoohpgnnaagreatdoor", sum := "1223794f0fcba0ea8dd25a78bc59b4edc962582d4d1f5d10787c3ff07aaf9437", func := "hearsay/hearsaylaw14.SubsumeReduced", spec := "subsumeReduced", inPlace := ["internal/bytealg.abigen_runtime_cmpstring"], unfollowed := true, recurses := true, named := ["hearsay/clause.checks", "hearsay/term.none"], apart := false, laid := [("hearsay/term.none", laid_hearsay_term_none), ("hearsay/clause.checks", laid_hearsay_clause_checks)] }
def SubsumeReducedSaid : Prop := subsumeReducedRow.holds Tryz.pinned (OpenSpec.ofChange subsumeReducedSpec)

/-- ITS FALSE NEIGHBOUR: 'it returns false'. Refute it at one input. -/
def subsumeReducedWrong : ChangeSpec := { name := "subsumeReduced", fn := fun _ => fun
  | [d1, d2] => { results := [.lit (.bool false)], args := [d1, d2] }
  | _ => none }
def SubsumeReducedWrongFalsely : Prop := subsumeReducedRow.holds Tryz.pinned (OpenSpec.ofChange subsumeReducedWrong)

/-- 'hearsaylaw14.SubsumeCondensed': WHATEVER THE INPUT: true; the input reads as it did. -/
def subsumeCondensedSpec : ChangeSpec := { name := "subsumeCondensed", fn := fun _ => fun
  | [d] => { results := [.lit (.bool true)], args := [d] }
  | _ => none }
def subsumeCondensedRow : OpenClaim := { program := "ythkdggoohpgnnaagreatdoor", sum := "1223794f0fcba0ea8dd25a78bc59b4edc962582d4d1f5d10787c3ff07aaf9437", func := "hearsay/hearsaylaw14.SubsumeCondensed", spec := "subsumeCondensed", inPlace := ["internal/bytealg.abigen_runtime_cmpstring"], unfollowed := true, recurses := true, named := ["hearsay/clause.checks", "hearsay/term.none"], apart := false, laid := [("hearsay/term.none", laid_hearsay_term_none), ("hearsay/clause.checks", laid_hearsay_clause_checks)] }
def SubsumeCondensedSaid : Prop := subsumeCondensedRow.holds Tryz.pinned (OpenSpec.ofChange subsumeCondensedSpec)

/-- ITS FALSE NEIGHBOUR: 'it returns false'. Refute it at one input. -/
def subsumeCondensedWrong : ChangeSpec := { name := "subsumeCondensed", fn := fun _ => fun
  | [d] => { results := [.lit (.bool false)], args := [d] }
  | _ => none }
def SubsumeCondensedWrongFalsely : Prop := subsumeCondensedRow.holds Tryz.pinned (OpenSpec.ofChange subsumeCondensedWrong)

/-- 'hearsaylaw14.SubsumeApart': WHATEVER THE INPUT: true; the input reads as it did. -/
def subsumeApartSpec : ChangeSpec := { name := "subsumeApart", fn := fun _ => fun
  | [d] => { results := [.lit (.bool true)], args := [d] }
  | _ => none }
def subsumeApartRow : OpenClaim := { program := "ythkdggoohpgnnaagreatdoor", sum := "1223794f0fcba0ea8dd25a78bc59b4edc962582d4d1f5d10787c3ff07aaf9437", func := "hearsay/hearsaylaw14.SubsumeApart", spec := "subsumeApart", inPlace := ["internal/bytealg.abigen_runtime_cmpstring"], unfollowed := true, recurses := true, named := ["hearsay/clause.checks", "hearsay/term.none"], apart := false, laid := [("hearsay/term.none", laid_hearsay_term_none), ("hearsay/clause.checks", laid_hearsay_clause_checks)] }
def SubsumeApartSaid : Prop := subsumeApartRow.holds Tryz.pinned (OpenSpec.ofChange subsumeApartSpec)

/-- ITS FALSE NEIGHBOUR: 'it returns false'. Refute it at one input. -/
def subsumeApartWrong : ChangeSpec := { name := "subsumeApart", fn := fun _ => fun
  | [d] => { results := [.lit (.bool false)], args := [d] }
  | _ => none }
def SubsumeApartWrongFalsely : Prop := subsumeApartRow.holds Tryz.pinned (OpenSpec.ofChange subsumeApartWrong)

/- THE SECOND FORM. 'bulk': how many values and letters a reading holds, each counted each time it is reached (what is shared counts as often as it is met; a slice's spare places count too). A statement '..UptoSaid' is the law's where the arguments, and the package variables that the reading takes, are together of bulk at most 1048576: NARROWER than '..Said'. Prove '..Said' where nothing that the law and all that it calls make is longer than what came in: it says more and counts as full. Else prove '..UptoSaid'. A law counts once. -/
mutual
def uptoBulk {H : Type} : DataW H → Nat
  | .lit (.string bytes) => bytes.length + 1
  | .lit _ => 1
  | .nil => 1
  | .ptr d => uptoBulk d + 1
  | .slice elems spare => uptoBulkAll elems + uptoBulkAll spare + 1
  | .agg parts => uptoBulkAll parts + 1
  | .iface _ d => uptoBulk d + 1
  | .map entries => uptoBulkEntries entries + 1
  | .held _ => 1
def uptoBulkAll {H : Type} : List (DataW H) → Nat
  | [] => 0
  | d :: r => uptoBulk d + uptoBulkAll r
def uptoBulkEntries {H : Type} : List (Lit × DataW H) → Nat
  | [] => 0
  | x :: r => uptoBulkEntry x + uptoBulkEntries r
def uptoBulkEntry {H : Type} : Lit × DataW H → Nat
  | (.string bytes, d) => bytes.length + uptoBulk d + 1
  | (_, d) => uptoBulk d + 1
 end
def uptoSmall : (H : Type) → List (DataW H) → Bool := fun _ ds => decide (uptoBulkAll ds ≤ 1048576)
def OpenSpec.upto (s : _root_.Go.ChangeSpec) : _root_.Go.OpenSpec := { _root_.Go.OpenSpec.ofChange s with cond := some uptoSmall }

/-- 'hearsaylaw14.SubsumeFinds', WHERE WHAT IT READS IS OF BULK AT MOST 1048576: true; the input reads as it did. -/
def subsumeFindsUptoRow : OpenClaim := { program := "ythkdggoohpgnnaagreatdoor", sum := "1223794f0fcba0ea8dd25a78bc59b4edc962582d4d1f5d10787c3ff07aaf9437", func := "hearsay/hearsaylaw14.SubsumeFinds", spec := "subsumeFinds", inPlace := ["internal/bytealg.abigen_runtime_cmpstring"], unfollowed := true, recurses := true, named := ["hearsay/hearsayref03.behindTest", "hearsay/hearsayref03.behindTerm", "hearsay/clause.checks", "hearsay/term.none"], apart := false, laid := [("hearsay/hearsayref03.behindTerm", laid_hearsay_hearsayref03_behindTerm), ("hearsay/hearsayref03.behindTest", laid_hearsay_hearsayref03_behindTest), ("hearsay/term.none", laid_hearsay_term_none), ("hearsay/clause.checks", laid_hearsay_clause_checks)], narrowed := true }
def SubsumeFindsUptoSaid : Prop := subsumeFindsUptoRow.holds Tryz.pinned (OpenSpec.upto subsumeFindsSpec)

/-- 'hearsaylaw14.SubsumeReduces', WHERE WHAT IT READS IS OF BULK AT MOST 1048576: true; the input reads as it did. -/
def subsumeReducesUptoRow : OpenClaim := { program := "ythkdggoohpgnnaagreatdoor", sum := "1223794f0fcba0ea8dd25a78bc59b4edc962582d4d1f5d10787c3ff07aaf9437", func := "hearsay/hearsaylaw14.SubsumeReduces", spec := "subsumeReduces", inPlace := ["internal/bytealg.abigen_runtime_cmpstring"], unfollowed := true, recurses := true, named := ["hearsay/hearsayref03.behindTest", "hearsay/hearsayref03.behindTerm", "hearsay/clause.checks", "hearsay/term.none"], apart := false, laid := [("hearsay/hearsayref03.behindTerm", laid_hearsay_hearsayref03_behindTerm), ("hearsay/hearsayref03.behindTest", laid_hearsay_hearsayref03_behindTest), ("hearsay/term.none", laid_hearsay_term_none), ("hearsay/clause.checks", laid_hearsay_clause_checks)], narrowed := true }
def SubsumeReducesUptoSaid : Prop := subsumeReducesUptoRow.holds Tryz.pinned (OpenSpec.upto subsumeReducesSpec)

/-- 'hearsaylaw14.SubsumeLeast', WHERE WHAT IT READS IS OF BULK AT MOST 1048576: true; the input reads as it did. -/
def subsumeLeastUptoRow : OpenClaim := { program := "ythkdggoohpgnnaagreatdoor", sum := "1223794f0fcba0ea8dd25a78bc59b4edc962582d4d1f5d10787c3ff07aaf9437", func := "hearsay/hearsaylaw14.SubsumeLeast", spec := "subsumeLeast", inPlace := ["internal/bytealg.abigen_runtime_cmpstring"], unfollowed := true, recurses := true, named := ["hearsay/clause.checks", "hearsay/term.none"], apart := false, laid := [("hearsay/term.none", laid_hearsay_term_none), ("hearsay/clause.checks", laid_hearsay_clause_checks)], narrowed := true }
def SubsumeLeastUptoSaid : Prop := subsumeLeastUptoRow.holds Tryz.pinned (OpenSpec.upto subsumeLeastSpec)

/-- 'hearsaylaw14.SubsumeOrder', WHERE WHAT IT READS IS OF BULK AT MOST 1048576: true; the input reads as it did. -/
def subsumeOrderUptoRow : OpenClaim := { program := "ythkdggoohpgnnaagreatdoor", sum := "1223794f0fcba0ea8dd25a78bc59b4edc962582d4d1f5d10787c3ff07aaf9437", func := "hearsay/hearsaylaw14.SubsumeOrder", spec := "subsumeOrder", inPlace := ["internal/bytealg.abigen_runtime_cmpstring"], unfollowed := true, recurses := true, named := ["hearsay/clause.checks", "hearsay/term.none"], apart := false, laid := [("hearsay/term.none", laid_hearsay_term_none), ("hearsay/clause.checks", laid_hearsay_clause_checks)], narrowed := true }
def SubsumeOrderUptoSaid : Prop := subsumeOrderUptoRow.holds Tryz.pinned (OpenSpec.upto subsumeOrderSpec)

/-- 'hearsaylaw14.SubsumeReduced', WHERE WHAT IT READS IS OF BULK AT MOST 1048576: true; the input reads as it did. -/
def subsumeReducedUptoRow : OpenClaim := { program := "ythkdggoohpgnnaagreatdoor", sum := "1223794f0fcba0ea8dd25a78bc59b4edc962582d4d1f5d10787c3ff07aaf9437", func := "hearsay/hearsaylaw14.SubsumeReduced", spec := "subsumeReduced", inPlace := ["internal/bytealg.abigen_runtime_cmpstring"], unfollowed := true, recurses := true, named := ["hearsay/clause.checks", "hearsay/term.none"], apart := false, laid := [("hearsay/term.none", laid_hearsay_term_none), ("hearsay/clause.checks", laid_hearsay_clause_checks)], narrowed := true }
def SubsumeReducedUptoSaid : Prop := subsumeReducedUptoRow.holds Tryz.pinned (OpenSpec.upto subsumeReducedSpec)

/-- 'hearsaylaw14.SubsumeCondensed', WHERE WHAT IT READS IS OF BULK AT MOST 1048576: true; the input reads as it did. -/
def subsumeCondensedUptoRow : OpenClaim := { program := "ythkdggoohpgnnaagreatdoor", sum := "1223794f0fcba0ea8dd25a78bc59b4edc962582d4d1f5d10787c3ff07aaf9437", func := "hearsay/hearsaylaw14.SubsumeCondensed", spec := "subsumeCondensed", inPlace := ["internal/bytealg.abigen_runtime_cmpstring"], unfollowed := true, recurses := true, named := ["hearsay/clause.checks", "hearsay/term.none"], apart := false, laid := [("hearsay/term.none", laid_hearsay_term_none), ("hearsay/clause.checks", laid_hearsay_clause_checks)], narrowed := true }
def SubsumeCondensedUptoSaid : Prop := subsumeCondensedUptoRow.holds Tryz.pinned (OpenSpec.upto subsumeCondensedSpec)

/-- 'hearsaylaw14.SubsumeApart', WHERE WHAT IT READS IS OF BULK AT MOST 1048576: true; the input reads as it did. -/
def subsumeApartUptoRow : OpenClaim := { program := "ythkdggoohpgnnaagreatdoor", sum := "1223794f0fcba0ea8dd25a78bc59b4edc962582d4d1f5d10787c3ff07aaf9437", func := "hearsay/hearsaylaw14.SubsumeApart", spec := "subsumeApart", inPlace := ["internal/bytealg.abigen_runtime_cmpstring"], unfollowed := true, recurses := true, named := ["hearsay/clause.checks", "hearsay/term.none"], apart := false, laid := [("hearsay/term.none", laid_hearsay_term_none), ("hearsay/clause.checks", laid_hearsay_clause_checks)], narrowed := true }
def SubsumeApartUptoSaid : Prop := subsumeApartUptoRow.holds Tryz.pinned (OpenSpec.upto subsumeApartSpec)

end Rows
end Go.Proofs.YthkdggoohpgnnaaGreatDoor
