/-
  DERIVED. GIVEN WITH THE SEED: THE CARDS: each row of YtpbonlmiicapfaaDoorRows.lean that lists a variable, with what it lists TIED to the program's text (the seventh form; the later family's looks); each row that meets fmt, with fmt's text TOLD by the authors' own Lean function (tested against real Go, not proved from fmt's source: count such statements apart). THE CARD IS WHAT COUNTS. Prove the row's statement (the work); the ties are given (YtpbonlmiicapfaaDoorTie.lean); close each card by the builder's one call (the guide's Derived/Test/ToyasCard.lean, 'card_holds'). Laid BY PROGRAM, IN A SANDBOX (cutbox-door.mjs). By AI agents, Wed Nov 11 2026. No macro, syntax, notation, axiom, sorry.
-/
import Derived.Test.YtpbonlmiicapfaaDoorRows
import GoSem.ClaimSeven
namespace Go.Proofs.YtpbonlmiicapfaaDoor
namespace Rows

/-- THE TIED CARD OF 'laws.FnExactReadSuite'. -/
def fnExactReadSuiteCard : Claim7 := { stood := { row := fnExactReadSuiteRow, standIns := [], harness := (true, "0b0e4d2acb3212aa7950545e511969e223a0d4b2508ea951933318a12cbf46b4"), looks := false }, kinds := [], alts := [], laidByText := true, laidKinds := [.data, .pinned], laidTests := true, laidLooks := .later }
def FnExactReadSuiteCardSaid : Prop := Claim7.holds Tryd.pinned (.plain (OpenSpec.ofChange fnExactReadSuiteSpec)) fnExactReadSuiteCard

/-- THE TIED CARD OF 'laws.FnSuiteText'. -/
def fnSuiteTextCard : Claim7 := { stood := { row := fnSuiteTextRow, standIns := [], harness := (true, "0b0e4d2acb3212aa7950545e511969e223a0d4b2508ea951933318a12cbf46b4"), looks := false }, kinds := [], alts := [], laidByText := true, laidKinds := [.data, .pinned], laidTests := true, laidLooks := .later }
def FnSuiteTextCardSaid : Prop := Claim7.holds Tryd.pinned (.plain (OpenSpec.ofChange fnSuiteTextSpec)) fnSuiteTextCard

/-- THE SECOND FORM's CARD OF 'laws.FnExactReadSuite'. -/
def fnExactReadSuiteUptoCard : Claim7 := { stood := { row := fnExactReadSuiteUptoRow, standIns := [], harness := (true, "0b0e4d2acb3212aa7950545e511969e223a0d4b2508ea951933318a12cbf46b4"), looks := false }, kinds := [], alts := [], laidByText := true, laidKinds := [.data, .pinned], laidTests := true, laidLooks := .later }
def FnExactReadSuiteUptoCardSaid : Prop := Claim7.holds Tryd.pinned (.plain (OpenSpec.upto fnExactReadSuiteSpec)) fnExactReadSuiteUptoCard

/-- THE SECOND FORM's CARD OF 'laws.FnSuiteText'. -/
def fnSuiteTextUptoCard : Claim7 := { stood := { row := fnSuiteTextUptoRow, standIns := [], harness := (true, "0b0e4d2acb3212aa7950545e511969e223a0d4b2508ea951933318a12cbf46b4"), looks := false }, kinds := [], alts := [], laidByText := true, laidKinds := [.data, .pinned], laidTests := true, laidLooks := .later }
def FnSuiteTextUptoCardSaid : Prop := Claim7.holds Tryd.pinned (.plain (OpenSpec.upto fnSuiteTextSpec)) fnSuiteTextUptoCard
end Rows
end Go.Proofs.YtpbonlmiicapfaaDoor
