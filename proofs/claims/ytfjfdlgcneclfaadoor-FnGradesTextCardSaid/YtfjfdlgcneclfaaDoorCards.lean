/-
  DERIVED. GIVEN WITH THE SEED: THE CARDS: each row of YtfjfdlgcneclfaaDoorRows.lean that lists a variable, with what it lists TIED to the program's text (the seventh form; the later family's looks); each row that meets fmt, with fmt's text TOLD by the authors' own Lean function (tested against real Go, not proved from fmt's source: count such statements apart). THE CARD IS WHAT COUNTS. Prove the row's statement (the work); the ties are given (YtfjfdlgcneclfaaDoorTie.lean); close each card by the builder's one call (the guide's Derived/Test/ToyasCard.lean, 'card_holds'). Laid BY PROGRAM, IN A SANDBOX (cutbox-door.mjs). By AI agents, Wed Nov 11 2026. No macro, syntax, notation, axiom, sorry.
-/
import Derived.Test.YtfjfdlgcneclfaaDoorRows
import GoSem.ClaimSeven
namespace Go.Proofs.YtfjfdlgcneclfaaDoor
namespace Rows

/-- THE TIED CARD OF 'laws.FnExactParseGrades'. -/
def fnExactParseGradesCard : Claim7 := { stood := { row := fnExactParseGradesRow, standIns := [], harness := (true, "5a0511e06e31d77ecddd595b0bdf082e20ae83d026fda374dba2287b7ac6ba0d"), looks := false }, kinds := [], alts := [], laidByText := true, laidKinds := [.data, .pinned], laidTests := true, laidLooks := .later }
def FnExactParseGradesCardSaid : Prop := Claim7.holds Tryd.pinned (.plain (OpenSpec.ofChange fnExactParseGradesSpec)) fnExactParseGradesCard

/-- THE TIED CARD OF 'laws.FnGradesText'. -/
def fnGradesTextCard : Claim7 := { stood := { row := fnGradesTextRow, standIns := [], harness := (true, "5a0511e06e31d77ecddd595b0bdf082e20ae83d026fda374dba2287b7ac6ba0d"), looks := false }, kinds := [], alts := [], laidByText := true, laidKinds := [.data, .pinned], laidTests := true, laidLooks := .later }
def FnGradesTextCardSaid : Prop := Claim7.holds Tryd.pinned (.plain (OpenSpec.ofChange fnGradesTextSpec)) fnGradesTextCard

/-- THE SECOND FORM's CARD OF 'laws.FnExactParseGrades'. -/
def fnExactParseGradesUptoCard : Claim7 := { stood := { row := fnExactParseGradesUptoRow, standIns := [], harness := (true, "5a0511e06e31d77ecddd595b0bdf082e20ae83d026fda374dba2287b7ac6ba0d"), looks := false }, kinds := [], alts := [], laidByText := true, laidKinds := [.data, .pinned], laidTests := true, laidLooks := .later }
def FnExactParseGradesUptoCardSaid : Prop := Claim7.holds Tryd.pinned (.plain (OpenSpec.upto fnExactParseGradesSpec)) fnExactParseGradesUptoCard

/-- THE SECOND FORM's CARD OF 'laws.FnGradesText'. -/
def fnGradesTextUptoCard : Claim7 := { stood := { row := fnGradesTextUptoRow, standIns := [], harness := (true, "5a0511e06e31d77ecddd595b0bdf082e20ae83d026fda374dba2287b7ac6ba0d"), looks := false }, kinds := [], alts := [], laidByText := true, laidKinds := [.data, .pinned], laidTests := true, laidLooks := .later }
def FnGradesTextUptoCardSaid : Prop := Claim7.holds Tryd.pinned (.plain (OpenSpec.upto fnGradesTextSpec)) fnGradesTextUptoCard
end Rows
end Go.Proofs.YtfjfdlgcneclfaaDoor
