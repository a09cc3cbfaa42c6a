/-
  No cell of these rows narrows 'for every input' (looked for: loops, veiled, ifaces, maps, wideKeys, modest, calm, conditions, laid).
  DERIVED. THE GIVEN ROWS OF THIS SEAT. 12 by the template 'for every input the law returns true; each argument reads behind the call as it read before'; 0 by the template 'total and deterministic' (their statements: YtengegdaiphfeaaTotals.lean).
  GIVEN WITH THE SEED: the statements are not yours to turn. If you find one false, say at which input.
  Laid BY PROGRAM, IN A SANDBOX (cutbox-rows.mjs): the forced cells as the released guide's own fill.sh prints them over the translation 66ea708a0ece3759… (all of the seat's roots in one cut). By AI agents, Wed Nov 11 2026. No macro, syntax, notation, axiom, sorry.
-/
import Derived.Test.YtengegdaiphfeaaChecked
import GoSem.Claim
import GoSem.ClaimJoined
import GoSem.ClaimMapViews
import Derived.JoinedTies
import Derived.KernelRfl
namespace Go.Proofs.Ytengegdaiphfeaa
/- THE CELL 'sum', in the pinned program and in every row, IS THE sha256 OF THE DUMP (.gsa) THAT YtengegdaiphfeaaProg.lean LOADS. Nothing in Lean hashes anything: it is a label: what it is worth is what the hold of that sum in a sandbox is worth. -/
noncomputable def Try.pinned : Pinned := { name := "ytengegdaiphfeaa", sum := "66ea708a0ece3759b120787a40ce089cdb01c58bf1bafcaf7e99263d0b36afa6", checked := Try.checked }
namespace Rows
def none {H : Type} : Left H := { results := [], args := [] }

/-- 'laws.FnExactBoundOf': WHATEVER THE INPUT: true; the input reads as it did. -/
def fnExactBoundOfSpec : ChangeSpec := { name := "fnExactBoundOf", fn := fun _ => fun
  | [d] => { results := [.lit (.bool true)], args := [d] }
  | _ => none }
def fnExactBoundOfRow : OpenClaim := { program := "ytengegdaiphfeaa", sum := "66ea708a0ece3759b120787a40ce089cdb01c58bf1bafcaf7e99263d0b36afa6", func := "loop.example/distanceautomata/laws.FnExactBoundOf", spec := "fnExactBoundOf", recurses := true, apart := false }
def FnExactBoundOfSaid : Prop := fnExactBoundOfRow.holds Try.pinned (OpenSpec.ofChange fnExactBoundOfSpec)

/-- ITS FALSE NEIGHBOUR: 'it returns false'. Refute it at one input. -/
def fnExactBoundOfWrong : ChangeSpec := { name := "fnExactBoundOf", fn := fun _ => fun
  | [d] => { results := [.lit (.bool false)], args := [d] }
  | _ => none }
def FnExactBoundOfWrongFalsely : Prop := fnExactBoundOfRow.holds Try.pinned (OpenSpec.ofChange fnExactBoundOfWrong)

/-- 'laws.FnExactGradesOf': WHATEVER THE INPUT: true; the input reads as it did. -/
def fnExactGradesOfSpec : ChangeSpec := { name := "fnExactGradesOf", fn := fun _ => fun
  | [d] => { results := [.lit (.bool true)], args := [d] }
  | _ => none }
def fnExactGradesOfRow : OpenClaim := { program := "ytengegdaiphfeaa", sum := "66ea708a0ece3759b120787a40ce089cdb01c58bf1bafcaf7e99263d0b36afa6", func := "loop.example/distanceautomata/laws.FnExactGradesOf", spec := "fnExactGradesOf", unfollowed := true, recurses := true, apart := false }
def FnExactGradesOfSaid : Prop := fnExactGradesOfRow.holds Try.pinned (OpenSpec.ofChange fnExactGradesOfSpec)

/-- ITS FALSE NEIGHBOUR: 'it returns false'. Refute it at one input. -/
def fnExactGradesOfWrong : ChangeSpec := { name := "fnExactGradesOf", fn := fun _ => fun
  | [d] => { results := [.lit (.bool false)], args := [d] }
  | _ => none }
def FnExactGradesOfWrongFalsely : Prop := fnExactGradesOfRow.holds Try.pinned (OpenSpec.ofChange fnExactGradesOfWrong)

/-- 'laws.FnExactIsIdempotent': WHATEVER THE INPUT: true; the input reads as it did. -/
def fnExactIsIdempotentSpec : ChangeSpec := { name := "fnExactIsIdempotent", fn := fun _ => fun
  | [d] => { results := [.lit (.bool true)], args := [d] }
  | _ => none }
def fnExactIsIdempotentRow : OpenClaim := { program := "ytengegdaiphfeaa", sum := "66ea708a0ece3759b120787a40ce089cdb01c58bf1bafcaf7e99263d0b36afa6", func := "loop.example/distanceautomata/laws.FnExactIsIdempotent", spec := "fnExactIsIdempotent", unfollowed := true, recurses := true, apart := false }
def FnExactIsIdempotentSaid : Prop := fnExactIsIdempotentRow.holds Try.pinned (OpenSpec.ofChange fnExactIsIdempotentSpec)

/-- ITS FALSE NEIGHBOUR: 'it returns false'. Refute it at one input. -/
def fnExactIsIdempotentWrong : ChangeSpec := { name := "fnExactIsIdempotent", fn := fun _ => fun
  | [d] => { results := [.lit (.bool false)], args := [d] }
  | _ => none }
def FnExactIsIdempotentWrongFalsely : Prop := fnExactIsIdempotentRow.holds Try.pinned (OpenSpec.ofChange fnExactIsIdempotentWrong)

/-- 'laws.FnExactMulGrades': WHATEVER THE INPUT: true; the input reads as it did. -/
def fnExactMulGradesSpec : ChangeSpec := { name := "fnExactMulGrades", fn := fun _ => fun
  | [d1, d2] => { results := [.lit (.bool true)], args := [d1, d2] }
  | _ => none }
def fnExactMulGradesRow : OpenClaim := { program := "ytengegdaiphfeaa", sum := "66ea708a0ece3759b120787a40ce089cdb01c58bf1bafcaf7e99263d0b36afa6", func := "loop.example/distanceautomata/laws.FnExactMulGrades", spec := "fnExactMulGrades", unfollowed := true, recurses := true, apart := false }
def FnExactMulGradesSaid : Prop := fnExactMulGradesRow.holds Try.pinned (OpenSpec.ofChange fnExactMulGradesSpec)

/-- ITS FALSE NEIGHBOUR: 'it returns false'. Refute it at one input. -/
def fnExactMulGradesWrong : ChangeSpec := { name := "fnExactMulGrades", fn := fun _ => fun
  | [d1, d2] => { results := [.lit (.bool false)], args := [d1, d2] }
  | _ => none }
def FnExactMulGradesWrongFalsely : Prop := fnExactMulGradesRow.holds Try.pinned (OpenSpec.ofChange fnExactMulGradesWrong)

/-- 'laws.FnIdempotentOf': WHATEVER THE INPUT: true; the input reads as it did. -/
def fnIdempotentOfSpec : ChangeSpec := { name := "fnIdempotentOf", fn := fun _ => fun
  | [d] => { results := [.lit (.bool true)], args := [d] }
  | _ => none }
def fnIdempotentOfRow : OpenClaim := { program := "ytengegdaiphfeaa", sum := "66ea708a0ece3759b120787a40ce089cdb01c58bf1bafcaf7e99263d0b36afa6", func := "loop.example/distanceautomata/laws.FnIdempotentOf", spec := "fnIdempotentOf", unfollowed := true, recurses := true, apart := false }
def FnIdempotentOfSaid : Prop := fnIdempotentOfRow.holds Try.pinned (OpenSpec.ofChange fnIdempotentOfSpec)

/-- ITS FALSE NEIGHBOUR: 'it returns false'. Refute it at one input. -/
def fnIdempotentOfWrong : ChangeSpec := { name := "fnIdempotentOf", fn := fun _ => fun
  | [d] => { results := [.lit (.bool false)], args := [d] }
  | _ => none }
def FnIdempotentOfWrongFalsely : Prop := fnIdempotentOfRow.holds Try.pinned (OpenSpec.ofChange fnIdempotentOfWrong)

/-- 'laws.FnExactFormatGrades': WHATEVER THE INPUT: true; the input reads as it did. -/
def fnExactFormatGradesSpec : ChangeSpec := { name := "fnExactFormatGrades", fn := fun _ => fun
  | [d] => { results := [.lit (.bool true)], args := [d] }
  | _ => none }
def fnExactFormatGradesRow : OpenClaim := { program := "ytengegdaiphfeaa", sum := "66ea708a0ece3759b120787a40ce089cdb01c58bf1bafcaf7e99263d0b36afa6", func := "loop.example/distanceautomata/laws.FnExactFormatGrades", spec := "fnExactFormatGrades", inPlace := ["internal/abi.NoEscape", "internal/bytealg.MakeNoZero"], unfollowed := true, recurses := true, apart := false }
def FnExactFormatGradesSaid : Prop := fnExactFormatGradesRow.holds Try.pinned (OpenSpec.ofChange fnExactFormatGradesSpec)

/-- ITS FALSE NEIGHBOUR: 'it returns false'. Refute it at one input. -/
def fnExactFormatGradesWrong : ChangeSpec := { name := "fnExactFormatGrades", fn := fun _ => fun
  | [d] => { results := [.lit (.bool false)], args := [d] }
  | _ => none }
def FnExactFormatGradesWrongFalsely : Prop := fnExactFormatGradesRow.holds Try.pinned (OpenSpec.ofChange fnExactFormatGradesWrong)

/-- 'laws.FnMulGrades': WHATEVER THE INPUT: true; the input reads as it did. -/
def fnMulGradesSpec : ChangeSpec := { name := "fnMulGrades", fn := fun _ => fun
  | [d1, d2] => { results := [.lit (.bool true)], args := [d1, d2] }
  | _ => none }
def fnMulGradesRow : OpenClaim := { program := "ytengegdaiphfeaa", sum := "66ea708a0ece3759b120787a40ce089cdb01c58bf1bafcaf7e99263d0b36afa6", func := "loop.example/distanceautomata/laws.FnMulGrades", spec := "fnMulGrades", unfollowed := true, recurses := true, apart := false }
def FnMulGradesSaid : Prop := fnMulGradesRow.holds Try.pinned (OpenSpec.ofChange fnMulGradesSpec)

/-- ITS FALSE NEIGHBOUR: 'it returns false'. Refute it at one input. -/
def fnMulGradesWrong : ChangeSpec := { name := "fnMulGrades", fn := fun _ => fun
  | [d1, d2] => { results := [.lit (.bool false)], args := [d1, d2] }
  | _ => none }
def FnMulGradesWrongFalsely : Prop := fnMulGradesRow.holds Try.pinned (OpenSpec.ofChange fnMulGradesWrong)

/-- 'laws.FnExactIdempotentOf': WHATEVER THE INPUT: true; the input reads as it did. -/
def fnExactIdempotentOfSpec : ChangeSpec := { name := "fnExactIdempotentOf", fn := fun _ => fun
  | [d] => { results := [.lit (.bool true)], args := [d] }
  | _ => none }
def fnExactIdempotentOfRow : OpenClaim := { program := "ytengegdaiphfeaa", sum := "66ea708a0ece3759b120787a40ce089cdb01c58bf1bafcaf7e99263d0b36afa6", func := "loop.example/distanceautomata/laws.FnExactIdempotentOf", spec := "fnExactIdempotentOf", unfollowed := true, recurses := true, apart := false }
def FnExactIdempotentOfSaid : Prop := fnExactIdempotentOfRow.holds Try.pinned (OpenSpec.ofChange fnExactIdempotentOfSpec)

/-- ITS FALSE NEIGHBOUR: 'it returns false'. Refute it at one input. -/
def fnExactIdempotentOfWrong : ChangeSpec := { name := "fnExactIdempotentOf", fn := fun _ => fun
  | [d] => { results := [.lit (.bool false)], args := [d] }
  | _ => none }
def FnExactIdempotentOfWrongFalsely : Prop := fnExactIdempotentOfRow.holds Try.pinned (OpenSpec.ofChange fnExactIdempotentOfWrong)

/-- 'laws.FnExactStabilise': WHATEVER THE INPUT: true; the input reads as it did. -/
def fnExactStabiliseSpec : ChangeSpec := { name := "fnExactStabilise", fn := fun _ => fun
  | [d] => { results := [.lit (.bool true)], args := [d] }
  | _ => none }
def fnExactStabiliseRow : OpenClaim := { program := "ytengegdaiphfeaa", sum := "66ea708a0ece3759b120787a40ce089cdb01c58bf1bafcaf7e99263d0b36afa6", func := "loop.example/distanceautomata/laws.FnExactStabilise", spec := "fnExactStabilise", unfollowed := true, recurses := true, apart := false }
def FnExactStabiliseSaid : Prop := fnExactStabiliseRow.holds Try.pinned (OpenSpec.ofChange fnExactStabiliseSpec)

/-- ITS FALSE NEIGHBOUR: 'it returns false'. Refute it at one input. -/
def fnExactStabiliseWrong : ChangeSpec := { name := "fnExactStabilise", fn := fun _ => fun
  | [d] => { results := [.lit (.bool false)], args := [d] }
  | _ => none }
def FnExactStabiliseWrongFalsely : Prop := fnExactStabiliseRow.holds Try.pinned (OpenSpec.ofChange fnExactStabiliseWrong)

/-- 'laws.FnStabilise': WHATEVER THE INPUT: true; the input reads as it did. -/
def fnStabiliseSpec : ChangeSpec := { name := "fnStabilise", fn := fun _ => fun
  | [d] => { results := [.lit (.bool true)], args := [d] }
  | _ => none }
def fnStabiliseRow : OpenClaim := { program := "ytengegdaiphfeaa", sum := "66ea708a0ece3759b120787a40ce089cdb01c58bf1bafcaf7e99263d0b36afa6", func := "loop.example/distanceautomata/laws.FnStabilise", spec := "fnStabilise", unfollowed := true, recurses := true, apart := false }
def FnStabiliseSaid : Prop := fnStabiliseRow.holds Try.pinned (OpenSpec.ofChange fnStabiliseSpec)

/-- ITS FALSE NEIGHBOUR: 'it returns false'. Refute it at one input. -/
def fnStabiliseWrong : ChangeSpec := { name := "fnStabilise", fn := fun _ => fun
  | [d] => { results := [.lit (.bool false)], args := [d] }
  | _ => none }
def FnStabiliseWrongFalsely : Prop := fnStabiliseRow.holds Try.pinned (OpenSpec.ofChange fnStabiliseWrong)

/-- 'laws.FnExactExpandExpression': WHATEVER THE INPUT: true; the input reads as it did. -/
def fnExactExpandExpressionSpec : ChangeSpec := { name := "fnExactExpandExpression", fn := fun _ => fun
  | [d1, d2] => { results := [.lit (.bool true)], args := [d1, d2] }
  | _ => none }
def fnExactExpandExpressionRow : OpenClaim := { program := "ytengegdaiphfeaa", sum := "66ea708a0ece3759b120787a40ce089cdb01c58bf1bafcaf7e99263d0b36afa6", func := "loop.example/distanceautomata/laws.FnExactExpandExpression", spec := "fnExactExpandExpression", inPlace := ["internal/abi.NoEscape", "internal/bytealg.MakeNoZero"], recurses := true, apart := false }
def FnExactExpandExpressionSaid : Prop := fnExactExpandExpressionRow.holds Try.pinned (OpenSpec.ofChange fnExactExpandExpressionSpec)

/-- ITS FALSE NEIGHBOUR: 'it returns false'. Refute it at one input. -/
def fnExactExpandExpressionWrong : ChangeSpec := { name := "fnExactExpandExpression", fn := fun _ => fun
  | [d1, d2] => { results := [.lit (.bool false)], args := [d1, d2] }
  | _ => none }
def FnExactExpandExpressionWrongFalsely : Prop := fnExactExpandExpressionRow.holds Try.pinned (OpenSpec.ofChange fnExactExpandExpressionWrong)

/-- 'laws.FnExpand': WHATEVER THE INPUT: true; the input reads as it did. -/
def fnExpandSpec : ChangeSpec := { name := "fnExpand", fn := fun _ => fun
  | [d1, d2] => { results := [.lit (.bool true)], args := [d1, d2] }
  | _ => none }
def fnExpandRow : OpenClaim := { program := "ytengegdaiphfeaa", sum := "66ea708a0ece3759b120787a40ce089cdb01c58bf1bafcaf7e99263d0b36afa6", func := "loop.example/distanceautomata/laws.FnExpand", spec := "fnExpand", inPlace := ["internal/abi.NoEscape", "internal/bytealg.MakeNoZero"], recurses := true, apart := false }
def FnExpandSaid : Prop := fnExpandRow.holds Try.pinned (OpenSpec.ofChange fnExpandSpec)

/-- ITS FALSE NEIGHBOUR: 'it returns false'. Refute it at one input. -/
def fnExpandWrong : ChangeSpec := { name := "fnExpand", fn := fun _ => fun
  | [d1, d2] => { results := [.lit (.bool false)], args := [d1, d2] }
  | _ => none }
def FnExpandWrongFalsely : Prop := fnExpandRow.holds Try.pinned (OpenSpec.ofChange fnExpandWrong)

/- THE SECOND FORM. 'bulk': how many values and letters a reading holds, each counted each time it is reached (what is shared counts as often as it is met; a slice's spare places count too). A statement '..UptoSaid' is the law's where the arguments, and the package variables that the reading takes, are together of bulk at most 1048576: NARROWER than '..Said'. Prove '..Said' where nothing that the law and all that it calls make is longer than what came in: it says more and counts as full. Else prove '..UptoSaid'. A law counts once. -/
mutual
def uptoBulk {H : Type} : DataW H → Nat
  | .lit (.string bytes) => bytes.length + 1
  | .lit _ => 1
  | .nil => 1
  | .ptr d => uptoBulk d + 1
  | .slice elems spare => uptoBulkAll elems + uptoBulkAll spare + 1
  | .agg parts => uptoBulkAll parts + 1
  | .iface _ d => uptoBulk d + 1
  | .map entries => uptoBulkEntries entries + 1
  | .held _ => 1
def uptoBulkAll {H : Type} : List (DataW H) → Nat
  | [] => 0
  | d :: r => uptoBulk d + uptoBulkAll r
def uptoBulkEntries {H : Type} : List (Lit × DataW H) → Nat
  | [] => 0
  | x :: r => uptoBulkEntry x + uptoBulkEntries r
def uptoBulkEntry {H : Type} : Lit × DataW H → Nat
  | (.string bytes, d) => bytes.length + uptoBulk d + 1
  | (_, d) => uptoBulk d + 1
 end
def uptoSmall : (H : Type) → List (DataW H) → Bool := fun _ ds => decide (uptoBulkAll ds ≤ 1048576)
def OpenSpec.upto (s : _root_.Go.ChangeSpec) : _root_.Go.OpenSpec := { _root_.Go.OpenSpec.ofChange s with cond := some uptoSmall }

/-- 'laws.FnExactBoundOf', WHERE WHAT IT READS IS OF BULK AT MOST 1048576: true; the input reads as it did. -/
def fnExactBoundOfUptoRow : OpenClaim := { program := "ytengegdaiphfeaa", sum := "66ea708a0ece3759b120787a40ce089cdb01c58bf1bafcaf7e99263d0b36afa6", func := "loop.example/distanceautomata/laws.FnExactBoundOf", spec := "fnExactBoundOf", recurses := true, apart := false, narrowed := true }
def FnExactBoundOfUptoSaid : Prop := fnExactBoundOfUptoRow.holds Try.pinned (OpenSpec.upto fnExactBoundOfSpec)

/-- 'laws.FnExactGradesOf', WHERE WHAT IT READS IS OF BULK AT MOST 1048576: true; the input reads as it did. -/
def fnExactGradesOfUptoRow : OpenClaim := { program := "ytengegdaiphfeaa", sum := "66ea708a0ece3759b120787a40ce089cdb01c58bf1bafcaf7e99263d0b36afa6", func := "loop.example/distanceautomata/laws.FnExactGradesOf", spec := "fnExactGradesOf", unfollowed := true, recurses := true, apart := false, narrowed := true }
def FnExactGradesOfUptoSaid : Prop := fnExactGradesOfUptoRow.holds Try.pinned (OpenSpec.upto fnExactGradesOfSpec)

/-- 'laws.FnExactIsIdempotent', WHERE WHAT IT READS IS OF BULK AT MOST 1048576: true; the input reads as it did. -/
def fnExactIsIdempotentUptoRow : OpenClaim := { program := "ytengegdaiphfeaa", sum := "66ea708a0ece3759b120787a40ce089cdb01c58bf1bafcaf7e99263d0b36afa6", func := "loop.example/distanceautomata/laws.FnExactIsIdempotent", spec := "fnExactIsIdempotent", unfollowed := true, recurses := true, apart := false, narrowed := true }
def FnExactIsIdempotentUptoSaid : Prop := fnExactIsIdempotentUptoRow.holds Try.pinned (OpenSpec.upto fnExactIsIdempotentSpec)

/-- 'laws.FnExactMulGrades', WHERE WHAT IT READS IS OF BULK AT MOST 1048576: true; the input reads as it did. -/
def fnExactMulGradesUptoRow : OpenClaim := { program := "ytengegdaiphfeaa", sum := "66ea708a0ece3759b120787a40ce089cdb01c58bf1bafcaf7e99263d0b36afa6", func := "loop.example/distanceautomata/laws.FnExactMulGrades", spec := "fnExactMulGrades", unfollowed := true, recurses := true, apart := false, narrowed := true }
def FnExactMulGradesUptoSaid : Prop := fnExactMulGradesUptoRow.holds Try.pinned (OpenSpec.upto fnExactMulGradesSpec)

/-- 'laws.FnIdempotentOf', WHERE WHAT IT READS IS OF BULK AT MOST 1048576: true; the input reads as it did. -/
def fnIdempotentOfUptoRow : OpenClaim := { program := "ytengegdaiphfeaa", sum := "66ea708a0ece3759b120787a40ce089cdb01c58bf1bafcaf7e99263d0b36afa6", func := "loop.example/distanceautomata/laws.FnIdempotentOf", spec := "fnIdempotentOf", unfollowed := true, recurses := true, apart := false, narrowed := true }
def FnIdempotentOfUptoSaid : Prop := fnIdempotentOfUptoRow.holds Try.pinned (OpenSpec.upto fnIdempotentOfSpec)

/-- 'laws.FnExactFormatGrades', WHERE WHAT IT READS IS OF BULK AT MOST 1048576: true; the input reads as it did. -/
def fnExactFormatGradesUptoRow : OpenClaim := { program := "ytengegdaiphfeaa", sum := "66ea708a0ece3759b120787a40ce089cdb01c58bf1bafcaf7e99263d0b36afa6", func := "loop.example/distanceautomata/laws.FnExactFormatGrades", spec := "fnExactFormatGrades", inPlace := ["internal/abi.NoEscape", "internal/bytealg.MakeNoZero"], unfollowed := true, recurses := true, apart := false, narrowed := true }
def FnExactFormatGradesUptoSaid : Prop := fnExactFormatGradesUptoRow.holds Try.pinned (OpenSpec.upto fnExactFormatGradesSpec)

/-- 'laws.FnMulGrades', WHERE WHAT IT READS IS OF BULK AT MOST 1048576: true; the input reads as it did. -/
def fnMulGradesUptoRow : OpenClaim := { program := "ytengegdaiphfeaa", sum := "66ea708a0ece3759b120787a40ce089cdb01c58bf1bafcaf7e99263d0b36afa6", func := "loop.example/distanceautomata/laws.FnMulGrades", spec := "fnMulGrades", unfollowed := true, recurses := true, apart := false, narrowed := true }
def FnMulGradesUptoSaid : Prop := fnMulGradesUptoRow.holds Try.pinned (OpenSpec.upto fnMulGradesSpec)

/-- 'laws.FnExactIdempotentOf', WHERE WHAT IT READS IS OF BULK AT MOST 1048576: true; the input reads as it did. -/
def fnExactIdempotentOfUptoRow : OpenClaim := { program := "ytengegdaiphfeaa", sum := "66ea708a0ece3759b120787a40ce089cdb01c58bf1bafcaf7e99263d0b36afa6", func := "loop.example/distanceautomata/laws.FnExactIdempotentOf", spec := "fnExactIdempotentOf", unfollowed := true, recurses := true, apart := false, narrowed := true }
def FnExactIdempotentOfUptoSaid : Prop := fnExactIdempotentOfUptoRow.holds Try.pinned (OpenSpec.upto fnExactIdempotentOfSpec)

/-- 'laws.FnExactStabilise', WHERE WHAT IT READS IS OF BULK AT MOST 1048576: true; the input reads as it did. -/
def fnExactStabiliseUptoRow : OpenClaim := { program := "ytengegdaiphfeaa", sum := "66ea708a0ece3759b120787a40ce089cdb01c58bf1bafcaf7e99263d0b36afa6", func := "loop.example/distanceautomata/laws.FnExactStabilise", spec := "fnExactStabilise", unfollowed := true, recurses := true, apart := false, narrowed := true }
def FnExactStabiliseUptoSaid : Prop := fnExactStabiliseUptoRow.holds Try.pinned (OpenSpec.upto fnExactStabiliseSpec)

/-- 'laws.FnStabilise', WHERE WHAT IT READS IS OF BULK AT MOST 1048576: true; the input reads as it did. -/
def fnStabiliseUptoRow : OpenClaim := { program := "ytengegdaiphfeaa", sum := "66ea708a0ece3759b120787a40ce089cdb01c58bf1bafcaf7e99263d0b36afa6", func := "loop.example/distanceautomata/laws.FnStabilise", spec := "fnStabilise", unfollowed := true, recurses := true, apart := false, narrowed := true }
def FnStabiliseUptoSaid : Prop := fnStabiliseUptoRow.holds Try.pinned (OpenSpec.upto fnStabiliseSpec)

/-- 'laws.FnExactExpandExpression', WHERE WHAT IT READS IS OF BULK AT MOST 1048576: true; the input reads as it did. -/
def fnExactExpandExpressionUptoRow : OpenClaim := { program := "ytengegdaiphfeaa", sum := "66ea708a0ece3759b120787a40ce089cdb01c58bf1bafcaf7e99263d0b36afa6", func := "loop.example/distanceautomata/laws.FnExactExpandExpression", spec := "fnExactExpandExpression", inPlace := ["internal/abi.NoEscape", "internal/bytealg.MakeNoZero"], recurses := true, apart := false, narrowed := true }
def FnExactExpandExpressionUptoSaid : Prop := fnExactExpandExpressionUptoRow.holds Try.pinned (OpenSpec.upto fnExactExpandExpressionSpec)

/-- 'laws.FnExpand', WHERE WHAT IT READS IS OF BULK AT MOST 1048576: true; the input reads as it did. -/
def fnExpandUptoRow : OpenClaim := { program := "ytengegdaiphfeaa", sum := "66ea708a0ece3759b120787a40ce089cdb01c58bf1bafcaf7e99263d0b36afa6", func := "loop.example/distanceautomata/laws.FnExpand", spec := "fnExpand", inPlace := ["internal/abi.NoEscape", "internal/bytealg.MakeNoZero"], recurses := true, apart := false, narrowed := true }
def FnExpandUptoSaid : Prop := fnExpandUptoRow.holds Try.pinned (OpenSpec.upto fnExpandSpec)

end Rows
end Go.Proofs.Ytengegdaiphfeaa
