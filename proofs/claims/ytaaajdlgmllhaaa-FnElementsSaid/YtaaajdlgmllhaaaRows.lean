/-
  No cell of these rows narrows 'for every input' (looked for: loops, veiled, ifaces, maps, wideKeys, modest, calm, conditions, laid).
  DERIVED. THE GIVEN ROWS OF THIS SEAT. 10 by the template 'for every input the law returns true; each argument reads behind the call as it read before'; 0 by the template 'total and deterministic' (their statements: YtaaajdlgmllhaaaTotals.lean).
  GIVEN WITH THE SEED: the statements are not yours to turn. If you find one false, say at which input.
  Laid BY PROGRAM, IN A SANDBOX (cutbox-rows.mjs): the forced cells as the released guide's own fill.sh prints them over the translation a9dda5ede229a390… (all of the seat's roots in one cut). By AI agents, Wed Nov 11 2026. No macro, syntax, notation, axiom, sorry.
-/
import Derived.Test.YtaaajdlgmllhaaaChecked
import GoSem.Claim
import GoSem.ClaimJoined
import GoSem.ClaimMapViews
import Derived.JoinedTies
import Derived.KernelRfl
namespace Go.Proofs.Ytaaajdlgmllhaaa
/- THE CELL 'sum', in the pinned program and in every row, IS THE sha256 OF THE DUMP (.gsa) THAT YtaaajdlgmllhaaaProg.lean LOADS. Nothing in Lean hashes anything: it is a label: what it is worth is what the hold of that sum in a sandbox is worth. -/
noncomputable def Try.pinned : Pinned := { name := "ytaaajdlgmllhaaa", sum := "a9dda5ede229a3903d1e8eab8ef9088617fa8e7905ac584a03e4afa5cbf07759", checked := Try.checked }
namespace Rows
def none {H : Type} : Left H := { results := [], args := [] }

/-- 'laws.FnExactRunOf': WHATEVER THE INPUT: true; the input reads as it did. -/
def fnExactRunOfSpec : ChangeSpec := { name := "fnExactRunOf", fn := fun _ => fun
  | [d1, d2] => { results := [.lit (.bool true)], args := [d1, d2] }
  | _ => none }
def fnExactRunOfRow : OpenClaim := { program := "ytaaajdlgmllhaaa", sum := "a9dda5ede229a3903d1e8eab8ef9088617fa8e7905ac584a03e4afa5cbf07759", func := "loop.example/distanceautomata/laws.FnExactRunOf", spec := "fnExactRunOf", inPlace := ["internal/bytealg.abigen_runtime_cmpstring"], apart := false }
def FnExactRunOfSaid : Prop := fnExactRunOfRow.holds Try.pinned (OpenSpec.ofChange fnExactRunOfSpec)

/-- ITS FALSE NEIGHBOUR: 'it returns false'. Refute it at one input. -/
def fnExactRunOfWrong : ChangeSpec := { name := "fnExactRunOf", fn := fun _ => fun
  | [d1, d2] => { results := [.lit (.bool false)], args := [d1, d2] }
  | _ => none }
def FnExactRunOfWrongFalsely : Prop := fnExactRunOfRow.holds Try.pinned (OpenSpec.ofChange fnExactRunOfWrong)

/-- 'laws.FnExactGrowthOf': WHATEVER THE INPUT: true; the input reads as it did. -/
def fnExactGrowthOfSpec : ChangeSpec := { name := "fnExactGrowthOf", fn := fun _ => fun
  | [d1, d2, d3] => { results := [.lit (.bool true)], args := [d1, d2, d3] }
  | _ => none }
def fnExactGrowthOfRow : OpenClaim := { program := "ytaaajdlgmllhaaa", sum := "a9dda5ede229a3903d1e8eab8ef9088617fa8e7905ac584a03e4afa5cbf07759", func := "loop.example/distanceautomata/laws.FnExactGrowthOf", spec := "fnExactGrowthOf", inPlace := ["internal/bytealg.abigen_runtime_cmpstring", "internal/abi.NoEscape", "internal/bytealg.MakeNoZero"], recurses := true, apart := false }
def FnExactGrowthOfSaid : Prop := fnExactGrowthOfRow.holds Try.pinned (OpenSpec.ofChange fnExactGrowthOfSpec)

/-- ITS FALSE NEIGHBOUR: 'it returns false'. Refute it at one input. -/
def fnExactGrowthOfWrong : ChangeSpec := { name := "fnExactGrowthOf", fn := fun _ => fun
  | [d1, d2, d3] => { results := [.lit (.bool false)], args := [d1, d2, d3] }
  | _ => none }
def FnExactGrowthOfWrongFalsely : Prop := fnExactGrowthOfRow.holds Try.pinned (OpenSpec.ofChange fnExactGrowthOfWrong)

/-- 'laws.FnShortWords': WHATEVER THE INPUT: true; the input reads as it did. -/
def fnShortWordsSpec : ChangeSpec := { name := "fnShortWords", fn := fun _ => fun
  | [d] => { results := [.lit (.bool true)], args := [d] }
  | _ => none }
def fnShortWordsRow : OpenClaim := { program := "ytaaajdlgmllhaaa", sum := "a9dda5ede229a3903d1e8eab8ef9088617fa8e7905ac584a03e4afa5cbf07759", func := "loop.example/distanceautomata/laws.FnShortWords", spec := "fnShortWords", inPlace := ["internal/bytealg.abigen_runtime_cmpstring"], apart := false }
def FnShortWordsSaid : Prop := fnShortWordsRow.holds Try.pinned (OpenSpec.ofChange fnShortWordsSpec)

/-- ITS FALSE NEIGHBOUR: 'it returns false'. Refute it at one input. -/
def fnShortWordsWrong : ChangeSpec := { name := "fnShortWords", fn := fun _ => fun
  | [d] => { results := [.lit (.bool false)], args := [d] }
  | _ => none }
def FnShortWordsWrongFalsely : Prop := fnShortWordsRow.holds Try.pinned (OpenSpec.ofChange fnShortWordsWrong)

/-- 'laws.FnRunOf': WHATEVER THE INPUT: true; the input reads as it did. -/
def fnRunOfSpec : ChangeSpec := { name := "fnRunOf", fn := fun _ => fun
  | [d1, d2] => { results := [.lit (.bool true)], args := [d1, d2] }
  | _ => none }
def fnRunOfRow : OpenClaim := { program := "ytaaajdlgmllhaaa", sum := "a9dda5ede229a3903d1e8eab8ef9088617fa8e7905ac584a03e4afa5cbf07759", func := "loop.example/distanceautomata/laws.FnRunOf", spec := "fnRunOf", inPlace := ["internal/bytealg.abigen_runtime_cmpstring"], unfollowed := true, recurses := true, apart := false }
def FnRunOfSaid : Prop := fnRunOfRow.holds Try.pinned (OpenSpec.ofChange fnRunOfSpec)

/-- ITS FALSE NEIGHBOUR: 'it returns false'. Refute it at one input. -/
def fnRunOfWrong : ChangeSpec := { name := "fnRunOf", fn := fun _ => fun
  | [d1, d2] => { results := [.lit (.bool false)], args := [d1, d2] }
  | _ => none }
def FnRunOfWrongFalsely : Prop := fnRunOfRow.holds Try.pinned (OpenSpec.ofChange fnRunOfWrong)

/-- 'laws.FnGradesOf': WHATEVER THE INPUT: true; the input reads as it did. -/
def fnGradesOfSpec : ChangeSpec := { name := "fnGradesOf", fn := fun _ => fun
  | [d] => { results := [.lit (.bool true)], args := [d] }
  | _ => none }
def fnGradesOfRow : OpenClaim := { program := "ytaaajdlgmllhaaa", sum := "a9dda5ede229a3903d1e8eab8ef9088617fa8e7905ac584a03e4afa5cbf07759", func := "loop.example/distanceautomata/laws.FnGradesOf", spec := "fnGradesOf", inPlace := ["internal/bytealg.abigen_runtime_cmpstring"], unfollowed := true, recurses := true, apart := false }
def FnGradesOfSaid : Prop := fnGradesOfRow.holds Try.pinned (OpenSpec.ofChange fnGradesOfSpec)

/-- ITS FALSE NEIGHBOUR: 'it returns false'. Refute it at one input. -/
def fnGradesOfWrong : ChangeSpec := { name := "fnGradesOf", fn := fun _ => fun
  | [d] => { results := [.lit (.bool false)], args := [d] }
  | _ => none }
def FnGradesOfWrongFalsely : Prop := fnGradesOfRow.holds Try.pinned (OpenSpec.ofChange fnGradesOfWrong)

/-- 'laws.FnExactExpressionFor': WHATEVER THE INPUT: true; the input reads as it did. -/
def fnExactExpressionForSpec : ChangeSpec := { name := "fnExactExpressionFor", fn := fun _ => fun
  | [d1, d2] => { results := [.lit (.bool true)], args := [d1, d2] }
  | _ => none }
def fnExactExpressionForRow : OpenClaim := { program := "ytaaajdlgmllhaaa", sum := "a9dda5ede229a3903d1e8eab8ef9088617fa8e7905ac584a03e4afa5cbf07759", func := "loop.example/distanceautomata/laws.FnExactExpressionFor", spec := "fnExactExpressionFor", inPlace := ["internal/bytealg.abigen_runtime_cmpstring"], unfollowed := true, recurses := true, apart := false }
def FnExactExpressionForSaid : Prop := fnExactExpressionForRow.holds Try.pinned (OpenSpec.ofChange fnExactExpressionForSpec)

/-- ITS FALSE NEIGHBOUR: 'it returns false'. Refute it at one input. -/
def fnExactExpressionForWrong : ChangeSpec := { name := "fnExactExpressionFor", fn := fun _ => fun
  | [d1, d2] => { results := [.lit (.bool false)], args := [d1, d2] }
  | _ => none }
def FnExactExpressionForWrongFalsely : Prop := fnExactExpressionForRow.holds Try.pinned (OpenSpec.ofChange fnExactExpressionForWrong)

/-- 'laws.FnExactStablesOf': WHATEVER THE INPUT: true; the input reads as it did. -/
def fnExactStablesOfSpec : ChangeSpec := { name := "fnExactStablesOf", fn := fun _ => fun
  | [d] => { results := [.lit (.bool true)], args := [d] }
  | _ => none }
def fnExactStablesOfRow : OpenClaim := { program := "ytaaajdlgmllhaaa", sum := "a9dda5ede229a3903d1e8eab8ef9088617fa8e7905ac584a03e4afa5cbf07759", func := "loop.example/distanceautomata/laws.FnExactStablesOf", spec := "fnExactStablesOf", inPlace := ["internal/bytealg.abigen_runtime_cmpstring"], unfollowed := true, recurses := true, apart := false }
def FnExactStablesOfSaid : Prop := fnExactStablesOfRow.holds Try.pinned (OpenSpec.ofChange fnExactStablesOfSpec)

/-- ITS FALSE NEIGHBOUR: 'it returns false'. Refute it at one input. -/
def fnExactStablesOfWrong : ChangeSpec := { name := "fnExactStablesOf", fn := fun _ => fun
  | [d] => { results := [.lit (.bool false)], args := [d] }
  | _ => none }
def FnExactStablesOfWrongFalsely : Prop := fnExactStablesOfRow.holds Try.pinned (OpenSpec.ofChange fnExactStablesOfWrong)

/-- 'laws.FnExactWordElements': WHATEVER THE INPUT: true; the input reads as it did. -/
def fnExactWordElementsSpec : ChangeSpec := { name := "fnExactWordElements", fn := fun _ => fun
  | [d] => { results := [.lit (.bool true)], args := [d] }
  | _ => none }
def fnExactWordElementsRow : OpenClaim := { program := "ytaaajdlgmllhaaa", sum := "a9dda5ede229a3903d1e8eab8ef9088617fa8e7905ac584a03e4afa5cbf07759", func := "loop.example/distanceautomata/laws.FnExactWordElements", spec := "fnExactWordElements", inPlace := ["internal/bytealg.abigen_runtime_cmpstring"], unfollowed := true, recurses := true, apart := false }
def FnExactWordElementsSaid : Prop := fnExactWordElementsRow.holds Try.pinned (OpenSpec.ofChange fnExactWordElementsSpec)

/-- ITS FALSE NEIGHBOUR: 'it returns false'. Refute it at one input. -/
def fnExactWordElementsWrong : ChangeSpec := { name := "fnExactWordElements", fn := fun _ => fun
  | [d] => { results := [.lit (.bool false)], args := [d] }
  | _ => none }
def FnExactWordElementsWrongFalsely : Prop := fnExactWordElementsRow.holds Try.pinned (OpenSpec.ofChange fnExactWordElementsWrong)

/-- 'laws.FnElements': WHATEVER THE INPUT: true; the input reads as it did. -/
def fnElementsSpec : ChangeSpec := { name := "fnElements", fn := fun _ => fun
  | [d1, d2] => { results := [.lit (.bool true)], args := [d1, d2] }
  | _ => none }
def fnElementsRow : OpenClaim := { program := "ytaaajdlgmllhaaa", sum := "a9dda5ede229a3903d1e8eab8ef9088617fa8e7905ac584a03e4afa5cbf07759", func := "loop.example/distanceautomata/laws.FnElements", spec := "fnElements", inPlace := ["internal/bytealg.abigen_runtime_cmpstring"], unfollowed := true, recurses := true, apart := false }
def FnElementsSaid : Prop := fnElementsRow.holds Try.pinned (OpenSpec.ofChange fnElementsSpec)

/-- ITS FALSE NEIGHBOUR: 'it returns false'. Refute it at one input. -/
def fnElementsWrong : ChangeSpec := { name := "fnElements", fn := fun _ => fun
  | [d1, d2] => { results := [.lit (.bool false)], args := [d1, d2] }
  | _ => none }
def FnElementsWrongFalsely : Prop := fnElementsRow.holds Try.pinned (OpenSpec.ofChange fnElementsWrong)

/-- 'laws.FnValueJoin': WHATEVER THE INPUT: true; the input reads as it did. -/
def fnValueJoinSpec : ChangeSpec := { name := "fnValueJoin", fn := fun _ => fun
  | [d1, d2] => { results := [.lit (.bool true)], args := [d1, d2] }
  | _ => none }
def fnValueJoinRow : OpenClaim := { program := "ytaaajdlgmllhaaa", sum := "a9dda5ede229a3903d1e8eab8ef9088617fa8e7905ac584a03e4afa5cbf07759", func := "loop.example/distanceautomata/laws.FnValueJoin", spec := "fnValueJoin", inPlace := ["internal/bytealg.abigen_runtime_cmpstring"], unfollowed := true, recurses := true, apart := false }
def FnValueJoinSaid : Prop := fnValueJoinRow.holds Try.pinned (OpenSpec.ofChange fnValueJoinSpec)

/-- ITS FALSE NEIGHBOUR: 'it returns false'. Refute it at one input. -/
def fnValueJoinWrong : ChangeSpec := { name := "fnValueJoin", fn := fun _ => fun
  | [d1, d2] => { results := [.lit (.bool false)], args := [d1, d2] }
  | _ => none }
def FnValueJoinWrongFalsely : Prop := fnValueJoinRow.holds Try.pinned (OpenSpec.ofChange fnValueJoinWrong)

/- THE SECOND FORM. 'bulk': how many values and letters a reading holds, each counted each time it is reached (what is shared counts as often as it is met; a slice's spare places count too). A statement '..UptoSaid' is the law's where the arguments, and the package variables that the reading takes, are together of bulk at most 1048576: NARROWER than '..Said'. Prove '..Said' where nothing that the law and all that it calls make is longer than what came in: it says more and counts as full. Else prove '..UptoSaid'. A law counts once. -/
mutual
def uptoBulk {H : Type} : DataW H → Nat
  | .lit (.string bytes) => bytes.length + 1
  | .lit _ => 1
  | .nil => 1
  | .ptr d => uptoBulk d + 1
  | .slice elems spare => uptoBulkAll elems + uptoBulkAll spare + 1
  | .agg parts => uptoBulkAll parts + 1
  | .iface _ d => uptoBulk d + 1
  | .map entries => uptoBulkEntries entries + 1
  | .held _ => 1
def uptoBulkAll {H : Type} : List (DataW H) → Nat
  | [] => 0
  | d :: r => uptoBulk d + uptoBulkAll r
def uptoBulkEntries {H : Type} : List (Lit × DataW H) → Nat
  | [] => 0
  | x :: r => uptoBulkEntry x + uptoBulkEntries r
def uptoBulkEntry {H : Type} : Lit × DataW H → Nat
  | (.string bytes, d) => bytes.length + uptoBulk d + 1
  | (_, d) => uptoBulk d + 1
 end
def uptoSmall : (H : Type) → List (DataW H) → Bool := fun _ ds => decide (uptoBulkAll ds ≤ 1048576)
def OpenSpec.upto (s : _root_.Go.ChangeSpec) : _root_.Go.OpenSpec := { _root_.Go.OpenSpec.ofChange s with cond := some uptoSmall }

/-- 'laws.FnExactRunOf', WHERE WHAT IT READS IS OF BULK AT MOST 1048576: true; the input reads as it did. -/
def fnExactRunOfUptoRow : OpenClaim := { program := "ytaaajdlgmllhaaa", sum := "a9dda5ede229a3903d1e8eab8ef9088617fa8e7905ac584a03e4afa5cbf07759", func := "loop.example/distanceautomata/laws.FnExactRunOf", spec := "fnExactRunOf", inPlace := ["internal/bytealg.abigen_runtime_cmpstring"], apart := false, narrowed := true }
def FnExactRunOfUptoSaid : Prop := fnExactRunOfUptoRow.holds Try.pinned (OpenSpec.upto fnExactRunOfSpec)

/-- 'laws.FnExactGrowthOf', WHERE WHAT IT READS IS OF BULK AT MOST 1048576: true; the input reads as it did. -/
def fnExactGrowthOfUptoRow : OpenClaim := { program := "ytaaajdlgmllhaaa", sum := "a9dda5ede229a3903d1e8eab8ef9088617fa8e7905ac584a03e4afa5cbf07759", func := "loop.example/distanceautomata/laws.FnExactGrowthOf", spec := "fnExactGrowthOf", inPlace := ["internal/bytealg.abigen_runtime_cmpstring", "internal/abi.NoEscape", "internal/bytealg.MakeNoZero"], recurses := true, apart := false, narrowed := true }
def FnExactGrowthOfUptoSaid : Prop := fnExactGrowthOfUptoRow.holds Try.pinned (OpenSpec.upto fnExactGrowthOfSpec)

/-- 'laws.FnShortWords', WHERE WHAT IT READS IS OF BULK AT MOST 1048576: true; the input reads as it did. -/
def fnShortWordsUptoRow : OpenClaim := { program := "ytaaajdlgmllhaaa", sum := "a9dda5ede229a3903d1e8eab8ef9088617fa8e7905ac584a03e4afa5cbf07759", func := "loop.example/distanceautomata/laws.FnShortWords", spec := "fnShortWords", inPlace := ["internal/bytealg.abigen_runtime_cmpstring"], apart := false, narrowed := true }
def FnShortWordsUptoSaid : Prop := fnShortWordsUptoRow.holds Try.pinned (OpenSpec.upto fnShortWordsSpec)

/-- 'laws.FnRunOf', WHERE WHAT IT READS IS OF BULK AT MOST 1048576: true; the input reads as it did. -/
def fnRunOfUptoRow : OpenClaim := { program := "ytaaajdlgmllhaaa", sum := "a9dda5ede229a3903d1e8eab8ef9088617fa8e7905ac584a03e4afa5cbf07759", func := "loop.example/distanceautomata/laws.FnRunOf", spec := "fnRunOf", inPlace := ["internal/bytealg.abigen_runtime_cmpstring"], unfollowed := true, recurses := true, apart := false, narrowed := true }
def FnRunOfUptoSaid : Prop := fnRunOfUptoRow.holds Try.pinned (OpenSpec.upto fnRunOfSpec)

/-- 'laws.FnGradesOf', WHERE WHAT IT READS IS OF BULK AT MOST 1048576: true; the input reads as it did. -/
def fnGradesOfUptoRow : OpenClaim := { program := "ytaaajdlgmllhaaa", sum := "a9dda5ede229a3903d1e8eab8ef9088617fa8e7905ac584a03e4afa5cbf07759", func := "loop.example/distanceautomata/laws.FnGradesOf", spec := "fnGradesOf", inPlace := ["internal/bytealg.abigen_runtime_cmpstring"], unfollowed := true, recurses := true, apart := false, narrowed := true }
def FnGradesOfUptoSaid : Prop := fnGradesOfUptoRow.holds Try.pinned (OpenSpec.upto fnGradesOfSpec)

/-- 'laws.FnExactExpressionFor', WHERE WHAT IT READS IS OF BULK AT MOST 1048576: true; the input reads as it did. -/
def fnExactExpressionForUptoRow : OpenClaim := { program := "ytaaajdlgmllhaaa", sum := "a9dda5ede229a3903d1e8eab8ef9088617fa8e7905ac584a03e4afa5cbf07759", func := "loop.example/distanceautomata/laws.FnExactExpressionFor", spec := "fnExactExpressionFor", inPlace := ["internal/bytealg.abigen_runtime_cmpstring"], unfollowed := true, recurses := true, apart := false, narrowed := true }
def FnExactExpressionForUptoSaid : Prop := fnExactExpressionForUptoRow.holds Try.pinned (OpenSpec.upto fnExactExpressionForSpec)

/-- 'laws.FnExactStablesOf', WHERE WHAT IT READS IS OF BULK AT MOST 1048576: true; the input reads as it did. -/
def fnExactStablesOfUptoRow : OpenClaim := { program := "ytaaajdlgmllhaaa", sum := "a9dda5ede229a3903d1e8eab8ef9088617fa8e7905ac584a03e4afa5cbf07759", func := "loop.example/distanceautomata/laws.FnExactStablesOf", spec := "fnExactStablesOf", inPlace := ["internal/bytealg.abigen_runtime_cmpstring"], unfollowed := true, recurses := true, apart := false, narrowed := true }
def FnExactStablesOfUptoSaid : Prop := fnExactStablesOfUptoRow.holds Try.pinned (OpenSpec.upto fnExactStablesOfSpec)

/-- 'laws.FnExactWordElements', WHERE WHAT IT READS IS OF BULK AT MOST 1048576: true; the input reads as it did. -/
def fnExactWordElementsUptoRow : OpenClaim := { program := "ytaaajdlgmllhaaa", sum := "a9dda5ede229a3903d1e8eab8ef9088617fa8e7905ac584a03e4afa5cbf07759", func := "loop.example/distanceautomata/laws.FnExactWordElements", spec := "fnExactWordElements", inPlace := ["internal/bytealg.abigen_runtime_cmpstring"], unfollowed := true, recurses := true, apart := false, narrowed := true }
def FnExactWordElementsUptoSaid : Prop := fnExactWordElementsUptoRow.holds Try.pinned (OpenSpec.upto fnExactWordElementsSpec)

/-- 'laws.FnElements', WHERE WHAT IT READS IS OF BULK AT MOST 1048576: true; the input reads as it did. -/
def fnElementsUptoRow : OpenClaim := { program := "ytaaajdlgmllhaaa", sum := "a9dda5ede229a3903d1e8eab8ef9088617fa8e7905ac584a03e4afa5cbf07759", func := "loop.example/distanceautomata/laws.FnElements", spec := "fnElements", inPlace := ["internal/bytealg.abigen_runtime_cmpstring"], unfollowed := true, recurses := true, apart := false, narrowed := true }
def FnElementsUptoSaid : Prop := fnElementsUptoRow.holds Try.pinned (OpenSpec.upto fnElementsSpec)

/-- 'laws.FnValueJoin', WHERE WHAT IT READS IS OF BULK AT MOST 1048576: true; the input reads as it did. -/
def fnValueJoinUptoRow : OpenClaim := { program := "ytaaajdlgmllhaaa", sum := "a9dda5ede229a3903d1e8eab8ef9088617fa8e7905ac584a03e4afa5cbf07759", func := "loop.example/distanceautomata/laws.FnValueJoin", spec := "fnValueJoin", inPlace := ["internal/bytealg.abigen_runtime_cmpstring"], unfollowed := true, recurses := true, apart := false, narrowed := true }
def FnValueJoinUptoSaid : Prop := fnValueJoinUptoRow.holds Try.pinned (OpenSpec.upto fnValueJoinSpec)

end Rows
end Go.Proofs.Ytaaajdlgmllhaaa
