/-
  No cell of these rows narrows 'for every input' (looked for: loops, veiled, ifaces, maps, wideKeys, modest, calm, conditions, laid).
  DERIVED. THE GIVEN ROWS OF THIS SEAT. 5 by the template 'for every input the law returns true; each argument reads behind the call as it read before'; 0 by the template 'total and deterministic' (their statements: YtoahkfeegobeoaaTotals.lean).
  GIVEN WITH THE SEED: the statements are not yours to turn. If you find one false, say at which input.
  Laid BY PROGRAM, IN A SANDBOX (cutbox-rows.mjs): the forced cells as the released guide's own fill.sh prints them over the translation 693837521f1bb2eb… (all of the seat's roots in one cut). By AI agents, Wed Nov 11 2026. No macro, syntax, notation, axiom, sorry.
-/
import Derived.Test.YtoahkfeegobeoaaChecked
import GoSem.Claim
import GoSem.ClaimJoined
import GoSem.ClaimMapViews
import Derived.JoinedTies
import Derived.KernelRfl
namespace Go.Proofs.Ytoahkfeegobeoaa
/- THE CELL 'sum', in the pinned program and in every row, IS THE sha256 OF THE DUMP (.gsa) THAT YtoahkfeegobeoaaProg.lean LOADS. Nothing in Lean hashes anything: it is a label: what it is worth is what the hold of that sum in a sandbox is worth. -/
noncomputable def Try.pinned : Pinned := { name := "ytoahkfeegobeoaa", sum := "693837521f1bb2eb7adc7935b24efe32990e2a8aa24d3666c5bf900f9ed6c659", checked := Try.checked }
namespace Rows
def none {H : Type} : Left H := { results := [], args := [] }

/-- 'laws.FnExactSwapWord': WHATEVER THE INPUT: true; the input reads as it did. -/
def fnExactSwapWordSpec : ChangeSpec := { name := "fnExactSwapWord", fn := fun _ => fun
  | [d] => { results := [.lit (.bool true)], args := [d] }
  | _ => none }
def fnExactSwapWordRow : OpenClaim := { program := "ytoahkfeegobeoaa", sum := "693837521f1bb2eb7adc7935b24efe32990e2a8aa24d3666c5bf900f9ed6c659", func := "loop.example/distanceautomata/laws.FnExactSwapWord", spec := "fnExactSwapWord", apart := false }
def FnExactSwapWordSaid : Prop := fnExactSwapWordRow.holds Try.pinned (OpenSpec.ofChange fnExactSwapWordSpec)

/-- ITS FALSE NEIGHBOUR: 'it returns false'. Refute it at one input. -/
def fnExactSwapWordWrong : ChangeSpec := { name := "fnExactSwapWord", fn := fun _ => fun
  | [d] => { results := [.lit (.bool false)], args := [d] }
  | _ => none }
def FnExactSwapWordWrongFalsely : Prop := fnExactSwapWordRow.holds Try.pinned (OpenSpec.ofChange fnExactSwapWordWrong)

/-- 'laws.FnExactExpressionValid': WHATEVER THE INPUT: true; the input reads as it did. -/
def fnExactExpressionValidSpec : ChangeSpec := { name := "fnExactExpressionValid", fn := fun _ => fun
  | [d] => { results := [.lit (.bool true)], args := [d] }
  | _ => none }
def fnExactExpressionValidRow : OpenClaim := { program := "ytoahkfeegobeoaa", sum := "693837521f1bb2eb7adc7935b24efe32990e2a8aa24d3666c5bf900f9ed6c659", func := "loop.example/distanceautomata/laws.FnExactExpressionValid", spec := "fnExactExpressionValid", recurses := true, apart := false }
def FnExactExpressionValidSaid : Prop := fnExactExpressionValidRow.holds Try.pinned (OpenSpec.ofChange fnExactExpressionValidSpec)

/-- ITS FALSE NEIGHBOUR: 'it returns false'. Refute it at one input. -/
def fnExactExpressionValidWrong : ChangeSpec := { name := "fnExactExpressionValid", fn := fun _ => fun
  | [d] => { results := [.lit (.bool false)], args := [d] }
  | _ => none }
def FnExactExpressionValidWrongFalsely : Prop := fnExactExpressionValidRow.holds Try.pinned (OpenSpec.ofChange fnExactExpressionValidWrong)

/-- 'laws.FnExactRepeatExpression': WHATEVER THE INPUT: true; the input reads as it did. -/
def fnExactRepeatExpressionSpec : ChangeSpec := { name := "fnExactRepeatExpression", fn := fun _ => fun
  | [d] => { results := [.lit (.bool true)], args := [d] }
  | _ => none }
def fnExactRepeatExpressionRow : OpenClaim := { program := "ytoahkfeegobeoaa", sum := "693837521f1bb2eb7adc7935b24efe32990e2a8aa24d3666c5bf900f9ed6c659", func := "loop.example/distanceautomata/laws.FnExactRepeatExpression", spec := "fnExactRepeatExpression", recurses := true, apart := false }
def FnExactRepeatExpressionSaid : Prop := fnExactRepeatExpressionRow.holds Try.pinned (OpenSpec.ofChange fnExactRepeatExpressionSpec)

/-- ITS FALSE NEIGHBOUR: 'it returns false'. Refute it at one input. -/
def fnExactRepeatExpressionWrong : ChangeSpec := { name := "fnExactRepeatExpression", fn := fun _ => fun
  | [d] => { results := [.lit (.bool false)], args := [d] }
  | _ => none }
def FnExactRepeatExpressionWrongFalsely : Prop := fnExactRepeatExpressionRow.holds Try.pinned (OpenSpec.ofChange fnExactRepeatExpressionWrong)

/-- 'laws.FnExactDepthOf': WHATEVER THE INPUT: true; the input reads as it did. -/
def fnExactDepthOfSpec : ChangeSpec := { name := "fnExactDepthOf", fn := fun _ => fun
  | [d] => { results := [.lit (.bool true)], args := [d] }
  | _ => none }
def fnExactDepthOfRow : OpenClaim := { program := "ytoahkfeegobeoaa", sum := "693837521f1bb2eb7adc7935b24efe32990e2a8aa24d3666c5bf900f9ed6c659", func := "loop.example/distanceautomata/laws.FnExactDepthOf", spec := "fnExactDepthOf", recurses := true, apart := false }
def FnExactDepthOfSaid : Prop := fnExactDepthOfRow.holds Try.pinned (OpenSpec.ofChange fnExactDepthOfSpec)

/-- ITS FALSE NEIGHBOUR: 'it returns false'. Refute it at one input. -/
def fnExactDepthOfWrong : ChangeSpec := { name := "fnExactDepthOf", fn := fun _ => fun
  | [d] => { results := [.lit (.bool false)], args := [d] }
  | _ => none }
def FnExactDepthOfWrongFalsely : Prop := fnExactDepthOfRow.holds Try.pinned (OpenSpec.ofChange fnExactDepthOfWrong)

/-- 'laws.FnExactGradesValid': WHATEVER THE INPUT: true; the input reads as it did. -/
def fnExactGradesValidSpec : ChangeSpec := { name := "fnExactGradesValid", fn := fun _ => fun
  | [d] => { results := [.lit (.bool true)], args := [d] }
  | _ => none }
def fnExactGradesValidRow : OpenClaim := { program := "ytoahkfeegobeoaa", sum := "693837521f1bb2eb7adc7935b24efe32990e2a8aa24d3666c5bf900f9ed6c659", func := "loop.example/distanceautomata/laws.FnExactGradesValid", spec := "fnExactGradesValid", unfollowed := true, recurses := true, apart := false }
def FnExactGradesValidSaid : Prop := fnExactGradesValidRow.holds Try.pinned (OpenSpec.ofChange fnExactGradesValidSpec)

/-- ITS FALSE NEIGHBOUR: 'it returns false'. Refute it at one input. -/
def fnExactGradesValidWrong : ChangeSpec := { name := "fnExactGradesValid", fn := fun _ => fun
  | [d] => { results := [.lit (.bool false)], args := [d] }
  | _ => none }
def FnExactGradesValidWrongFalsely : Prop := fnExactGradesValidRow.holds Try.pinned (OpenSpec.ofChange fnExactGradesValidWrong)

/- THE SECOND FORM. 'bulk': how many values and letters a reading holds, each counted each time it is reached (what is shared counts as often as it is met; a slice's spare places count too). A statement '..UptoSaid' is the law's where the arguments, and the package variables that the reading takes, are together of bulk at most 1048576: NARROWER than '..Said'. Prove '..Said' where nothing that the law and all that it calls make is longer than what came in: it says more and counts as full. Else prove '..UptoSaid'. A law counts once. -/
mutual
def uptoBulk {H : Type} : DataW H → Nat
  | .lit (.string bytes) => bytes.length + 1
  | .lit _ => 1
  | .nil => 1
  | .ptr d => uptoBulk d + 1
  | .slice elems spare => uptoBulkAll elems + uptoBulkAll spare + 1
  | .agg parts => uptoBulkAll parts + 1
  | .iface _ d => uptoBulk d + 1
  | .map entries => uptoBulkEntries entries + 1
  | .held _ => 1
def uptoBulkAll {H : Type} : List (DataW H) → Nat
  | [] => 0
  | d :: r => uptoBulk d + uptoBulkAll r
def uptoBulkEntries {H : Type} : List (Lit × DataW H) → Nat
  | [] => 0
  | x :: r => uptoBulkEntry x + uptoBulkEntries r
def uptoBulkEntry {H : Type} : Lit × DataW H → Nat
  | (.string bytes, d) => bytes.length + uptoBulk d + 1
  | (_, d) => uptoBulk d + 1
 end
def uptoSmall : (H : Type) → List (DataW H) → Bool := fun _ ds => decide (uptoBulkAll ds ≤ 1048576)
def OpenSpec.upto (s : _root_.Go.ChangeSpec) : _root_.Go.OpenSpec := { _root_.Go.OpenSpec.ofChange s with cond := some uptoSmall }

/-- 'laws.FnExactSwapWord', WHERE WHAT IT READS IS OF BULK AT MOST 1048576: true; the input reads as it did. -/
def fnExactSwapWordUptoRow : OpenClaim := { program := "ytoahkfeegobeoaa", sum := "693837521f1bb2eb7adc7935b24efe32990e2a8aa24d3666c5bf900f9ed6c659", func := "loop.example/distanceautomata/laws.FnExactSwapWord", spec := "fnExactSwapWord", apart := false, narrowed := true }
def FnExactSwapWordUptoSaid : Prop := fnExactSwapWordUptoRow.holds Try.pinned (OpenSpec.upto fnExactSwapWordSpec)

/-- 'laws.FnExactExpressionValid', WHERE WHAT IT READS IS OF BULK AT MOST 1048576: true; the input reads as it did. -/
def fnExactExpressionValidUptoRow : OpenClaim := { program := "ytoahkfeegobeoaa", sum := "693837521f1bb2eb7adc7935b24efe32990e2a8aa24d3666c5bf900f9ed6c659", func := "loop.example/distanceautomata/laws.FnExactExpressionValid", spec := "fnExactExpressionValid", recurses := true, apart := false, narrowed := true }
def FnExactExpressionValidUptoSaid : Prop := fnExactExpressionValidUptoRow.holds Try.pinned (OpenSpec.upto fnExactExpressionValidSpec)

/-- 'laws.FnExactRepeatExpression', WHERE WHAT IT READS IS OF BULK AT MOST 1048576: true; the input reads as it did. -/
def fnExactRepeatExpressionUptoRow : OpenClaim := { program := "ytoahkfeegobeoaa", sum := "693837521f1bb2eb7adc7935b24efe32990e2a8aa24d3666c5bf900f9ed6c659", func := "loop.example/distanceautomata/laws.FnExactRepeatExpression", spec := "fnExactRepeatExpression", recurses := true, apart := false, narrowed := true }
def FnExactRepeatExpressionUptoSaid : Prop := fnExactRepeatExpressionUptoRow.holds Try.pinned (OpenSpec.upto fnExactRepeatExpressionSpec)

/-- 'laws.FnExactDepthOf', WHERE WHAT IT READS IS OF BULK AT MOST 1048576: true; the input reads as it did. -/
def fnExactDepthOfUptoRow : OpenClaim := { program := "ytoahkfeegobeoaa", sum := "693837521f1bb2eb7adc7935b24efe32990e2a8aa24d3666c5bf900f9ed6c659", func := "loop.example/distanceautomata/laws.FnExactDepthOf", spec := "fnExactDepthOf", recurses := true, apart := false, narrowed := true }
def FnExactDepthOfUptoSaid : Prop := fnExactDepthOfUptoRow.holds Try.pinned (OpenSpec.upto fnExactDepthOfSpec)

/-- 'laws.FnExactGradesValid', WHERE WHAT IT READS IS OF BULK AT MOST 1048576: true; the input reads as it did. -/
def fnExactGradesValidUptoRow : OpenClaim := { program := "ytoahkfeegobeoaa", sum := "693837521f1bb2eb7adc7935b24efe32990e2a8aa24d3666c5bf900f9ed6c659", func := "loop.example/distanceautomata/laws.FnExactGradesValid", spec := "fnExactGradesValid", unfollowed := true, recurses := true, apart := false, narrowed := true }
def FnExactGradesValidUptoSaid : Prop := fnExactGradesValidUptoRow.holds Try.pinned (OpenSpec.upto fnExactGradesValidSpec)

end Rows
end Go.Proofs.Ytoahkfeegobeoaa
