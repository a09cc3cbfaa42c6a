/-
  No cell of these rows narrows 'for every input' (looked for: loops, veiled, ifaces, maps, wideKeys, modest, calm, conditions, laid).
  DERIVED. THE GIVEN ROWS OF THIS SEAT. 12 by the template 'for every input the law returns true; each argument reads behind the call as it read before'; 0 by the template 'total and deterministic' (their statements: YtoeeeafknajkkaaTotals.lean).
  GIVEN WITH THE SEED: the statements are not yours to turn. If you find one false, say at which input.
  Laid BY PROGRAM, IN A SANDBOX (cutbox-rows.mjs): the forced cells as the released guide's own fill.sh prints them over the translation b692cb97e07a8e23… (all of the seat's roots in one cut). By AI agents, Wed Nov 11 2026. No macro, syntax, notation, axiom, sorry.
-/
import Derived.Test.YtoeeeafknajkkaaChecked
import GoSem.Claim
import GoSem.ClaimJoined
import GoSem.ClaimMapViews
import Derived.JoinedTies
import Derived.KernelRfl
namespace Go.Proofs.Ytoeeeafknajkkaa
/- THE CELL 'sum', in the pinned program and in every row, IS THE sha256 OF THE DUMP (.gsa) THAT YtoeeeafknajkkaaProg.lean LOADS. Nothing in Lean hashes anything: it is a label: what it is worth is what the hold of that sum in a sandbox is worth. -/
noncomputable def Try.pinned : Pinned := { name := "ytoeeeafknajkkaa", sum := "b692cb97e07a8e2376da0ecb4f5d973bbdb51525a253c2fd96cdf941c7c3a11b", checked := Try.checked }
namespace Rows
def none {H : Type} : Left H := { results := [], args := [] }

/-- 'laws.FnExactScaleAutomaton': WHATEVER THE INPUT: true; the input reads as it did. -/
def fnExactScaleAutomatonSpec : ChangeSpec := { name := "fnExactScaleAutomaton", fn := fun _ => fun
  | [d1, d2] => { results := [.lit (.bool true)], args := [d1, d2] }
  | _ => none }
def fnExactScaleAutomatonRow : OpenClaim := { program := "ytoeeeafknajkkaa", sum := "b692cb97e07a8e2376da0ecb4f5d973bbdb51525a253c2fd96cdf941c7c3a11b", func := "loop.example/distanceautomata/laws.FnExactScaleAutomaton", spec := "fnExactScaleAutomaton", inPlace := ["internal/bytealg.abigen_runtime_cmpstring"], unfollowed := true, recurses := true, apart := false }
def FnExactScaleAutomatonSaid : Prop := fnExactScaleAutomatonRow.holds Try.pinned (OpenSpec.ofChange fnExactScaleAutomatonSpec)

/-- ITS FALSE NEIGHBOUR: 'it returns false'. Refute it at one input. -/
def fnExactScaleAutomatonWrong : ChangeSpec := { name := "fnExactScaleAutomaton", fn := fun _ => fun
  | [d1, d2] => { results := [.lit (.bool false)], args := [d1, d2] }
  | _ => none }
def FnExactScaleAutomatonWrongFalsely : Prop := fnExactScaleAutomatonRow.holds Try.pinned (OpenSpec.ofChange fnExactScaleAutomatonWrong)

/-- 'laws.FnExactSumAutomaton': WHATEVER THE INPUT: true; the input reads as it did. -/
def fnExactSumAutomatonSpec : ChangeSpec := { name := "fnExactSumAutomaton", fn := fun _ => fun
  | [d1, d2] => { results := [.lit (.bool true)], args := [d1, d2] }
  | _ => none }
def fnExactSumAutomatonRow : OpenClaim := { program := "ytoeeeafknajkkaa", sum := "b692cb97e07a8e2376da0ecb4f5d973bbdb51525a253c2fd96cdf941c7c3a11b", func := "loop.example/distanceautomata/laws.FnExactSumAutomaton", spec := "fnExactSumAutomaton", inPlace := ["internal/bytealg.abigen_runtime_cmpstring"], unfollowed := true, recurses := true, apart := false }
def FnExactSumAutomatonSaid : Prop := fnExactSumAutomatonRow.holds Try.pinned (OpenSpec.ofChange fnExactSumAutomatonSpec)

/-- ITS FALSE NEIGHBOUR: 'it returns false'. Refute it at one input. -/
def fnExactSumAutomatonWrong : ChangeSpec := { name := "fnExactSumAutomaton", fn := fun _ => fun
  | [d1, d2] => { results := [.lit (.bool false)], args := [d1, d2] }
  | _ => none }
def FnExactSumAutomatonWrongFalsely : Prop := fnExactSumAutomatonRow.holds Try.pinned (OpenSpec.ofChange fnExactSumAutomatonWrong)

/-- 'laws.FnExactSwapLetters': WHATEVER THE INPUT: true; the input reads as it did. -/
def fnExactSwapLettersSpec : ChangeSpec := { name := "fnExactSwapLetters", fn := fun _ => fun
  | [d] => { results := [.lit (.bool true)], args := [d] }
  | _ => none }
def fnExactSwapLettersRow : OpenClaim := { program := "ytoeeeafknajkkaa", sum := "b692cb97e07a8e2376da0ecb4f5d973bbdb51525a253c2fd96cdf941c7c3a11b", func := "loop.example/distanceautomata/laws.FnExactSwapLetters", spec := "fnExactSwapLetters", inPlace := ["internal/bytealg.abigen_runtime_cmpstring"], unfollowed := true, recurses := true, apart := false }
def FnExactSwapLettersSaid : Prop := fnExactSwapLettersRow.holds Try.pinned (OpenSpec.ofChange fnExactSwapLettersSpec)

/-- ITS FALSE NEIGHBOUR: 'it returns false'. Refute it at one input. -/
def fnExactSwapLettersWrong : ChangeSpec := { name := "fnExactSwapLetters", fn := fun _ => fun
  | [d] => { results := [.lit (.bool false)], args := [d] }
  | _ => none }
def FnExactSwapLettersWrongFalsely : Prop := fnExactSwapLettersRow.holds Try.pinned (OpenSpec.ofChange fnExactSwapLettersWrong)

/-- 'laws.FnExactMinAutomaton': WHATEVER THE INPUT: true; the input reads as it did. -/
def fnExactMinAutomatonSpec : ChangeSpec := { name := "fnExactMinAutomaton", fn := fun _ => fun
  | [d1, d2] => { results := [.lit (.bool true)], args := [d1, d2] }
  | _ => none }
def fnExactMinAutomatonRow : OpenClaim := { program := "ytoeeeafknajkkaa", sum := "b692cb97e07a8e2376da0ecb4f5d973bbdb51525a253c2fd96cdf941c7c3a11b", func := "loop.example/distanceautomata/laws.FnExactMinAutomaton", spec := "fnExactMinAutomaton", inPlace := ["internal/bytealg.abigen_runtime_cmpstring"], unfollowed := true, recurses := true, apart := false }
def FnExactMinAutomatonSaid : Prop := fnExactMinAutomatonRow.holds Try.pinned (OpenSpec.ofChange fnExactMinAutomatonSpec)

/-- ITS FALSE NEIGHBOUR: 'it returns false'. Refute it at one input. -/
def fnExactMinAutomatonWrong : ChangeSpec := { name := "fnExactMinAutomaton", fn := fun _ => fun
  | [d1, d2] => { results := [.lit (.bool false)], args := [d1, d2] }
  | _ => none }
def FnExactMinAutomatonWrongFalsely : Prop := fnExactMinAutomatonRow.holds Try.pinned (OpenSpec.ofChange fnExactMinAutomatonWrong)

/-- 'laws.FnExactTrimAutomaton': WHATEVER THE INPUT: true; the input reads as it did. -/
def fnExactTrimAutomatonSpec : ChangeSpec := { name := "fnExactTrimAutomaton", fn := fun _ => fun
  | [d] => { results := [.lit (.bool true)], args := [d] }
  | _ => none }
def fnExactTrimAutomatonRow : OpenClaim := { program := "ytoeeeafknajkkaa", sum := "b692cb97e07a8e2376da0ecb4f5d973bbdb51525a253c2fd96cdf941c7c3a11b", func := "loop.example/distanceautomata/laws.FnExactTrimAutomaton", spec := "fnExactTrimAutomaton", inPlace := ["internal/bytealg.abigen_runtime_cmpstring"], unfollowed := true, recurses := true, apart := false }
def FnExactTrimAutomatonSaid : Prop := fnExactTrimAutomatonRow.holds Try.pinned (OpenSpec.ofChange fnExactTrimAutomatonSpec)

/-- ITS FALSE NEIGHBOUR: 'it returns false'. Refute it at one input. -/
def fnExactTrimAutomatonWrong : ChangeSpec := { name := "fnExactTrimAutomaton", fn := fun _ => fun
  | [d] => { results := [.lit (.bool false)], args := [d] }
  | _ => none }
def FnExactTrimAutomatonWrongFalsely : Prop := fnExactTrimAutomatonRow.holds Try.pinned (OpenSpec.ofChange fnExactTrimAutomatonWrong)

/-- 'laws.FnExactChainAutomaton': WHATEVER THE INPUT: true; the input reads as it did. -/
def fnExactChainAutomatonSpec : ChangeSpec := { name := "fnExactChainAutomaton", fn := fun _ => fun
  | [d1, d2] => { results := [.lit (.bool true)], args := [d1, d2] }
  | _ => none }
def fnExactChainAutomatonRow : OpenClaim := { program := "ytoeeeafknajkkaa", sum := "b692cb97e07a8e2376da0ecb4f5d973bbdb51525a253c2fd96cdf941c7c3a11b", func := "loop.example/distanceautomata/laws.FnExactChainAutomaton", spec := "fnExactChainAutomaton", inPlace := ["internal/bytealg.abigen_runtime_cmpstring"], unfollowed := true, recurses := true, apart := false }
def FnExactChainAutomatonSaid : Prop := fnExactChainAutomatonRow.holds Try.pinned (OpenSpec.ofChange fnExactChainAutomatonSpec)

/-- ITS FALSE NEIGHBOUR: 'it returns false'. Refute it at one input. -/
def fnExactChainAutomatonWrong : ChangeSpec := { name := "fnExactChainAutomaton", fn := fun _ => fun
  | [d1, d2] => { results := [.lit (.bool false)], args := [d1, d2] }
  | _ => none }
def FnExactChainAutomatonWrongFalsely : Prop := fnExactChainAutomatonRow.holds Try.pinned (OpenSpec.ofChange fnExactChainAutomatonWrong)

/-- 'laws.FnExactPrefixCosts': WHATEVER THE INPUT: true; the input reads as it did. -/
def fnExactPrefixCostsSpec : ChangeSpec := { name := "fnExactPrefixCosts", fn := fun _ => fun
  | [d1, d2] => { results := [.lit (.bool true)], args := [d1, d2] }
  | _ => none }
def fnExactPrefixCostsRow : OpenClaim := { program := "ytoeeeafknajkkaa", sum := "b692cb97e07a8e2376da0ecb4f5d973bbdb51525a253c2fd96cdf941c7c3a11b", func := "loop.example/distanceautomata/laws.FnExactPrefixCosts", spec := "fnExactPrefixCosts", inPlace := ["internal/bytealg.abigen_runtime_cmpstring"], unfollowed := true, recurses := true, apart := false }
def FnExactPrefixCostsSaid : Prop := fnExactPrefixCostsRow.holds Try.pinned (OpenSpec.ofChange fnExactPrefixCostsSpec)

/-- ITS FALSE NEIGHBOUR: 'it returns false'. Refute it at one input. -/
def fnExactPrefixCostsWrong : ChangeSpec := { name := "fnExactPrefixCosts", fn := fun _ => fun
  | [d1, d2] => { results := [.lit (.bool false)], args := [d1, d2] }
  | _ => none }
def FnExactPrefixCostsWrongFalsely : Prop := fnExactPrefixCostsRow.holds Try.pinned (OpenSpec.ofChange fnExactPrefixCostsWrong)

/-- 'laws.FnSumAutomaton': WHATEVER THE INPUT: true; the input reads as it did. -/
def fnSumAutomatonSpec : ChangeSpec := { name := "fnSumAutomaton", fn := fun _ => fun
  | [d] => { results := [.lit (.bool true)], args := [d] }
  | _ => none }
def fnSumAutomatonRow : OpenClaim := { program := "ytoeeeafknajkkaa", sum := "b692cb97e07a8e2376da0ecb4f5d973bbdb51525a253c2fd96cdf941c7c3a11b", func := "loop.example/distanceautomata/laws.FnSumAutomaton", spec := "fnSumAutomaton", inPlace := ["internal/bytealg.abigen_runtime_cmpstring"], unfollowed := true, recurses := true, apart := false }
def FnSumAutomatonSaid : Prop := fnSumAutomatonRow.holds Try.pinned (OpenSpec.ofChange fnSumAutomatonSpec)

/-- ITS FALSE NEIGHBOUR: 'it returns false'. Refute it at one input. -/
def fnSumAutomatonWrong : ChangeSpec := { name := "fnSumAutomaton", fn := fun _ => fun
  | [d] => { results := [.lit (.bool false)], args := [d] }
  | _ => none }
def FnSumAutomatonWrongFalsely : Prop := fnSumAutomatonRow.holds Try.pinned (OpenSpec.ofChange fnSumAutomatonWrong)

/-- 'laws.FnSwap': WHATEVER THE INPUT: true; the input reads as it did. -/
def fnSwapSpec : ChangeSpec := { name := "fnSwap", fn := fun _ => fun
  | [d1, d2] => { results := [.lit (.bool true)], args := [d1, d2] }
  | _ => none }
def fnSwapRow : OpenClaim := { program := "ytoeeeafknajkkaa", sum := "b692cb97e07a8e2376da0ecb4f5d973bbdb51525a253c2fd96cdf941c7c3a11b", func := "loop.example/distanceautomata/laws.FnSwap", spec := "fnSwap", inPlace := ["internal/bytealg.abigen_runtime_cmpstring"], unfollowed := true, recurses := true, apart := false }
def FnSwapSaid : Prop := fnSwapRow.holds Try.pinned (OpenSpec.ofChange fnSwapSpec)

/-- ITS FALSE NEIGHBOUR: 'it returns false'. Refute it at one input. -/
def fnSwapWrong : ChangeSpec := { name := "fnSwap", fn := fun _ => fun
  | [d1, d2] => { results := [.lit (.bool false)], args := [d1, d2] }
  | _ => none }
def FnSwapWrongFalsely : Prop := fnSwapRow.holds Try.pinned (OpenSpec.ofChange fnSwapWrong)

/-- 'laws.FnMinAutomaton': WHATEVER THE INPUT: true; the input reads as it did. -/
def fnMinAutomatonSpec : ChangeSpec := { name := "fnMinAutomaton", fn := fun _ => fun
  | [d] => { results := [.lit (.bool true)], args := [d] }
  | _ => none }
def fnMinAutomatonRow : OpenClaim := { program := "ytoeeeafknajkkaa", sum := "b692cb97e07a8e2376da0ecb4f5d973bbdb51525a253c2fd96cdf941c7c3a11b", func := "loop.example/distanceautomata/laws.FnMinAutomaton", spec := "fnMinAutomaton", inPlace := ["internal/bytealg.abigen_runtime_cmpstring"], unfollowed := true, recurses := true, apart := false }
def FnMinAutomatonSaid : Prop := fnMinAutomatonRow.holds Try.pinned (OpenSpec.ofChange fnMinAutomatonSpec)

/-- ITS FALSE NEIGHBOUR: 'it returns false'. Refute it at one input. -/
def fnMinAutomatonWrong : ChangeSpec := { name := "fnMinAutomaton", fn := fun _ => fun
  | [d] => { results := [.lit (.bool false)], args := [d] }
  | _ => none }
def FnMinAutomatonWrongFalsely : Prop := fnMinAutomatonRow.holds Try.pinned (OpenSpec.ofChange fnMinAutomatonWrong)

/-- 'laws.FnChain': WHATEVER THE INPUT: true; the input reads as it did. -/
def fnChainSpec : ChangeSpec := { name := "fnChain", fn := fun _ => fun
  | [d] => { results := [.lit (.bool true)], args := [d] }
  | _ => none }
def fnChainRow : OpenClaim := { program := "ytoeeeafknajkkaa", sum := "b692cb97e07a8e2376da0ecb4f5d973bbdb51525a253c2fd96cdf941c7c3a11b", func := "loop.example/distanceautomata/laws.FnChain", spec := "fnChain", inPlace := ["internal/bytealg.abigen_runtime_cmpstring"], unfollowed := true, recurses := true, apart := false }
def FnChainSaid : Prop := fnChainRow.holds Try.pinned (OpenSpec.ofChange fnChainSpec)

/-- ITS FALSE NEIGHBOUR: 'it returns false'. Refute it at one input. -/
def fnChainWrong : ChangeSpec := { name := "fnChain", fn := fun _ => fun
  | [d] => { results := [.lit (.bool false)], args := [d] }
  | _ => none }
def FnChainWrongFalsely : Prop := fnChainRow.holds Try.pinned (OpenSpec.ofChange fnChainWrong)

/-- 'laws.FnScale': WHATEVER THE INPUT: true; the input reads as it did. -/
def fnScaleSpec : ChangeSpec := { name := "fnScale", fn := fun _ => fun
  | [d1, d2] => { results := [.lit (.bool true)], args := [d1, d2] }
  | _ => none }
def fnScaleRow : OpenClaim := { program := "ytoeeeafknajkkaa", sum := "b692cb97e07a8e2376da0ecb4f5d973bbdb51525a253c2fd96cdf941c7c3a11b", func := "loop.example/distanceautomata/laws.FnScale", spec := "fnScale", inPlace := ["internal/bytealg.abigen_runtime_cmpstring"], unfollowed := true, recurses := true, apart := false }
def FnScaleSaid : Prop := fnScaleRow.holds Try.pinned (OpenSpec.ofChange fnScaleSpec)

/-- ITS FALSE NEIGHBOUR: 'it returns false'. Refute it at one input. -/
def fnScaleWrong : ChangeSpec := { name := "fnScale", fn := fun _ => fun
  | [d1, d2] => { results := [.lit (.bool false)], args := [d1, d2] }
  | _ => none }
def FnScaleWrongFalsely : Prop := fnScaleRow.holds Try.pinned (OpenSpec.ofChange fnScaleWrong)

/- THE SECOND FORM. 'bulk': how many values and letters a reading holds, each counted each time it is reached (what is shared counts as often as it is met; a slice's spare places count too). A statement '..UptoSaid' is the law's where the arguments, and the package variables that the reading takes, are together of bulk at most 1048576: NARROWER than '..Said'. Prove '..Said' where nothing that the law and all that it calls make is longer than what came in: it says more and counts as full. Else prove '..UptoSaid'. A law counts once. -/
mutual
def uptoBulk {H : Type} : DataW H → Nat
  | .lit (.string bytes) => bytes.length + 1
  | .lit _ => 1
  | .nil => 1
  | .ptr d => uptoBulk d + 1
  | .slice elems spare => uptoBulkAll elems + uptoBulkAll spare + 1
  | .agg parts => uptoBulkAll parts + 1
  | .iface _ d => uptoBulk d + 1
  | .map entries => uptoBulkEntries entries + 1
  | .held _ => 1
def uptoBulkAll {H : Type} : List (DataW H) → Nat
  | [] => 0
  | d :: r => uptoBulk d + uptoBulkAll r
def uptoBulkEntries {H : Type} : List (Lit × DataW H) → Nat
  | [] => 0
  | x :: r => uptoBulkEntry x + uptoBulkEntries r
def uptoBulkEntry {H : Type} : Lit × DataW H → Nat
  | (.string bytes, d) => bytes.length + uptoBulk d + 1
  | (_, d) => uptoBulk d + 1
 end
def uptoSmall : (H : Type) → List (DataW H) → Bool := fun _ ds => decide (uptoBulkAll ds ≤ 1048576)
def OpenSpec.upto (s : _root_.Go.ChangeSpec) : _root_.Go.OpenSpec := { _root_.Go.OpenSpec.ofChange s with cond := some uptoSmall }

/-- 'laws.FnExactScaleAutomaton', WHERE WHAT IT READS IS OF BULK AT MOST 1048576: true; the input reads as it did. -/
def fnExactScaleAutomatonUptoRow : OpenClaim := { program := "ytoeeeafknajkkaa", sum := "b692cb97e07a8e2376da0ecb4f5d973bbdb51525a253c2fd96cdf941c7c3a11b", func := "loop.example/distanceautomata/laws.FnExactScaleAutomaton", spec := "fnExactScaleAutomaton", inPlace := ["internal/bytealg.abigen_runtime_cmpstring"], unfollowed := true, recurses := true, apart := false, narrowed := true }
def FnExactScaleAutomatonUptoSaid : Prop := fnExactScaleAutomatonUptoRow.holds Try.pinned (OpenSpec.upto fnExactScaleAutomatonSpec)

/-- 'laws.FnExactSumAutomaton', WHERE WHAT IT READS IS OF BULK AT MOST 1048576: true; the input reads as it did. -/
def fnExactSumAutomatonUptoRow : OpenClaim := { program := "ytoeeeafknajkkaa", sum := "b692cb97e07a8e2376da0ecb4f5d973bbdb51525a253c2fd96cdf941c7c3a11b", func := "loop.example/distanceautomata/laws.FnExactSumAutomaton", spec := "fnExactSumAutomaton", inPlace := ["internal/bytealg.abigen_runtime_cmpstring"], unfollowed := true, recurses := true, apart := false, narrowed := true }
def FnExactSumAutomatonUptoSaid : Prop := fnExactSumAutomatonUptoRow.holds Try.pinned (OpenSpec.upto fnExactSumAutomatonSpec)

/-- 'laws.FnExactSwapLetters', WHERE WHAT IT READS IS OF BULK AT MOST 1048576: true; the input reads as it did. -/
def fnExactSwapLettersUptoRow : OpenClaim := { program := "ytoeeeafknajkkaa", sum := "b692cb97e07a8e2376da0ecb4f5d973bbdb51525a253c2fd96cdf941c7c3a11b", func := "loop.example/distanceautomata/laws.FnExactSwapLetters", spec := "fnExactSwapLetters", inPlace := ["internal/bytealg.abigen_runtime_cmpstring"], unfollowed := true, recurses := true, apart := false, narrowed := true }
def FnExactSwapLettersUptoSaid : Prop := fnExactSwapLettersUptoRow.holds Try.pinned (OpenSpec.upto fnExactSwapLettersSpec)

/-- 'laws.FnExactMinAutomaton', WHERE WHAT IT READS IS OF BULK AT MOST 1048576: true; the input reads as it did. -/
def fnExactMinAutomatonUptoRow : OpenClaim := { program := "ytoeeeafknajkkaa", sum := "b692cb97e07a8e2376da0ecb4f5d973bbdb51525a253c2fd96cdf941c7c3a11b", func := "loop.example/distanceautomata/laws.FnExactMinAutomaton", spec := "fnExactMinAutomaton", inPlace := ["internal/bytealg.abigen_runtime_cmpstring"], unfollowed := true, recurses := true, apart := false, narrowed := true }
def FnExactMinAutomatonUptoSaid : Prop := fnExactMinAutomatonUptoRow.holds Try.pinned (OpenSpec.upto fnExactMinAutomatonSpec)

/-- 'laws.FnExactTrimAutomaton', WHERE WHAT IT READS IS OF BULK AT MOST 1048576: true; the input reads as it did. -/
def fnExactTrimAutomatonUptoRow : OpenClaim := { program := "ytoeeeafknajkkaa", sum := "b692cb97e07a8e2376da0ecb4f5d973bbdb51525a253c2fd96cdf941c7c3a11b", func := "loop.example/distanceautomata/laws.FnExactTrimAutomaton", spec := "fnExactTrimAutomaton", inPlace := ["internal/bytealg.abigen_runtime_cmpstring"], unfollowed := true, recurses := true, apart := false, narrowed := true }
def FnExactTrimAutomatonUptoSaid : Prop := fnExactTrimAutomatonUptoRow.holds Try.pinned (OpenSpec.upto fnExactTrimAutomatonSpec)

/-- 'laws.FnExactChainAutomaton', WHERE WHAT IT READS IS OF BULK AT MOST 1048576: true; the input reads as it did. -/
def fnExactChainAutomatonUptoRow : OpenClaim := { program := "ytoeeeafknajkkaa", sum := "b692cb97e07a8e2376da0ecb4f5d973bbdb51525a253c2fd96cdf941c7c3a11b", func := "loop.example/distanceautomata/laws.FnExactChainAutomaton", spec := "fnExactChainAutomaton", inPlace := ["internal/bytealg.abigen_runtime_cmpstring"], unfollowed := true, recurses := true, apart := false, narrowed := true }
def FnExactChainAutomatonUptoSaid : Prop := fnExactChainAutomatonUptoRow.holds Try.pinned (OpenSpec.upto fnExactChainAutomatonSpec)

/-- 'laws.FnExactPrefixCosts', WHERE WHAT IT READS IS OF BULK AT MOST 1048576: true; the input reads as it did. -/
def fnExactPrefixCostsUptoRow : OpenClaim := { program := "ytoeeeafknajkkaa", sum := "b692cb97e07a8e2376da0ecb4f5d973bbdb51525a253c2fd96cdf941c7c3a11b", func := "loop.example/distanceautomata/laws.FnExactPrefixCosts", spec := "fnExactPrefixCosts", inPlace := ["internal/bytealg.abigen_runtime_cmpstring"], unfollowed := true, recurses := true, apart := false, narrowed := true }
def FnExactPrefixCostsUptoSaid : Prop := fnExactPrefixCostsUptoRow.holds Try.pinned (OpenSpec.upto fnExactPrefixCostsSpec)

/-- 'laws.FnSumAutomaton', WHERE WHAT IT READS IS OF BULK AT MOST 1048576: true; the input reads as it did. -/
def fnSumAutomatonUptoRow : OpenClaim := { program := "ytoeeeafknajkkaa", sum := "b692cb97e07a8e2376da0ecb4f5d973bbdb51525a253c2fd96cdf941c7c3a11b", func := "loop.example/distanceautomata/laws.FnSumAutomaton", spec := "fnSumAutomaton", inPlace := ["internal/bytealg.abigen_runtime_cmpstring"], unfollowed := true, recurses := true, apart := false, narrowed := true }
def FnSumAutomatonUptoSaid : Prop := fnSumAutomatonUptoRow.holds Try.pinned (OpenSpec.upto fnSumAutomatonSpec)

/-- 'laws.FnSwap', WHERE WHAT IT READS IS OF BULK AT MOST 1048576: true; the input reads as it did. -/
def fnSwapUptoRow : OpenClaim := { program := "ytoeeeafknajkkaa", sum := "b692cb97e07a8e2376da0ecb4f5d973bbdb51525a253c2fd96cdf941c7c3a11b", func := "loop.example/distanceautomata/laws.FnSwap", spec := "fnSwap", inPlace := ["internal/bytealg.abigen_runtime_cmpstring"], unfollowed := true, recurses := true, apart := false, narrowed := true }
def FnSwapUptoSaid : Prop := fnSwapUptoRow.holds Try.pinned (OpenSpec.upto fnSwapSpec)

/-- 'laws.FnMinAutomaton', WHERE WHAT IT READS IS OF BULK AT MOST 1048576: true; the input reads as it did. -/
def fnMinAutomatonUptoRow : OpenClaim := { program := "ytoeeeafknajkkaa", sum := "b692cb97e07a8e2376da0ecb4f5d973bbdb51525a253c2fd96cdf941c7c3a11b", func := "loop.example/distanceautomata/laws.FnMinAutomaton", spec := "fnMinAutomaton", inPlace := ["internal/bytealg.abigen_runtime_cmpstring"], unfollowed := true, recurses := true, apart := false, narrowed := true }
def FnMinAutomatonUptoSaid : Prop := fnMinAutomatonUptoRow.holds Try.pinned (OpenSpec.upto fnMinAutomatonSpec)

/-- 'laws.FnChain', WHERE WHAT IT READS IS OF BULK AT MOST 1048576: true; the input reads as it did. -/
def fnChainUptoRow : OpenClaim := { program := "ytoeeeafknajkkaa", sum := "b692cb97e07a8e2376da0ecb4f5d973bbdb51525a253c2fd96cdf941c7c3a11b", func := "loop.example/distanceautomata/laws.FnChain", spec := "fnChain", inPlace := ["internal/bytealg.abigen_runtime_cmpstring"], unfollowed := true, recurses := true, apart := false, narrowed := true }
def FnChainUptoSaid : Prop := fnChainUptoRow.holds Try.pinned (OpenSpec.upto fnChainSpec)

/-- 'laws.FnScale', WHERE WHAT IT READS IS OF BULK AT MOST 1048576: true; the input reads as it did. -/
def fnScaleUptoRow : OpenClaim := { program := "ytoeeeafknajkkaa", sum := "b692cb97e07a8e2376da0ecb4f5d973bbdb51525a253c2fd96cdf941c7c3a11b", func := "loop.example/distanceautomata/laws.FnScale", spec := "fnScale", inPlace := ["internal/bytealg.abigen_runtime_cmpstring"], unfollowed := true, recurses := true, apart := false, narrowed := true }
def FnScaleUptoSaid : Prop := fnScaleUptoRow.holds Try.pinned (OpenSpec.upto fnScaleSpec)

end Rows
end Go.Proofs.Ytoeeeafknajkkaa
