/-
  No cell of these rows narrows 'for every input' (looked for: loops, veiled, ifaces, maps, wideKeys, modest, calm, conditions, laid).
  DERIVED. THE GIVEN ROWS OF THIS SEAT. 2 by the template 'for every input the law returns true; each argument reads behind the call as it read before'; 0 by the template 'total and deterministic' (their statements: YthnjbjihphbcpaaTotals.lean).
  GIVEN WITH THE SEED: the statements are not yours to turn. If you find one false, say at which input.
  Laid BY PROGRAM, IN A SANDBOX (cutbox-rows.mjs): the forced cells as the released guide's own fill.sh prints them over the translation c111e2a4c9435958… (all of the seat's roots in one cut). By AI agents, Wed Nov 11 2026. No macro, syntax, notation, axiom, sorry.
-/
import Derived.Test.YthnjbjihphbcpaaChecked
import GoSem.Claim
import GoSem.ClaimJoined
import GoSem.ClaimMapViews
import Derived.JoinedTies
import Derived.KernelRfl
namespace Go.Proofs.Ythnjbjihphbcpaa
/- THE CELL 'sum', in the pinned program and in every row, IS THE sha256 OF THE DUMP (.gsa) THAT YthnjbjihphbcpaaProg.lean LOADS. Nothing in Lean hashes anything: it is a label: what it is worth is what the hold of that sum in a sandbox is worth. -/
noncomputable def Try.pinned : Pinned := { name := "ythnjbjihphbcpaa", sum := "c111e2a4c9435958e65b4d091f57925b1bed5a59c1d91a8f74cf2f9e4221beb2", checked := Try.checked }
namespace Rows
def none {H : Type} : Left H := { results := [], args := [] }

/-- 'laws.FnShortWords': WHATEVER THE INPUT: true; the input reads as it did. -/
def fnShortWordsSpec : ChangeSpec := { name := "fnShortWords", fn := fun _ => fun
  | [d] => { results := [.lit (.bool true)], args := [d] }
  | _ => none }
def fnShortWordsRow : OpenClaim := { program := "ythnjbjihphbcpaa", sum := "c111e2a4c9435958e65b4d091f57925b1bed5a59c1d91a8f74cf2f9e4221beb2", func := "loop.example/distanceautomata/laws.FnShortWords", spec := "fnShortWords", inPlace := ["internal/bytealg.abigen_runtime_cmpstring"], apart := false }
def FnShortWordsSaid : Prop := fnShortWordsRow.holds Try.pinned (OpenSpec.ofChange fnShortWordsSpec)

/-- ITS FALSE NEIGHBOUR: 'it returns false'. Refute it at one input. -/
def fnShortWordsWrong : ChangeSpec := { name := "fnShortWords", fn := fun _ => fun
  | [d] => { results := [.lit (.bool false)], args := [d] }
  | _ => none }
def FnShortWordsWrongFalsely : Prop := fnShortWordsRow.holds Try.pinned (OpenSpec.ofChange fnShortWordsWrong)

/-- 'laws.FnExactWordElements': WHATEVER THE INPUT: true; the input reads as it did. -/
def fnExactWordElementsSpec : ChangeSpec := { name := "fnExactWordElements", fn := fun _ => fun
  | [d] => { results := [.lit (.bool true)], args := [d] }
  | _ => none }
def fnExactWordElementsRow : OpenClaim := { program := "ythnjbjihphbcpaa", sum := "c111e2a4c9435958e65b4d091f57925b1bed5a59c1d91a8f74cf2f9e4221beb2", func := "loop.example/distanceautomata/laws.FnExactWordElements", spec := "fnExactWordElements", inPlace := ["internal/bytealg.abigen_runtime_cmpstring"], unfollowed := true, recurses := true, apart := false }
def FnExactWordElementsSaid : Prop := fnExactWordElementsRow.holds Try.pinned (OpenSpec.ofChange fnExactWordElementsSpec)

/-- ITS FALSE NEIGHBOUR: 'it returns false'. Refute it at one input. -/
def fnExactWordElementsWrong : ChangeSpec := { name := "fnExactWordElements", fn := fun _ => fun
  | [d] => { results := [.lit (.bool false)], args := [d] }
  | _ => none }
def FnExactWordElementsWrongFalsely : Prop := fnExactWordElementsRow.holds Try.pinned (OpenSpec.ofChange fnExactWordElementsWrong)

/- THE SECOND FORM. 'bulk': how many values and letters a reading holds, each counted each time it is reached (what is shared counts as often as it is met; a slice's spare places count too). A statement '..UptoSaid' is the law's where the arguments, and the package variables that the reading takes, are together of bulk at most 1048576: NARROWER than '..Said'. Prove '..Said' where nothing that the law and all that it calls make is longer than what came in: it says more and counts as full. Else prove '..UptoSaid'. A law counts once. -/
mutual
def uptoBulk {H : Type} : DataW H → Nat
  | .lit (.string bytes) => bytes.length + 1
  | .lit _ => 1
  | .nil => 1
  | .ptr d => uptoBulk d + 1
  | .slice elems spare => uptoBulkAll elems + uptoBulkAll spare + 1
  | .agg parts => uptoBulkAll parts + 1
  | .iface _ d => uptoBulk d + 1
  | .map entries => uptoBulkEntries entries + 1
  | .held _ => 1
def uptoBulkAll {H : Type} : List (DataW H) → Nat
  | [] => 0
  | d :: r => uptoBulk d + uptoBulkAll r
def uptoBulkEntries {H : Type} : List (Lit × DataW H) → Nat
  | [] => 0
  | x :: r => uptoBulkEntry x + uptoBulkEntries r
def uptoBulkEntry {H : Type} : Lit × DataW H → Nat
  | (.string bytes, d) => bytes.length + uptoBulk d + 1
  | (_, d) => uptoBulk d + 1
 end
def uptoSmall : (H : Type) → List (DataW H) → Bool := fun _ ds => decide (uptoBulkAll ds ≤ 1048576)
def OpenSpec.upto (s : _root_.Go.ChangeSpec) : _root_.Go.OpenSpec := { _root_.Go.OpenSpec.ofChange s with cond := some uptoSmall }

/-- 'laws.FnShortWords', WHERE WHAT IT READS IS OF BULK AT MOST 1048576: true; the input reads as it did. -/
def fnShortWordsUptoRow : OpenClaim := { program := "ythnjbjihphbcpaa", sum := "c111e2a4c9435958e65b4d091f57925b1bed5a59c1d91a8f74cf2f9e4221beb2", func := "loop.example/distanceautomata/laws.FnShortWords", spec := "fnShortWords", inPlace := ["internal/bytealg.abigen_runtime_cmpstring"], apart := false, narrowed := true }
def FnShortWordsUptoSaid : Prop := fnShortWordsUptoRow.holds Try.pinned (OpenSpec.upto fnShortWordsSpec)

/-- 'laws.FnExactWordElements', WHERE WHAT IT READS IS OF BULK AT MOST 1048576: true; the input reads as it did. -/
def fnExactWordElementsUptoRow : OpenClaim := { program := "ythnjbjihphbcpaa", sum := "c111e2a4c9435958e65b4d091f57925b1bed5a59c1d91a8f74cf2f9e4221beb2", func := "loop.example/distanceautomata/laws.FnExactWordElements", spec := "fnExactWordElements", inPlace := ["internal/bytealg.abigen_runtime_cmpstring"], unfollowed := true, recurses := true, apart := false, narrowed := true }
def FnExactWordElementsUptoSaid : Prop := fnExactWordElementsUptoRow.holds Try.pinned (OpenSpec.upto fnExactWordElementsSpec)

end Rows
end Go.Proofs.Ythnjbjihphbcpaa
