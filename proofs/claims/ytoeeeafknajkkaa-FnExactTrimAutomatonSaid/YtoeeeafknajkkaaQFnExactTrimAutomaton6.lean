import Derived.Test.YtoeeeafknajkkaaQFnExactTrimAutomaton5
import Derived.Test.YtoeeeafknajkkaaQFnExactTrimAutomaton2
import Derived.Test.YtoeeeafknajkkaaProg
import Derived.WalkKit
import Derived.ProofKit
import Derived.Lib.Bytealg
import Derived.Test.YtoeeeafknajkkaaQFnExactTrimAutomaton4
section
set_option linter.unusedVariables false
set_option linter.unusedSimpArgs false
namespace Go.Proofs.Ytoeeeafknajkkaa.V
open Go Go.Proofs.Ytoeeeafknajkkaa.R Go.RowKit
mutual
def spec_TrimAutomaton.l0 : Nat → (List Int) → Int → Int → Int → (List Int) → (List Int) → (List Stp) → Int → Int → Int → Int → Option (Int × (List Int) × (List Int) × (List Stp) × Bool)
  | 0, _, _, _, _, _, _, _, _, _, _, _ => none
  | k + 1, y2, x20, x21, y0_0, y0_1, y0_2, y0_3, y3_0, y3_1, y3_2, y3_3 => (if x21 < x20 then (if 0 ≤ x21 then (if x21 < (y2.length : Int) then (if (rdI y2 x21) = 0 then (spec_TrimAutomaton.l0 k y2 x20 (wrap64 (x21 + 1)) y0_0 y0_1 y0_2 y0_3 x21 y3_1 y3_2 y3_3) else (if (rdI y2 x21) = 1 then (spec_TrimAutomaton.l0 k y2 x20 (wrap64 (x21 + 1)) y0_0 y0_1 y0_2 y0_3 y3_0 x21 y3_2 y3_3) else (if (rdI y2 x21) = 2 then (spec_TrimAutomaton.l0 k y2 x20 (wrap64 (x21 + 1)) y0_0 y0_1 y0_2 y0_3 y3_0 y3_1 x21 y3_3) else (if (rdI y2 x21) = 3 then (spec_TrimAutomaton.l0 k y2 x20 (wrap64 (x21 + 1)) y0_0 y0_1 y0_2 y0_3 y3_0 y3_1 y3_2 x21) else none)))) else none) else none) else (spec_TrimAutomaton.l1 k y2 (y2.length : Int) 0 y0_0 y0_1 y0_2 y0_3 y3_0 y3_1 y3_2 y3_3 (y2.length : Int) ([] : List Int) ([] : List Int)))
def spec_TrimAutomaton.l1 : Nat → (List Int) → Int → Int → Int → (List Int) → (List Int) → (List Stp) → Int → Int → Int → Int → Int → (List Int) → (List Int) → Option (Int × (List Int) × (List Int) × (List Stp) × Bool)
  | 0, _, _, _, _, _, _, _, _, _, _, _, _, _, _ => none
  | k + 1, y2, x37, x38, y0_0, y0_1, y0_2, y0_3, y3_0, y3_1, y3_2, y3_3, y4_0, y8, y9 => (if x38 < x37 then (if 0 ≤ x38 then (if x38 < (y2.length : Int) then ((spec_l4In.f k y0_1 (rdI y2 x38)).bind fun t2 => (if t2 = true then (if (rdI y2 x38) = 0 then (if y8.length < 17592186044416 then ((spec_l4In.f k y0_2 (rdI y2 x38)).bind fun t3 => (if t3 = true then (if y9.length < 17592186044416 then (spec_TrimAutomaton.l1 k y2 x37 (wrap64 (x38 + 1)) y0_0 y0_1 y0_2 y0_3 y3_0 y3_1 y3_2 y3_3 y4_0 (y8 ++ [y3_0]) (y9 ++ [y3_0])) else none) else (spec_TrimAutomaton.l1 k y2 x37 (wrap64 (x38 + 1)) y0_0 y0_1 y0_2 y0_3 y3_0 y3_1 y3_2 y3_3 y4_0 (y8 ++ [y3_0]) y9))) else none) else (if (rdI y2 x38) = 1 then (if y8.length < 17592186044416 then ((spec_l4In.f k y0_2 (rdI y2 x38)).bind fun t4 => (if t4 = true then (if y9.length < 17592186044416 then (spec_TrimAutomaton.l1 k y2 x37 (wrap64 (x38 + 1)) y0_0 y0_1 y0_2 y0_3 y3_0 y3_1 y3_2 y3_3 y4_0 (y8 ++ [y3_1]) (y9 ++ [y3_1])) else none) else (spec_TrimAutomaton.l1 k y2 x37 (wrap64 (x38 + 1)) y0_0 y0_1 y0_2 y0_3 y3_0 y3_1 y3_2 y3_3 y4_0 (y8 ++ [y3_1]) y9))) else none) else (if (rdI y2 x38) = 2 then (if y8.length < 17592186044416 then ((spec_l4In.f k y0_2 (rdI y2 x38)).bind fun t5 => (if t5 = true then (if y9.length < 17592186044416 then (spec_TrimAutomaton.l1 k y2 x37 (wrap64 (x38 + 1)) y0_0 y0_1 y0_2 y0_3 y3_0 y3_1 y3_2 y3_3 y4_0 (y8 ++ [y3_2]) (y9 ++ [y3_2])) else none) else (spec_TrimAutomaton.l1 k y2 x37 (wrap64 (x38 + 1)) y0_0 y0_1 y0_2 y0_3 y3_0 y3_1 y3_2 y3_3 y4_0 (y8 ++ [y3_2]) y9))) else none) else (if (rdI y2 x38) = 3 then (if y8.length < 17592186044416 then ((spec_l4In.f k y0_2 (rdI y2 x38)).bind fun t6 => (if t6 = true then (if y9.length < 17592186044416 then (spec_TrimAutomaton.l1 k y2 x37 (wrap64 (x38 + 1)) y0_0 y0_1 y0_2 y0_3 y3_0 y3_1 y3_2 y3_3 y4_0 (y8 ++ [y3_3]) (y9 ++ [y3_3])) else none) else (spec_TrimAutomaton.l1 k y2 x37 (wrap64 (x38 + 1)) y0_0 y0_1 y0_2 y0_3 y3_0 y3_1 y3_2 y3_3 y4_0 (y8 ++ [y3_3]) y9))) else none) else none)))) else ((spec_l4In.f k y0_2 (rdI y2 x38)).bind fun t7 => (if t7 = true then (if (rdI y2 x38) = 0 then (if y9.length < 17592186044416 then (spec_TrimAutomaton.l1 k y2 x37 (wrap64 (x38 + 1)) y0_0 y0_1 y0_2 y0_3 y3_0 y3_1 y3_2 y3_3 y4_0 y8 (y9 ++ [y3_0])) else none) else (if (rdI y2 x38) = 1 then (if y9.length < 17592186044416 then (spec_TrimAutomaton.l1 k y2 x37 (wrap64 (x38 + 1)) y0_0 y0_1 y0_2 y0_3 y3_0 y3_1 y3_2 y3_3 y4_0 y8 (y9 ++ [y3_1])) else none) else (if (rdI y2 x38) = 2 then (if y9.length < 17592186044416 then (spec_TrimAutomaton.l1 k y2 x37 (wrap64 (x38 + 1)) y0_0 y0_1 y0_2 y0_3 y3_0 y3_1 y3_2 y3_3 y4_0 y8 (y9 ++ [y3_2])) else none) else (if (rdI y2 x38) = 3 then (if y9.length < 17592186044416 then (spec_TrimAutomaton.l1 k y2 x37 (wrap64 (x38 + 1)) y0_0 y0_1 y0_2 y0_3 y3_0 y3_1 y3_2 y3_3 y4_0 y8 (y9 ++ [y3_3])) else none) else none)))) else (spec_TrimAutomaton.l1 k y2 x37 (wrap64 (x38 + 1)) y0_0 y0_1 y0_2 y0_3 y3_0 y3_1 y3_2 y3_3 y4_0 y8 y9))))) else none) else none) else (spec_TrimAutomaton.l2 k y2 y0_3 (y0_3.length : Int) 0 y3_0 y3_1 y3_2 y3_3 y4_0 y8 y9 ([] : List Stp)))
def spec_TrimAutomaton.l2 : Nat → (List Int) → (List Stp) → Int → Int → Int → Int → Int → Int → Int → (List Int) → (List Int) → (List Stp) → Option (Int × (List Int) × (List Int) × (List Stp) × Bool)
  | 0, _, _, _, _, _, _, _, _, _, _, _, _ => none
  | k + 1, y1, x68, x69, x70, y2_0, y2_1, y2_2, y2_3, y3_0, y7, y8, y9 => (if x70 < x69 then (if 0 ≤ x70 then (if x70 < (x68.length : Int) then ((spec_l4In.f k y1 ((rdT x68 x70).f0)).bind fun t8 => (if t8 = true then ((spec_l4In.f k y1 ((rdT x68 x70).f2)).bind fun t9 => (if t9 = true then (if (rdT x68 x70).f0 = 0 then (if (rdT x68 x70).f2 = 0 then (if y9.length < 3518437208883 then (spec_TrimAutomaton.l2 k y1 x68 x69 (wrap64 (x70 + 1)) y2_0 y2_1 y2_2 y2_3 y3_0 y7 y8 (y9 ++ [(⟨y2_0, (rdT x68 x70).f1, y2_0, (rdT x68 x70).f3⟩ : Stp)])) else none) else (if (rdT x68 x70).f2 = 1 then (if y9.length < 3518437208883 then (spec_TrimAutomaton.l2 k y1 x68 x69 (wrap64 (x70 + 1)) y2_0 y2_1 y2_2 y2_3 y3_0 y7 y8 (y9 ++ [(⟨y2_0, (rdT x68 x70).f1, y2_1, (rdT x68 x70).f3⟩ : Stp)])) else none) else (if (rdT x68 x70).f2 = 2 then (if y9.length < 3518437208883 then (spec_TrimAutomaton.l2 k y1 x68 x69 (wrap64 (x70 + 1)) y2_0 y2_1 y2_2 y2_3 y3_0 y7 y8 (y9 ++ [(⟨y2_0, (rdT x68 x70).f1, y2_2, (rdT x68 x70).f3⟩ : Stp)])) else none) else (if (rdT x68 x70).f2 = 3 then (if y9.length < 3518437208883 then (spec_TrimAutomaton.l2 k y1 x68 x69 (wrap64 (x70 + 1)) y2_0 y2_1 y2_2 y2_3 y3_0 y7 y8 (y9 ++ [(⟨y2_0, (rdT x68 x70).f1, y2_3, (rdT x68 x70).f3⟩ : Stp)])) else none) else none)))) else (if (rdT x68 x70).f0 = 1 then (if (rdT x68 x70).f2 = 0 then (if y9.length < 3518437208883 then (spec_TrimAutomaton.l2 k y1 x68 x69 (wrap64 (x70 + 1)) y2_0 y2_1 y2_2 y2_3 y3_0 y7 y8 (y9 ++ [(⟨y2_1, (rdT x68 x70).f1, y2_0, (rdT x68 x70).f3⟩ : Stp)])) else none) else (if (rdT x68 x70).f2 = 1 then (if y9.length < 3518437208883 then (spec_TrimAutomaton.l2 k y1 x68 x69 (wrap64 (x70 + 1)) y2_0 y2_1 y2_2 y2_3 y3_0 y7 y8 (y9 ++ [(⟨y2_1, (rdT x68 x70).f1, y2_1, (rdT x68 x70).f3⟩ : Stp)])) else none) else (if (rdT x68 x70).f2 = 2 then (if y9.length < 3518437208883 then (spec_TrimAutomaton.l2 k y1 x68 x69 (wrap64 (x70 + 1)) y2_0 y2_1 y2_2 y2_3 y3_0 y7 y8 (y9 ++ [(⟨y2_1, (rdT x68 x70).f1, y2_2, (rdT x68 x70).f3⟩ : Stp)])) else none) else (if (rdT x68 x70).f2 = 3 then (if y9.length < 3518437208883 then (spec_TrimAutomaton.l2 k y1 x68 x69 (wrap64 (x70 + 1)) y2_0 y2_1 y2_2 y2_3 y3_0 y7 y8 (y9 ++ [(⟨y2_1, (rdT x68 x70).f1, y2_3, (rdT x68 x70).f3⟩ : Stp)])) else none) else none)))) else (if (rdT x68 x70).f0 = 2 then (if (rdT x68 x70).f2 = 0 then (if y9.length < 3518437208883 then (spec_TrimAutomaton.l2 k y1 x68 x69 (wrap64 (x70 + 1)) y2_0 y2_1 y2_2 y2_3 y3_0 y7 y8 (y9 ++ [(⟨y2_2, (rdT x68 x70).f1, y2_0, (rdT x68 x70).f3⟩ : Stp)])) else none) else (if (rdT x68 x70).f2 = 1 then (if y9.length < 3518437208883 then (spec_TrimAutomaton.l2 k y1 x68 x69 (wrap64 (x70 + 1)) y2_0 y2_1 y2_2 y2_3 y3_0 y7 y8 (y9 ++ [(⟨y2_2, (rdT x68 x70).f1, y2_1, (rdT x68 x70).f3⟩ : Stp)])) else none) else (if (rdT x68 x70).f2 = 2 then (if y9.length < 3518437208883 then (spec_TrimAutomaton.l2 k y1 x68 x69 (wrap64 (x70 + 1)) y2_0 y2_1 y2_2 y2_3 y3_0 y7 y8 (y9 ++ [(⟨y2_2, (rdT x68 x70).f1, y2_2, (rdT x68 x70).f3⟩ : Stp)])) else none) else (if (rdT x68 x70).f2 = 3 then (if y9.length < 3518437208883 then (spec_TrimAutomaton.l2 k y1 x68 x69 (wrap64 (x70 + 1)) y2_0 y2_1 y2_2 y2_3 y3_0 y7 y8 (y9 ++ [(⟨y2_2, (rdT x68 x70).f1, y2_3, (rdT x68 x70).f3⟩ : Stp)])) else none) else none)))) else (if (rdT x68 x70).f0 = 3 then (if (rdT x68 x70).f2 = 0 then (if y9.length < 3518437208883 then (spec_TrimAutomaton.l2 k y1 x68 x69 (wrap64 (x70 + 1)) y2_0 y2_1 y2_2 y2_3 y3_0 y7 y8 (y9 ++ [(⟨y2_3, (rdT x68 x70).f1, y2_0, (rdT x68 x70).f3⟩ : Stp)])) else none) else (if (rdT x68 x70).f2 = 1 then (if y9.length < 3518437208883 then (spec_TrimAutomaton.l2 k y1 x68 x69 (wrap64 (x70 + 1)) y2_0 y2_1 y2_2 y2_3 y3_0 y7 y8 (y9 ++ [(⟨y2_3, (rdT x68 x70).f1, y2_1, (rdT x68 x70).f3⟩ : Stp)])) else none) else (if (rdT x68 x70).f2 = 2 then (if y9.length < 3518437208883 then (spec_TrimAutomaton.l2 k y1 x68 x69 (wrap64 (x70 + 1)) y2_0 y2_1 y2_2 y2_3 y3_0 y7 y8 (y9 ++ [(⟨y2_3, (rdT x68 x70).f1, y2_2, (rdT x68 x70).f3⟩ : Stp)])) else none) else (if (rdT x68 x70).f2 = 3 then (if y9.length < 3518437208883 then (spec_TrimAutomaton.l2 k y1 x68 x69 (wrap64 (x70 + 1)) y2_0 y2_1 y2_2 y2_3 y3_0 y7 y8 (y9 ++ [(⟨y2_3, (rdT x68 x70).f1, y2_3, (rdT x68 x70).f3⟩ : Stp)])) else none) else none)))) else none)))) else (spec_TrimAutomaton.l2 k y1 x68 x69 (wrap64 (x70 + 1)) y2_0 y2_1 y2_2 y2_3 y3_0 y7 y8 y9))) else (spec_TrimAutomaton.l2 k y1 x68 x69 (wrap64 (x70 + 1)) y2_0 y2_1 y2_2 y2_3 y3_0 y7 y8 y9))) else none) else none) else (some (y3_0, y7, y8, y9, true)))
end
def spec_TrimAutomaton.f (k : Nat) (a0_0 : Int) (l0_1 : List Int) (l0_2 : List Int) (l0_3 : List Stp) : Option (Int × (List Int) × (List Int) × (List Stp) × Bool) := ((spec_UsefulOf.f k a0_0 l0_1 l0_2 l0_3).bind fun t1 => (if (t1.length : Int) = 0 then (some (0, ([] : List Int), ([] : List Int), ([] : List Stp), false)) else (spec_TrimAutomaton.l0 k t1 (t1.length : Int) 0 a0_0 l0_1 l0_2 l0_3 0 0 0 0)))
def spec_TrimAutomaton.en (r : Int × (List Int) × (List Int) × (List Stp) × Bool) : Res := (.tup [.agg [.int .i64 r.1, .sl 0 0, .sl 1 0, .sl 2 0], .lit r.2.2.2.2], [.arr 3 0 (.I .i64 r.2.1) false, .arr 3 0 (.I .i64 r.2.2.1) false, .arr 67 0 (.T r.2.2.2.1) false])
def spec_TrimAutomaton.dec : List AV → List R.Obj → Option (Int × (List Int) × (List Int) × (List Stp))
  | [.agg [.int .i64 a0_0, .imm (.I .i64 l0_1), .imm (.I .i64 l0_2), .imm (.T l0_3)]], [] => some (a0_0, l0_1, l0_2, l0_3)
  | _, _ => none
def spec_TrimAutomaton.tw : Tw := ⟨28, Int × (List Int) × (List Int) × (List Stp), Int × (List Int) × (List Int) × (List Stp) × Bool, spec_TrimAutomaton.dec, fun a => [.agg [.int .i64 a.1, .imm (.I .i64 a.2.1), .imm (.I .i64 a.2.2.1), .imm (.T a.2.2.2)]], fun a => [], fun k a => spec_TrimAutomaton.f k a.1 a.2.1 a.2.2.1 a.2.2.2, fun a r => spec_TrimAutomaton.en r, true⟩
theorem spec_TrimAutomaton.dok : spec_TrimAutomaton.tw.DecOk := by
  intro args hc a h
  have h : spec_TrimAutomaton.dec args hc = some a := h
  unfold spec_TrimAutomaton.dec at h
  split at h
  · cases h; exact ⟨rfl, rfl⟩
  · cases h
noncomputable def spec_TrimAutomaton.O (k : Nat) : Oracle := (spec_UsefulOf.tw.orc k (spec_l4In.tw.orc k noO))
def spec_TrimAutomaton.fh : FH := ⟨fun i => match i with | 6 => some [(1, 0), (2, 0), (4, 0), (5, 0), (19, 0), (20, 0), (21, 0)] | 12 => some [(1, 0), (2, 0), (4, 0), (5, 0), (8, 0), (36, 0), (37, 0), (38, 0)] | 20 => some [(2, 0), (4, 0), (5, 0), (8, 0), (68, 0), (69, 0), (70, 0)] | _ => none, [(true, 3), (true, 3), (true, 67)], false⟩
noncomputable def spec_TrimAutomaton.x0 (k : Nat) (y2 : List Int) (x20 : Int) (x21 : Int) (y0_0 : Int) (y0_1 : List Int) (y0_2 : List Int) (y0_3 : List Stp) (y3_0 : Int) (y3_1 : Int) (y3_2 : Int) (y3_3 : Int) : Option Res := R.exec Try.prog xhn spec_TrimAutomaton.O 0 Try.f28 spec_TrimAutomaton.fh k (R.point Try.f28 6) ⟨[(1, .ptr 0 0), (2, .ptr 1 0), (4, .sl 2 0), (5, .ptr 3 0), (19, .sl 2 0), (20, .int .i64 x20), (21, .int .i64 x21)], [(0, .box false [.int .i64 y0_0, .imm (.I .i64 y0_1), .imm (.I .i64 y0_2), .imm (.T y0_3)]), (1, .box false [.int .i64 0, .sl 4 0, .sl 5 0, .sl 6 0]), (2, .arr 3 0 (.I .i64 y2) false), (3, .box false [.int .i64 y3_0, .int .i64 y3_1, .int .i64 y3_2, .int .i64 y3_3]), (4, .arr 3 0 (.I .i64 ([] : List Int)) false), (5, .arr 3 0 (.I .i64 ([] : List Int)) false), (6, .arr 67 0 (.T ([] : List Stp)) false)], 9⟩
noncomputable def spec_TrimAutomaton.x1 (k : Nat) (y2 : List Int) (x37 : Int) (x38 : Int) (y0_0 : Int) (y0_1 : List Int) (y0_2 : List Int) (y0_3 : List Stp) (y3_0 : Int) (y3_1 : Int) (y3_2 : Int) (y3_3 : Int) (y4_0 : Int) (y8 : List Int) (y9 : List Int) : Option Res := R.exec Try.prog xhn spec_TrimAutomaton.O 0 Try.f28 spec_TrimAutomaton.fh k (R.point Try.f28 12) ⟨[(1, .ptr 0 0), (2, .ptr 1 0), (4, .sl 2 0), (5, .ptr 3 0), (8, .ptr 4 0), (36, .sl 2 0), (37, .int .i64 x37), (38, .int .i64 x38)], [(0, .box false [.int .i64 y0_0, .imm (.I .i64 y0_1), .imm (.I .i64 y0_2), .imm (.T y0_3)]), (1, .box false [.int .i64 0, .sl 5 0, .sl 6 0, .sl 7 0]), (2, .arr 3 0 (.I .i64 y2) false), (3, .box false [.int .i64 y3_0, .int .i64 y3_1, .int .i64 y3_2, .int .i64 y3_3]), (4, .box false [.int .i64 y4_0, .sl 8 0, .sl 9 0, .sl 10 0]), (5, .arr 3 0 (.I .i64 ([] : List Int)) false), (6, .arr 3 0 (.I .i64 ([] : List Int)) false), (7, .arr 67 0 (.T ([] : List Stp)) false), (8, .arr 3 0 (.I .i64 y8) false), (9, .arr 3 0 (.I .i64 y9) false), (10, .arr 67 0 (.T ([] : List Stp)) false)], 13⟩
noncomputable def spec_TrimAutomaton.x2 (k : Nat) (y1 : List Int) (x68 : List Stp) (x69 : Int) (x70 : Int) (y2_0 : Int) (y2_1 : Int) (y2_2 : Int) (y2_3 : Int) (y3_0 : Int) (y7 : List Int) (y8 : List Int) (y9 : List Stp) : Option Res := R.exec Try.prog xhn spec_TrimAutomaton.O 0 Try.f28 spec_TrimAutomaton.fh k (R.point Try.f28 20) ⟨[(2, .ptr 0 0), (4, .sl 1 0), (5, .ptr 2 0), (8, .ptr 3 0), (68, .imm (.T x68)), (69, .int .i64 x69), (70, .int .i64 x70)], [(0, .box false [.int .i64 0, .sl 4 0, .sl 5 0, .sl 6 0]), (1, .arr 3 0 (.I .i64 y1) false), (2, .box false [.int .i64 y2_0, .int .i64 y2_1, .int .i64 y2_2, .int .i64 y2_3]), (3, .box false [.int .i64 y3_0, .sl 7 0, .sl 8 0, .sl 9 0]), (4, .arr 3 0 (.I .i64 ([] : List Int)) false), (5, .arr 3 0 (.I .i64 ([] : List Int)) false), (6, .arr 67 0 (.T ([] : List Stp)) false), (7, .arr 3 0 (.I .i64 y7) false), (8, .arr 3 0 (.I .i64 y8) false), (9, .arr 67 0 (.T y9) false)], 12⟩
set_option maxRecDepth 100000 in
theorem spec_TrimAutomaton.e0 (k : Nat) (y2 : List Int) (x20 : Int) (x21 : Int) (y0_0 : Int) (y0_1 : List Int) (y0_2 : List Int) (y0_3 : List Stp) (y3_0 : Int) (y3_1 : Int) (y3_2 : Int) (y3_3 : Int) : spec_TrimAutomaton.x0 (k + 1) y2 x20 x21 y0_0 y0_1 y0_2 y0_3 y3_0 y3_1 y3_2 y3_3 = (if x21 < x20 then (if 0 ≤ x21 then (if x21 < (y2.length : Int) then (if (rdI y2 x21) = 0 then (spec_TrimAutomaton.x0 k y2 x20 (wr64 (x21 + 1)) y0_0 y0_1 y0_2 y0_3 x21 y3_1 y3_2 y3_3) else (if (rdI y2 x21) = 1 then (spec_TrimAutomaton.x0 k y2 x20 (wr64 (x21 + 1)) y0_0 y0_1 y0_2 y0_3 y3_0 x21 y3_2 y3_3) else (if (rdI y2 x21) = 2 then (spec_TrimAutomaton.x0 k y2 x20 (wr64 (x21 + 1)) y0_0 y0_1 y0_2 y0_3 y3_0 y3_1 x21 y3_3) else (if (rdI y2 x21) = 3 then (spec_TrimAutomaton.x0 k y2 x20 (wr64 (x21 + 1)) y0_0 y0_1 y0_2 y0_3 y3_0 y3_1 y3_2 x21) else none)))) else none) else none) else (spec_TrimAutomaton.x1 k y2 (y2.length : Int) 0 y0_0 y0_1 y0_2 y0_3 y3_0 y3_1 y3_2 y3_3 (y2.length : Int) ([] : List Int) ([] : List Int))) := by kernel_rfl
set_option maxRecDepth 100000 in
theorem spec_TrimAutomaton.e1 (k : Nat) (y2 : List Int) (x37 : Int) (x38 : Int) (y0_0 : Int) (y0_1 : List Int) (y0_2 : List Int) (y0_3 : List Stp) (y3_0 : Int) (y3_1 : Int) (y3_2 : Int) (y3_3 : Int) (y4_0 : Int) (y8 : List Int) (y9 : List Int) : spec_TrimAutomaton.x1 (k + 1) y2 x37 x38 y0_0 y0_1 y0_2 y0_3 y3_0 y3_1 y3_2 y3_3 y4_0 y8 y9 = (if x38 < x37 then (if 0 ≤ x38 then (if x38 < (y2.length : Int) then ((spec_l4In.f k y0_1 (rdI y2 x38)).bind fun t2 => (if t2 = true then (if (rdI y2 x38) = 0 then (if y8.length < 17592186044416 then ((spec_l4In.f k y0_2 (rdI y2 x38)).bind fun t3 => (if t3 = true then (if y9.length < 17592186044416 then (spec_TrimAutomaton.x1 k y2 x37 (wr64 (x38 + 1)) y0_0 y0_1 y0_2 y0_3 y3_0 y3_1 y3_2 y3_3 y4_0 (y8 ++ [y3_0]) (y9 ++ [y3_0])) else none) else (spec_TrimAutomaton.x1 k y2 x37 (wr64 (x38 + 1)) y0_0 y0_1 y0_2 y0_3 y3_0 y3_1 y3_2 y3_3 y4_0 (y8 ++ [y3_0]) y9))) else none) else (if (rdI y2 x38) = 1 then (if y8.length < 17592186044416 then ((spec_l4In.f k y0_2 (rdI y2 x38)).bind fun t4 => (if t4 = true then (if y9.length < 17592186044416 then (spec_TrimAutomaton.x1 k y2 x37 (wr64 (x38 + 1)) y0_0 y0_1 y0_2 y0_3 y3_0 y3_1 y3_2 y3_3 y4_0 (y8 ++ [y3_1]) (y9 ++ [y3_1])) else none) else (spec_TrimAutomaton.x1 k y2 x37 (wr64 (x38 + 1)) y0_0 y0_1 y0_2 y0_3 y3_0 y3_1 y3_2 y3_3 y4_0 (y8 ++ [y3_1]) y9))) else none) else (if (rdI y2 x38) = 2 then (if y8.length < 17592186044416 then ((spec_l4In.f k y0_2 (rdI y2 x38)).bind fun t5 => (if t5 = true then (if y9.length < 17592186044416 then (spec_TrimAutomaton.x1 k y2 x37 (wr64 (x38 + 1)) y0_0 y0_1 y0_2 y0_3 y3_0 y3_1 y3_2 y3_3 y4_0 (y8 ++ [y3_2]) (y9 ++ [y3_2])) else none) else (spec_TrimAutomaton.x1 k y2 x37 (wr64 (x38 + 1)) y0_0 y0_1 y0_2 y0_3 y3_0 y3_1 y3_2 y3_3 y4_0 (y8 ++ [y3_2]) y9))) else none) else (if (rdI y2 x38) = 3 then (if y8.length < 17592186044416 then ((spec_l4In.f k y0_2 (rdI y2 x38)).bind fun t6 => (if t6 = true then (if y9.length < 17592186044416 then (spec_TrimAutomaton.x1 k y2 x37 (wr64 (x38 + 1)) y0_0 y0_1 y0_2 y0_3 y3_0 y3_1 y3_2 y3_3 y4_0 (y8 ++ [y3_3]) (y9 ++ [y3_3])) else none) else (spec_TrimAutomaton.x1 k y2 x37 (wr64 (x38 + 1)) y0_0 y0_1 y0_2 y0_3 y3_0 y3_1 y3_2 y3_3 y4_0 (y8 ++ [y3_3]) y9))) else none) else none)))) else ((spec_l4In.f k y0_2 (rdI y2 x38)).bind fun t7 => (if t7 = true then (if (rdI y2 x38) = 0 then (if y9.length < 17592186044416 then (spec_TrimAutomaton.x1 k y2 x37 (wr64 (x38 + 1)) y0_0 y0_1 y0_2 y0_3 y3_0 y3_1 y3_2 y3_3 y4_0 y8 (y9 ++ [y3_0])) else none) else (if (rdI y2 x38) = 1 then (if y9.length < 17592186044416 then (spec_TrimAutomaton.x1 k y2 x37 (wr64 (x38 + 1)) y0_0 y0_1 y0_2 y0_3 y3_0 y3_1 y3_2 y3_3 y4_0 y8 (y9 ++ [y3_1])) else none) else (if (rdI y2 x38) = 2 then (if y9.length < 17592186044416 then (spec_TrimAutomaton.x1 k y2 x37 (wr64 (x38 + 1)) y0_0 y0_1 y0_2 y0_3 y3_0 y3_1 y3_2 y3_3 y4_0 y8 (y9 ++ [y3_2])) else none) else (if (rdI y2 x38) = 3 then (if y9.length < 17592186044416 then (spec_TrimAutomaton.x1 k y2 x37 (wr64 (x38 + 1)) y0_0 y0_1 y0_2 y0_3 y3_0 y3_1 y3_2 y3_3 y4_0 y8 (y9 ++ [y3_3])) else none) else none)))) else (spec_TrimAutomaton.x1 k y2 x37 (wr64 (x38 + 1)) y0_0 y0_1 y0_2 y0_3 y3_0 y3_1 y3_2 y3_3 y4_0 y8 y9))))) else none) else none) else (spec_TrimAutomaton.x2 k y2 y0_3 (y0_3.length : Int) 0 y3_0 y3_1 y3_2 y3_3 y4_0 y8 y9 ([] : List Stp))) := by
  refine Eq.trans ?_ (R.icong (fun h0 => (R.icong (fun h1 => (R.icong (fun h2 => (R.bcong fun t2 => (R.icong (fun h3 => (R.icong (fun h4 => (R.icong (fun h5 => (R.bcong fun t3 => (R.icong (fun h6 => (R.idropT (p := (rdI y2 x38) = 0) (z := (if (rdI y2 x38) = 1 then (if y9.length < 17592186044416 then (spec_TrimAutomaton.x1 k y2 x37 (wr64 (x38 + 1)) y0_0 y0_1 y0_2 y0_3 y3_0 y3_1 y3_2 y3_3 y4_0 (y8 ++ [y3_0]) (y9 ++ [y3_1])) else none) else (if (rdI y2 x38) = 2 then (if y9.length < 17592186044416 then (spec_TrimAutomaton.x1 k y2 x37 (wr64 (x38 + 1)) y0_0 y0_1 y0_2 y0_3 y3_0 y3_1 y3_2 y3_3 y4_0 (y8 ++ [y3_0]) (y9 ++ [y3_2])) else none) else (if (rdI y2 x38) = 3 then (if y9.length < 17592186044416 then (spec_TrimAutomaton.x1 k y2 x37 (wr64 (x38 + 1)) y0_0 y0_1 y0_2 y0_3 y3_0 y3_1 y3_2 y3_3 y4_0 (y8 ++ [y3_0]) (y9 ++ [y3_3])) else none) else none)))) h4 rfl)) (fun h6 => rfl)))) (fun h5 => rfl))) (fun h4 => (R.icong (fun h5 => (R.icong (fun h6 => (R.bcong fun t4 => (R.icong (fun h7 => (R.idropF (p := (rdI y2 x38) = 0) (z := (if y9.length < 17592186044416 then (spec_TrimAutomaton.x1 k y2 x37 (wr64 (x38 + 1)) y0_0 y0_1 y0_2 y0_3 y3_0 y3_1 y3_2 y3_3 y4_0 (y8 ++ [y3_1]) (y9 ++ [y3_0])) else none)) h4 (R.idropT (p := (rdI y2 x38) = 1) (z := (if (rdI y2 x38) = 2 then (if y9.length < 17592186044416 then (spec_TrimAutomaton.x1 k y2 x37 (wr64 (x38 + 1)) y0_0 y0_1 y0_2 y0_3 y3_0 y3_1 y3_2 y3_3 y4_0 (y8 ++ [y3_1]) (y9 ++ [y3_2])) else none) else (if (rdI y2 x38) = 3 then (if y9.length < 17592186044416 then (spec_TrimAutomaton.x1 k y2 x37 (wr64 (x38 + 1)) y0_0 y0_1 y0_2 y0_3 y3_0 y3_1 y3_2 y3_3 y4_0 (y8 ++ [y3_1]) (y9 ++ [y3_3])) else none) else none))) h5 rfl))) (fun h7 => rfl)))) (fun h6 => rfl))) (fun h5 => (R.icong (fun h6 => (R.icong (fun h7 => (R.bcong fun t5 => (R.icong (fun h8 => (R.idropF (p := (rdI y2 x38) = 0) (z := (if y9.length < 17592186044416 then (spec_TrimAutomaton.x1 k y2 x37 (wr64 (x38 + 1)) y0_0 y0_1 y0_2 y0_3 y3_0 y3_1 y3_2 y3_3 y4_0 (y8 ++ [y3_2]) (y9 ++ [y3_0])) else none)) h4 (R.idropF (p := (rdI y2 x38) = 1) (z := (if y9.length < 17592186044416 then (spec_TrimAutomaton.x1 k y2 x37 (wr64 (x38 + 1)) y0_0 y0_1 y0_2 y0_3 y3_0 y3_1 y3_2 y3_3 y4_0 (y8 ++ [y3_2]) (y9 ++ [y3_1])) else none)) h5 (R.idropT (p := (rdI y2 x38) = 2) (z := (if (rdI y2 x38) = 3 then (if y9.length < 17592186044416 then (spec_TrimAutomaton.x1 k y2 x37 (wr64 (x38 + 1)) y0_0 y0_1 y0_2 y0_3 y3_0 y3_1 y3_2 y3_3 y4_0 (y8 ++ [y3_2]) (y9 ++ [y3_3])) else none) else none)) h6 rfl)))) (fun h8 => rfl)))) (fun h7 => rfl))) (fun h6 => (R.icong (fun h7 => (R.icong (fun h8 => (R.bcong fun t6 => (R.icong (fun h9 => (R.idropF (p := (rdI y2 x38) = 0) (z := (if y9.length < 17592186044416 then (spec_TrimAutomaton.x1 k y2 x37 (wr64 (x38 + 1)) y0_0 y0_1 y0_2 y0_3 y3_0 y3_1 y3_2 y3_3 y4_0 (y8 ++ [y3_3]) (y9 ++ [y3_0])) else none)) h4 (R.idropF (p := (rdI y2 x38) = 1) (z := (if y9.length < 17592186044416 then (spec_TrimAutomaton.x1 k y2 x37 (wr64 (x38 + 1)) y0_0 y0_1 y0_2 y0_3 y3_0 y3_1 y3_2 y3_3 y4_0 (y8 ++ [y3_3]) (y9 ++ [y3_1])) else none)) h5 (R.idropF (p := (rdI y2 x38) = 2) (z := (if y9.length < 17592186044416 then (spec_TrimAutomaton.x1 k y2 x37 (wr64 (x38 + 1)) y0_0 y0_1 y0_2 y0_3 y3_0 y3_1 y3_2 y3_3 y4_0 (y8 ++ [y3_3]) (y9 ++ [y3_2])) else none)) h6 (R.idropT (p := (rdI y2 x38) = 3) (z := none) h7 rfl))))) (fun h9 => rfl)))) (fun h8 => rfl))) (fun h7 => rfl))))))))) (fun h3 => rfl)))) (fun h2 => rfl))) (fun h1 => rfl))) (fun h0 => rfl))
  kernel_rfl
set_option maxRecDepth 100000 in
theorem spec_TrimAutomaton.e2 (k : Nat) (y1 : List Int) (x68 : List Stp) (x69 : Int) (x70 : Int) (y2_0 : Int) (y2_1 : Int) (y2_2 : Int) (y2_3 : Int) (y3_0 : Int) (y7 : List Int) (y8 : List Int) (y9 : List Stp) : spec_TrimAutomaton.x2 (k + 1) y1 x68 x69 x70 y2_0 y2_1 y2_2 y2_3 y3_0 y7 y8 y9 = (if x70 < x69 then (if 0 ≤ x70 then (if x70 < (x68.length : Int) then ((spec_l4In.f k y1 ((rdT x68 x70).f0)).bind fun t8 => (if t8 = true then ((spec_l4In.f k y1 ((rdT x68 x70).f2)).bind fun t9 => (if t9 = true then (if (rdT x68 x70).f0 = 0 then (if (rdT x68 x70).f2 = 0 then (if y9.length < 3518437208883 then (spec_TrimAutomaton.x2 k y1 x68 x69 (wr64 (x70 + 1)) y2_0 y2_1 y2_2 y2_3 y3_0 y7 y8 (y9 ++ [(⟨y2_0, (rdT x68 x70).f1, y2_0, (rdT x68 x70).f3⟩ : Stp)])) else none) else (if (rdT x68 x70).f2 = 1 then (if y9.length < 3518437208883 then (spec_TrimAutomaton.x2 k y1 x68 x69 (wr64 (x70 + 1)) y2_0 y2_1 y2_2 y2_3 y3_0 y7 y8 (y9 ++ [(⟨y2_0, (rdT x68 x70).f1, y2_1, (rdT x68 x70).f3⟩ : Stp)])) else none) else (if (rdT x68 x70).f2 = 2 then (if y9.length < 3518437208883 then (spec_TrimAutomaton.x2 k y1 x68 x69 (wr64 (x70 + 1)) y2_0 y2_1 y2_2 y2_3 y3_0 y7 y8 (y9 ++ [(⟨y2_0, (rdT x68 x70).f1, y2_2, (rdT x68 x70).f3⟩ : Stp)])) else none) else (if (rdT x68 x70).f2 = 3 then (if y9.length < 3518437208883 then (spec_TrimAutomaton.x2 k y1 x68 x69 (wr64 (x70 + 1)) y2_0 y2_1 y2_2 y2_3 y3_0 y7 y8 (y9 ++ [(⟨y2_0, (rdT x68 x70).f1, y2_3, (rdT x68 x70).f3⟩ : Stp)])) else none) else none)))) else (if (rdT x68 x70).f0 = 1 then (if (rdT x68 x70).f2 = 0 then (if y9.length < 3518437208883 then (spec_TrimAutomaton.x2 k y1 x68 x69 (wr64 (x70 + 1)) y2_0 y2_1 y2_2 y2_3 y3_0 y7 y8 (y9 ++ [(⟨y2_1, (rdT x68 x70).f1, y2_0, (rdT x68 x70).f3⟩ : Stp)])) else none) else (if (rdT x68 x70).f2 = 1 then (if y9.length < 3518437208883 then (spec_TrimAutomaton.x2 k y1 x68 x69 (wr64 (x70 + 1)) y2_0 y2_1 y2_2 y2_3 y3_0 y7 y8 (y9 ++ [(⟨y2_1, (rdT x68 x70).f1, y2_1, (rdT x68 x70).f3⟩ : Stp)])) else none) else (if (rdT x68 x70).f2 = 2 then (if y9.length < 3518437208883 then (spec_TrimAutomaton.x2 k y1 x68 x69 (wr64 (x70 + 1)) y2_0 y2_1 y2_2 y2_3 y3_0 y7 y8 (y9 ++ [(⟨y2_1, (rdT x68 x70).f1, y2_2, (rdT x68 x70).f3⟩ : Stp)])) else none) else (if (rdT x68 x70).f2 = 3 then (if y9.length < 3518437208883 then (spec_TrimAutomaton.x2 k y1 x68 x69 (wr64 (x70 + 1)) y2_0 y2_1 y2_2 y2_3 y3_0 y7 y8 (y9 ++ [(⟨y2_1, (rdT x68 x70).f1, y2_3, (rdT x68 x70).f3⟩ : Stp)])) else none) else none)))) else (if (rdT x68 x70).f0 = 2 then (if (rdT x68 x70).f2 = 0 then (if y9.length < 3518437208883 then (spec_TrimAutomaton.x2 k y1 x68 x69 (wr64 (x70 + 1)) y2_0 y2_1 y2_2 y2_3 y3_0 y7 y8 (y9 ++ [(⟨y2_2, (rdT x68 x70).f1, y2_0, (rdT x68 x70).f3⟩ : Stp)])) else none) else (if (rdT x68 x70).f2 = 1 then (if y9.length < 3518437208883 then (spec_TrimAutomaton.x2 k y1 x68 x69 (wr64 (x70 + 1)) y2_0 y2_1 y2_2 y2_3 y3_0 y7 y8 (y9 ++ [(⟨y2_2, (rdT x68 x70).f1, y2_1, (rdT x68 x70).f3⟩ : Stp)])) else none) else (if (rdT x68 x70).f2 = 2 then (if y9.length < 3518437208883 then (spec_TrimAutomaton.x2 k y1 x68 x69 (wr64 (x70 + 1)) y2_0 y2_1 y2_2 y2_3 y3_0 y7 y8 (y9 ++ [(⟨y2_2, (rdT x68 x70).f1, y2_2, (rdT x68 x70).f3⟩ : Stp)])) else none) else (if (rdT x68 x70).f2 = 3 then (if y9.length < 3518437208883 then (spec_TrimAutomaton.x2 k y1 x68 x69 (wr64 (x70 + 1)) y2_0 y2_1 y2_2 y2_3 y3_0 y7 y8 (y9 ++ [(⟨y2_2, (rdT x68 x70).f1, y2_3, (rdT x68 x70).f3⟩ : Stp)])) else none) else none)))) else (if (rdT x68 x70).f0 = 3 then (if (rdT x68 x70).f2 = 0 then (if y9.length < 3518437208883 then (spec_TrimAutomaton.x2 k y1 x68 x69 (wr64 (x70 + 1)) y2_0 y2_1 y2_2 y2_3 y3_0 y7 y8 (y9 ++ [(⟨y2_3, (rdT x68 x70).f1, y2_0, (rdT x68 x70).f3⟩ : Stp)])) else none) else (if (rdT x68 x70).f2 = 1 then (if y9.length < 3518437208883 then (spec_TrimAutomaton.x2 k y1 x68 x69 (wr64 (x70 + 1)) y2_0 y2_1 y2_2 y2_3 y3_0 y7 y8 (y9 ++ [(⟨y2_3, (rdT x68 x70).f1, y2_1, (rdT x68 x70).f3⟩ : Stp)])) else none) else (if (rdT x68 x70).f2 = 2 then (if y9.length < 3518437208883 then (spec_TrimAutomaton.x2 k y1 x68 x69 (wr64 (x70 + 1)) y2_0 y2_1 y2_2 y2_3 y3_0 y7 y8 (y9 ++ [(⟨y2_3, (rdT x68 x70).f1, y2_2, (rdT x68 x70).f3⟩ : Stp)])) else none) else (if (rdT x68 x70).f2 = 3 then (if y9.length < 3518437208883 then (spec_TrimAutomaton.x2 k y1 x68 x69 (wr64 (x70 + 1)) y2_0 y2_1 y2_2 y2_3 y3_0 y7 y8 (y9 ++ [(⟨y2_3, (rdT x68 x70).f1, y2_3, (rdT x68 x70).f3⟩ : Stp)])) else none) else none)))) else none)))) else (spec_TrimAutomaton.x2 k y1 x68 x69 (wr64 (x70 + 1)) y2_0 y2_1 y2_2 y2_3 y3_0 y7 y8 y9))) else (spec_TrimAutomaton.x2 k y1 x68 x69 (wr64 (x70 + 1)) y2_0 y2_1 y2_2 y2_3 y3_0 y7 y8 y9))) else none) else none) else (some (spec_TrimAutomaton.en (y3_0, y7, y8, y9, true)))) := by kernel_rfl
set_option maxRecDepth 100000 in
theorem spec_TrimAutomaton.ef (k : Nat) (a0_0 : Int) (l0_1 : List Int) (l0_2 : List Int) (l0_3 : List Stp) : R.start Try.prog xhn spec_TrimAutomaton.O 0 Try.f28 spec_TrimAutomaton.fh k [.agg [.int .i64 a0_0, .imm (.I .i64 l0_1), .imm (.I .i64 l0_2), .imm (.T l0_3)]] [] = ((spec_UsefulOf.f k a0_0 l0_1 l0_2 l0_3).bind fun t1 => (if (t1.length : Int) = 0 then (some (spec_TrimAutomaton.en (0, ([] : List Int), ([] : List Int), ([] : List Stp), false))) else (spec_TrimAutomaton.x0 k t1 (t1.length : Int) 0 a0_0 l0_1 l0_2 l0_3 0 0 0 0))) := by kernel_rfl
theorem spec_TrimAutomaton.link : ∀ k, (∀ (y2 : List Int) (x20 : Int) (x21 : Int) (y0_0 : Int) (y0_1 : List Int) (y0_2 : List Int) (y0_3 : List Stp) (y3_0 : Int) (y3_1 : Int) (y3_2 : Int) (y3_3 : Int), spec_TrimAutomaton.x0 k y2 x20 x21 y0_0 y0_1 y0_2 y0_3 y3_0 y3_1 y3_2 y3_3 = (spec_TrimAutomaton.l0 k y2 x20 x21 y0_0 y0_1 y0_2 y0_3 y3_0 y3_1 y3_2 y3_3).map (spec_TrimAutomaton.en)) ∧ (∀ (y2 : List Int) (x37 : Int) (x38 : Int) (y0_0 : Int) (y0_1 : List Int) (y0_2 : List Int) (y0_3 : List Stp) (y3_0 : Int) (y3_1 : Int) (y3_2 : Int) (y3_3 : Int) (y4_0 : Int) (y8 : List Int) (y9 : List Int), spec_TrimAutomaton.x1 k y2 x37 x38 y0_0 y0_1 y0_2 y0_3 y3_0 y3_1 y3_2 y3_3 y4_0 y8 y9 = (spec_TrimAutomaton.l1 k y2 x37 x38 y0_0 y0_1 y0_2 y0_3 y3_0 y3_1 y3_2 y3_3 y4_0 y8 y9).map (spec_TrimAutomaton.en)) ∧ (∀ (y1 : List Int) (x68 : List Stp) (x69 : Int) (x70 : Int) (y2_0 : Int) (y2_1 : Int) (y2_2 : Int) (y2_3 : Int) (y3_0 : Int) (y7 : List Int) (y8 : List Int) (y9 : List Stp), spec_TrimAutomaton.x2 k y1 x68 x69 x70 y2_0 y2_1 y2_2 y2_3 y3_0 y7 y8 y9 = (spec_TrimAutomaton.l2 k y1 x68 x69 x70 y2_0 y2_1 y2_2 y2_3 y3_0 y7 y8 y9).map (spec_TrimAutomaton.en))
  | 0 => ⟨fun _ _ _ _ _ _ _ _ _ _ _ => by simp only [spec_TrimAutomaton.l0, R.map_none]; rfl, fun _ _ _ _ _ _ _ _ _ _ _ _ _ _ => by simp only [spec_TrimAutomaton.l1, R.map_none]; rfl, fun _ _ _ _ _ _ _ _ _ _ _ _ => by simp only [spec_TrimAutomaton.l2, R.map_none]; rfl⟩
  | k + 1 => by
    obtain ⟨ih0, ih1, ih2⟩ := spec_TrimAutomaton.link k
    refine ⟨?_, ?_, ?_⟩
    · intro y2 x20 x21 y0_0 y0_1 y0_2 y0_3 y3_0 y3_1 y3_2 y3_3
      rw [spec_TrimAutomaton.e0]
      simp only [spec_TrimAutomaton.l0, R.map_ite, R.map_bind, R.map_none, R.map_some, R.wr64_eq, ← ih0, ← ih1, ← ih2]
    · intro y2 x37 x38 y0_0 y0_1 y0_2 y0_3 y3_0 y3_1 y3_2 y3_3 y4_0 y8 y9
      rw [spec_TrimAutomaton.e1]
      simp only [spec_TrimAutomaton.l1, R.map_ite, R.map_bind, R.map_none, R.map_some, R.wr64_eq, ← ih0, ← ih1, ← ih2]
    · intro y1 x68 x69 x70 y2_0 y2_1 y2_2 y2_3 y3_0 y7 y8 y9
      rw [spec_TrimAutomaton.e2]
      simp only [spec_TrimAutomaton.l2, R.map_ite, R.map_bind, R.map_none, R.map_some, R.wr64_eq, ← ih0, ← ih1, ← ih2]
theorem spec_TrimAutomaton.sf (k : Nat) (a0_0 : Int) (l0_1 : List Int) (l0_2 : List Int) (l0_3 : List Stp) : R.start Try.prog xhn spec_TrimAutomaton.O 0 Try.f28 spec_TrimAutomaton.fh k [.agg [.int .i64 a0_0, .imm (.I .i64 l0_1), .imm (.I .i64 l0_2), .imm (.T l0_3)]] [] = (spec_TrimAutomaton.f k a0_0 l0_1 l0_2 l0_3).map (spec_TrimAutomaton.en) := by
  obtain ⟨ih0, ih1, ih2⟩ := spec_TrimAutomaton.link k
  rw [spec_TrimAutomaton.ef]
  simp only [spec_TrimAutomaton.f, R.map_ite, R.map_bind, R.map_none, R.map_some, R.wr64_eq, ← ih0, ← ih1, ← ih2]
theorem spec_TrimAutomaton.ok (k : Nat) : spec_TrimAutomaton.tw.Ok Try.prog k := by
  intro md hmd a r h
  refine fn_ok (H := xhn) (fh := spec_TrimAutomaton.fh) (O := spec_TrimAutomaton.O) (k := k) Try.func28 (by kernel_rfl) (by kernel_rfl) (fun j _ => (Tw.orc_sound spec_UsefulOf.dok (spec_UsefulOf.ok j) (fun _ => rfl) (Tw.orc_sound spec_l4In.dok (spec_l4In.ok j) (fun _ => rfl) noO_sound))) (by kernel_rfl) (m := 0) rfl ?_
  refine (spec_TrimAutomaton.sf k a.1 a.2.1 a.2.2.1 a.2.2.2).trans ?_
  exact congrArg (Option.map _) h
def impl_statesOk.l0 : Nat → (List Int) → Int → (List Int) → Int → Int → Option (Bool)
  | 0, _, _, _, _, _ => none
  | k + 1, x0, x1, x7, x8, x9 => (if x9 < x8 then (if 0 ≤ x9 then (if x9 < (x7.length : Int) then (if (rdI x7 x9) < 0 then (some false) else (if (rdI x7 x9) ≥ x1 then (some false) else (if x9 > 0 then (if 0 ≤ (wrap64 (x9 - 1)) then (if (wrap64 (x9 - 1)) < (x0.length : Int) then (if (rdI x0 (wrap64 (x9 - 1))) ≥ (rdI x7 x9) then (some false) else (impl_statesOk.l0 k x0 x1 x7 x8 (wrap64 (x9 + 1)))) else none) else none) else (impl_statesOk.l0 k x0 x1 x7 x8 (wrap64 (x9 + 1)))))) else none) else none) else (some true))
def impl_statesOk.f (k : Nat) (l0 : List Int) (a1 : Int) : Option (Bool) := (impl_statesOk.l0 k l0 a1 l0 (l0.length : Int) 0)
def impl_statesOk.en (r : Bool) : Res := (.lit r, [])
def impl_statesOk.dec : List AV → List R.Obj → Option ((List Int) × Int)
  | [.imm (.I .i64 l0), .int .i64 a1], [] => some (l0, a1)
  | _, _ => none
def impl_statesOk.tw : Tw := ⟨101, (List Int) × Int, Bool, impl_statesOk.dec, fun a => [.imm (.I .i64 a.1), .int .i64 a.2], fun a => [], fun k a => impl_statesOk.f k a.1 a.2, fun a r => impl_statesOk.en r, true⟩
theorem impl_statesOk.dok : impl_statesOk.tw.DecOk := by
  intro args hc a h
  have h : impl_statesOk.dec args hc = some a := h
  unfold impl_statesOk.dec at h
  split at h
  · cases h; exact ⟨rfl, rfl⟩
  · cases h
noncomputable def impl_statesOk.O (k : Nat) : Oracle := noO
def impl_statesOk.fh : FH := ⟨fun i => match i with | 2 => some [(0, 0), (1, 0), (7, 0), (8, 0), (9, 0)] | _ => none, [], false⟩
noncomputable def impl_statesOk.x0 (k : Nat) (x0 : List Int) (x1 : Int) (x7 : List Int) (x8 : Int) (x9 : Int) : Option Res := R.exec Try.prog xhn impl_statesOk.O 0 Try.f101 impl_statesOk.fh k (R.point Try.f101 2) ⟨[(0, .imm (.I .i64 x0)), (1, .int .i64 x1), (7, .imm (.I .i64 x7)), (8, .int .i64 x8), (9, .int .i64 x9)], [], 2⟩
set_option maxRecDepth 100000 in
theorem impl_statesOk.e0 (k : Nat) (x0 : List Int) (x1 : Int) (x7 : List Int) (x8 : Int) (x9 : Int) : impl_statesOk.x0 (k + 1) x0 x1 x7 x8 x9 = (if x9 < x8 then (if 0 ≤ x9 then (if x9 < (x7.length : Int) then (if (rdI x7 x9) < 0 then (some (impl_statesOk.en false)) else (if (rdI x7 x9) ≥ x1 then (some (impl_statesOk.en false)) else (if x9 > 0 then (if 0 ≤ (wr64 (x9 - 1)) then (if (wr64 (x9 - 1)) < (x0.length : Int) then (if (rdI x0 (wr64 (x9 - 1))) ≥ (rdI x7 x9) then (some (impl_statesOk.en false)) else (impl_statesOk.x0 k x0 x1 x7 x8 (wr64 (x9 + 1)))) else none) else none) else (impl_statesOk.x0 k x0 x1 x7 x8 (wr64 (x9 + 1)))))) else none) else none) else (some (impl_statesOk.en true))) := by kernel_rfl
set_option maxRecDepth 100000 in
theorem impl_statesOk.ef (k : Nat) (l0 : List Int) (a1 : Int) : R.start Try.prog xhn impl_statesOk.O 0 Try.f101 impl_statesOk.fh k [.imm (.I .i64 l0), .int .i64 a1] [] = (impl_statesOk.x0 k l0 a1 l0 (l0.length : Int) 0) := by kernel_rfl
theorem impl_statesOk.link : ∀ k, (∀ (x0 : List Int) (x1 : Int) (x7 : List Int) (x8 : Int) (x9 : Int), impl_statesOk.x0 k x0 x1 x7 x8 x9 = (impl_statesOk.l0 k x0 x1 x7 x8 x9).map (impl_statesOk.en))
  | 0 => fun _ _ _ _ _ => by simp only [impl_statesOk.l0, R.map_none]; rfl
  | k + 1 => by
    have ih0 := impl_statesOk.link k
    · intro x0 x1 x7 x8 x9
      rw [impl_statesOk.e0]
      simp only [impl_statesOk.l0, R.map_ite, R.map_bind, R.map_none, R.map_some, R.wr64_eq, ← ih0]
theorem impl_statesOk.sf (k : Nat) (l0 : List Int) (a1 : Int) : R.start Try.prog xhn impl_statesOk.O 0 Try.f101 impl_statesOk.fh k [.imm (.I .i64 l0), .int .i64 a1] [] = (impl_statesOk.f k l0 a1).map (impl_statesOk.en) := by
  have ih0 := impl_statesOk.link k
  rw [impl_statesOk.ef]
  simp only [impl_statesOk.f, R.map_ite, R.map_bind, R.map_none, R.map_some, R.wr64_eq, ← ih0]
theorem impl_statesOk.ok (k : Nat) : impl_statesOk.tw.Ok Try.prog k := by
  intro md hmd a r h
  refine fn_ok (H := xhn) (fh := impl_statesOk.fh) (O := impl_statesOk.O) (k := k) Try.func101 (by kernel_rfl) (by kernel_rfl) (fun j _ => noO_sound) (by kernel_rfl) (m := 0) rfl ?_
  refine (impl_statesOk.sf k a.1 a.2).trans ?_
  exact congrArg (Option.map _) h
def cmp_isNaN_int.f (a0 : Int) : Option (Bool) := (some (!decide (a0 = a0)))
def cmp_isNaN_int.en (r : Bool) : Res := (.lit r, [])
def cmp_isNaN_int.dec : List AV → List R.Obj → Option (Int)
  | [.int .i64 a0], [] => some a0
  | _, _ => none
def cmp_isNaN_int.tw : Tw := ⟨141, Int, Bool, cmp_isNaN_int.dec, fun a => [.int .i64 a], fun a => [], fun k a => cmp_isNaN_int.f a, fun a r => cmp_isNaN_int.en r, true⟩
theorem cmp_isNaN_int.dok : cmp_isNaN_int.tw.DecOk := by
  intro args hc a h
  have h : cmp_isNaN_int.dec args hc = some a := h
  unfold cmp_isNaN_int.dec at h
  split at h
  · cases h; exact ⟨rfl, rfl⟩
  · cases h
noncomputable def cmp_isNaN_int.O (k : Nat) : Oracle := noO
def cmp_isNaN_int.fh : FH := ⟨fun i => match i with | _ => none, [], false⟩
set_option maxRecDepth 100000 in
theorem cmp_isNaN_int.ef (k : Nat) (a0 : Int) : R.start Try.prog xhn cmp_isNaN_int.O 0 Try.f141 cmp_isNaN_int.fh k [.int .i64 a0] [] = (some (cmp_isNaN_int.en (!decide (a0 = a0)))) := by kernel_rfl
theorem cmp_isNaN_int.sf (k : Nat) (a0 : Int) : R.start Try.prog xhn cmp_isNaN_int.O 0 Try.f141 cmp_isNaN_int.fh k [.int .i64 a0] [] = (cmp_isNaN_int.f a0).map (cmp_isNaN_int.en) := by
  rw [cmp_isNaN_int.ef]
  simp only [cmp_isNaN_int.f, R.map_ite, R.map_bind, R.map_none, R.map_some, R.wr64_eq]
theorem cmp_isNaN_int.ok (k : Nat) : cmp_isNaN_int.tw.Ok Try.prog k := by
  intro md hmd a r h
  refine fn_ok (H := xhn) (fh := cmp_isNaN_int.fh) (O := cmp_isNaN_int.O) (k := k) Try.func141 (by kernel_rfl) (by kernel_rfl) (fun j _ => noO_sound) (by kernel_rfl) (m := 0) rfl ?_
  refine (cmp_isNaN_int.sf k a).trans ?_
  exact congrArg (Option.map _) h
def cmp_Compare_int.f (a0 : Int) (a1 : Int) : Option (Int) := ((cmp_isNaN_int.f a0).bind fun t1 => ((cmp_isNaN_int.f a1).bind fun t2 => (if t1 = true then (if t2 = true then (some 0) else (some (-1))) else (if t2 = true then (some 1) else (if a0 < a1 then (some (-1)) else (if a0 > a1 then (some 1) else (some 0)))))))
def cmp_Compare_int.en (r : Int) : Res := (.int .i64 r, [])
def cmp_Compare_int.dec : List AV → List R.Obj → Option (Int × Int)
  | [.int .i64 a0, .int .i64 a1], [] => some (a0, a1)
  | _, _ => none
def cmp_Compare_int.tw : Tw := ⟨125, Int × Int, Int, cmp_Compare_int.dec, fun a => [.int .i64 a.1, .int .i64 a.2], fun a => [], fun k a => cmp_Compare_int.f a.1 a.2, fun a r => cmp_Compare_int.en r, true⟩
theorem cmp_Compare_int.dok : cmp_Compare_int.tw.DecOk := by
  intro args hc a h
  have h : cmp_Compare_int.dec args hc = some a := h
  unfold cmp_Compare_int.dec at h
  split at h
  · cases h; exact ⟨rfl, rfl⟩
  · cases h
noncomputable def cmp_Compare_int.O (k : Nat) : Oracle := (cmp_isNaN_int.tw.orc k noO)
def cmp_Compare_int.fh : FH := ⟨fun i => match i with | _ => none, [], false⟩
set_option maxRecDepth 100000 in
theorem cmp_Compare_int.ef (k : Nat) (a0 : Int) (a1 : Int) : R.start Try.prog xhn cmp_Compare_int.O 0 Try.f125 cmp_Compare_int.fh k [.int .i64 a0, .int .i64 a1] [] = ((cmp_isNaN_int.f a0).bind fun t1 => ((cmp_isNaN_int.f a1).bind fun t2 => (if t1 = true then (if t2 = true then (some (cmp_Compare_int.en 0)) else (some (cmp_Compare_int.en (-1)))) else (if t2 = true then (some (cmp_Compare_int.en 1)) else (if a0 < a1 then (some (cmp_Compare_int.en (-1))) else (if a0 > a1 then (some (cmp_Compare_int.en 1)) else (some (cmp_Compare_int.en 0)))))))) := by kernel_rfl
theorem cmp_Compare_int.sf (k : Nat) (a0 : Int) (a1 : Int) : R.start Try.prog xhn cmp_Compare_int.O 0 Try.f125 cmp_Compare_int.fh k [.int .i64 a0, .int .i64 a1] [] = (cmp_Compare_int.f a0 a1).map (cmp_Compare_int.en) := by
  rw [cmp_Compare_int.ef]
  simp only [cmp_Compare_int.f, R.map_ite, R.map_bind, R.map_none, R.map_some, R.wr64_eq]
theorem cmp_Compare_int.ok (k : Nat) : cmp_Compare_int.tw.Ok Try.prog k := by
  intro md hmd a r h
  refine fn_ok (H := xhn) (fh := cmp_Compare_int.fh) (O := cmp_Compare_int.O) (k := k) Try.func125 (by kernel_rfl) (by kernel_rfl) (fun j _ => (Tw.orc_sound cmp_isNaN_int.dok (cmp_isNaN_int.ok j) (fun _ => rfl) noO_sound)) (by kernel_rfl) (m := 0) rfl ?_
  refine (cmp_Compare_int.sf k a.1 a.2).trans ?_
  exact congrArg (Option.map _) h
def bytealg_CompareString.f (a0 a1 : ByteArray) : Option Int := some (Lib.compareBytes a0.data.toList a1.data.toList)
def bytealg_CompareString.dec : List AV → List R.Obj → Option (ByteArray × ByteArray)
  | [.str a0, .str a1], [] => some (a0, a1)
  | _, _ => none
def bytealg_CompareString.tw : Tw := ⟨142, ByteArray × ByteArray, Int, bytealg_CompareString.dec, fun a => [.str a.1, .str a.2], fun a => [], fun k a => bytealg_CompareString.f a.1 a.2, fun a r => (.int .i64 r, []), true⟩
theorem bytealg_CompareString.dok : bytealg_CompareString.tw.DecOk := by
  intro args hc a h
  have h : bytealg_CompareString.dec args hc = some a := h
  unfold bytealg_CompareString.dec at h
  split at h
  · cases h; exact ⟨rfl, rfl⟩
  · cases h
set_option maxRecDepth 100000 in
set_option maxHeartbeats 8000000 in
theorem bytealg_CompareString.calls (a0 a1 : ByteArray) (w : World) : Calls Try.prog 142 #[.string a0, .string a1] w fun e w' => e = .returned (.int .i64 (Lib.compareBytes a0.data.toList a1.data.toList)) ∧ w' = w := by
  go_enter Try.func142, Try.ntmps142
  go_wp2
  rw [run_callFunc_extern Try.func168 (by kernel_rfl) (by kernel_rfl) (by kernel_rfl) (e := Extern.BytealgCompare.compare) (by kernel_rfl), Lib.run_compareString]
  simp only [Result.andThen]
  rw [Oper.upon_value]
  go_wp2
  go_ret
  exact ⟨rfl, rfl⟩
theorem bytealg_CompareString.ok (k : Nat) : bytealg_CompareString.tw.Ok Try.prog k := by
  intro md hmd a r h
  obtain rfl := Option.some.inj (show some _ = some r from h)
  refine ⟨callable_of Try.func142 (by kernel_rfl) (by kernel_rfl), fun w M I vs E => ?_⟩
  have e : vs = #[.string a.1, .string a.2] := two_of E.len (fun q => (E.args 0 _ _ rfl q).str_inv) (fun q => (E.args 1 _ _ rfl q).str_inv)
  subst e
  refine (bytealg_CompareString.calls a.1 a.2 w).mono fun e w' => ?_
  rintro ⟨rfl, rfl⟩
  exact ⟨_, M, rfl, (E.rel md).weaken (fun κ q => q.elim), .closed (.int _ _)⟩
def strings_Compare.f (a0 : ByteArray) (a1 : ByteArray) : Option (Int) := ((bytealg_CompareString.f a0 a1).bind fun t1 => (some t1))
def strings_Compare.en (r : Int) : Res := (.int .i64 r, [])
def strings_Compare.dec : List AV → List R.Obj → Option (ByteArray × ByteArray)
  | [.str a0, .str a1], [] => some (a0, a1)
  | _, _ => none
def strings_Compare.tw : Tw := ⟨126, ByteArray × ByteArray, Int, strings_Compare.dec, fun a => [.str a.1, .str a.2], fun a => [], fun k a => strings_Compare.f a.1 a.2, fun a r => strings_Compare.en r, true⟩
theorem strings_Compare.dok : strings_Compare.tw.DecOk := by
  intro args hc a h
  have h : strings_Compare.dec args hc = some a := h
  unfold strings_Compare.dec at h
  split at h
  · cases h; exact ⟨rfl, rfl⟩
  · cases h
noncomputable def strings_Compare.O (k : Nat) : Oracle := (bytealg_CompareString.tw.orc k noO)
def strings_Compare.fh : FH := ⟨fun i => match i with | _ => none, [], false⟩
set_option maxRecDepth 100000 in
theorem strings_Compare.ef (k : Nat) (a0 : ByteArray) (a1 : ByteArray) : R.start Try.prog xhn strings_Compare.O 0 Try.f126 strings_Compare.fh k [.str a0, .str a1] [] = ((bytealg_CompareString.f a0 a1).bind fun t1 => (some (strings_Compare.en t1))) := by kernel_rfl
theorem strings_Compare.sf (k : Nat) (a0 : ByteArray) (a1 : ByteArray) : R.start Try.prog xhn strings_Compare.O 0 Try.f126 strings_Compare.fh k [.str a0, .str a1] [] = (strings_Compare.f a0 a1).map (strings_Compare.en) := by
  rw [strings_Compare.ef]
  simp only [strings_Compare.f, R.map_ite, R.map_bind, R.map_none, R.map_some, R.wr64_eq]
theorem strings_Compare.ok (k : Nat) : strings_Compare.tw.Ok Try.prog k := by
  intro md hmd a r h
  refine fn_ok (H := xhn) (fh := strings_Compare.fh) (O := strings_Compare.O) (k := k) Try.func126 (by kernel_rfl) (by kernel_rfl) (fun j _ => (Tw.orc_sound bytealg_CompareString.dok (bytealg_CompareString.ok j) (fun _ => rfl) noO_sound)) (by kernel_rfl) (m := 0) rfl ?_
  refine (strings_Compare.sf k a.1 a.2).trans ?_
  exact congrArg (Option.map _) h
def cmp_Or_int.l0 : Nat → (List Int) → Int → Int → Option (Int)
  | 0, _, _, _ => none
  | k + 1, x6, x7, x8 => (if x8 < x7 then (if 0 ≤ x8 then (if x8 < (x6.length : Int) then (if (rdI x6 x8) = 0 then (cmp_Or_int.l0 k x6 x7 (wrap64 (x8 + 1))) else (some (rdI x6 x8))) else none) else none) else (some 0))
def cmp_Or_int.f (k : Nat) (l0 : List Int) : Option (Int) := (cmp_Or_int.l0 k l0 (l0.length : Int) 0)
def cmp_Or_int.en (r : Int) : Res := (.int .i64 r, [])
def cmp_Or_int.dec : List AV → List R.Obj → Option (List Int)
  | [.imm (.I .i64 l0)], [] => some l0
  | _, _ => none
def cmp_Or_int.tw : Tw := ⟨124, List Int, Int, cmp_Or_int.dec, fun a => [.imm (.I .i64 a)], fun a => [], fun k a => cmp_Or_int.f k a, fun a r => cmp_Or_int.en r, true⟩
theorem cmp_Or_int.dok : cmp_Or_int.tw.DecOk := by
  intro args hc a h
  have h : cmp_Or_int.dec args hc = some a := h
  unfold cmp_Or_int.dec at h
  split at h
  · cases h; exact ⟨rfl, rfl⟩
  · cases h
noncomputable def cmp_Or_int.O (k : Nat) : Oracle := noO
def cmp_Or_int.fh : FH := ⟨fun i => match i with | 3 => some [(3, 0), (6, 0), (7, 0), (8, 0)] | _ => none, [], false⟩
noncomputable def cmp_Or_int.x0 (k : Nat) (x6 : List Int) (x7 : Int) (x8 : Int) : Option Res := R.exec Try.prog xhn cmp_Or_int.O 0 Try.f124 cmp_Or_int.fh k (R.point Try.f124 3) ⟨[(3, .int .i64 0), (6, .imm (.I .i64 x6)), (7, .int .i64 x7), (8, .int .i64 x8)], [], 2⟩
set_option maxRecDepth 100000 in
theorem cmp_Or_int.e0 (k : Nat) (x6 : List Int) (x7 : Int) (x8 : Int) : cmp_Or_int.x0 (k + 1) x6 x7 x8 = (if x8 < x7 then (if 0 ≤ x8 then (if x8 < (x6.length : Int) then (if (rdI x6 x8) = 0 then (cmp_Or_int.x0 k x6 x7 (wr64 (x8 + 1))) else (some (cmp_Or_int.en (rdI x6 x8)))) else none) else none) else (some (cmp_Or_int.en 0))) := by kernel_rfl
set_option maxRecDepth 100000 in
theorem cmp_Or_int.ef (k : Nat) (l0 : List Int) : R.start Try.prog xhn cmp_Or_int.O 0 Try.f124 cmp_Or_int.fh k [.imm (.I .i64 l0)] [] = (cmp_Or_int.x0 k l0 (l0.length : Int) 0) := by kernel_rfl
theorem cmp_Or_int.link : ∀ k, (∀ (x6 : List Int) (x7 : Int) (x8 : Int), cmp_Or_int.x0 k x6 x7 x8 = (cmp_Or_int.l0 k x6 x7 x8).map (cmp_Or_int.en))
  | 0 => fun _ _ _ => by simp only [cmp_Or_int.l0, R.map_none]; rfl
  | k + 1 => by
    have ih0 := cmp_Or_int.link k
    · intro x6 x7 x8
      rw [cmp_Or_int.e0]
      simp only [cmp_Or_int.l0, R.map_ite, R.map_bind, R.map_none, R.map_some, R.wr64_eq, ← ih0]
theorem cmp_Or_int.sf (k : Nat) (l0 : List Int) : R.start Try.prog xhn cmp_Or_int.O 0 Try.f124 cmp_Or_int.fh k [.imm (.I .i64 l0)] [] = (cmp_Or_int.f k l0).map (cmp_Or_int.en) := by
  have ih0 := cmp_Or_int.link k
  rw [cmp_Or_int.ef]
  simp only [cmp_Or_int.f, R.map_ite, R.map_bind, R.map_none, R.map_some, R.wr64_eq, ← ih0]
theorem cmp_Or_int.ok (k : Nat) : cmp_Or_int.tw.Ok Try.prog k := by
  intro md hmd a r h
  refine fn_ok (H := xhn) (fh := cmp_Or_int.fh) (O := cmp_Or_int.O) (k := k) Try.func124 (by kernel_rfl) (by kernel_rfl) (fun j _ => noO_sound) (by kernel_rfl) (m := 0) rfl ?_
  refine (cmp_Or_int.sf k a).trans ?_
  exact congrArg (Option.map _) h
def impl_stepOrder.f (k : Nat) (a0_0 : Int) (a0_1 : ByteArray) (a0_2 : Int) (a0_3 : Int) (a1_0 : Int) (a1_1 : ByteArray) (a1_2 : Int) (a1_3 : Int) : Option (Int) := ((cmp_Compare_int.f a0_0 a1_0).bind fun t1 => ((strings_Compare.f a0_1 a1_1).bind fun t2 => ((cmp_Compare_int.f a0_2 a1_2).bind fun t3 => ((cmp_Or_int.f k ([t1, t2, t3])).bind fun t4 => (some t4)))))
def impl_stepOrder.en (r : Int) : Res := (.int .i64 r, [])
def impl_stepOrder.dec : List AV → List R.Obj → Option (Int × ByteArray × Int × Int × Int × ByteArray × Int × Int)
  | [.agg [.int .i64 a0_0, .str a0_1, .int .i64 a0_2, .int .i64 a0_3], .agg [.int .i64 a1_0, .str a1_1, .int .i64 a1_2, .int .i64 a1_3]], [] => some (a0_0, a0_1, a0_2, a0_3, a1_0, a1_1, a1_2, a1_3)
  | _, _ => none
def impl_stepOrder.tw : Tw := ⟨88, Int × ByteArray × Int × Int × Int × ByteArray × Int × Int, Int, impl_stepOrder.dec, fun a => [.agg [.int .i64 a.1, .str a.2.1, .int .i64 a.2.2.1, .int .i64 a.2.2.2.1], .agg [.int .i64 a.2.2.2.2.1, .str a.2.2.2.2.2.1, .int .i64 a.2.2.2.2.2.2.1, .int .i64 a.2.2.2.2.2.2.2]], fun a => [], fun k a => impl_stepOrder.f k a.1 a.2.1 a.2.2.1 a.2.2.2.1 a.2.2.2.2.1 a.2.2.2.2.2.1 a.2.2.2.2.2.2.1 a.2.2.2.2.2.2.2, fun a r => impl_stepOrder.en r, true⟩
theorem impl_stepOrder.dok : impl_stepOrder.tw.DecOk := by
  intro args hc a h
  have h : impl_stepOrder.dec args hc = some a := h
  unfold impl_stepOrder.dec at h
  split at h
  · cases h; exact ⟨rfl, rfl⟩
  · cases h
noncomputable def impl_stepOrder.O (k : Nat) : Oracle := (cmp_Compare_int.tw.orc k (strings_Compare.tw.orc k (cmp_Or_int.tw.orc k noO)))
def impl_stepOrder.fh : FH := ⟨fun i => match i with | _ => none, [], false⟩
set_option maxRecDepth 100000 in
theorem impl_stepOrder.ef (k : Nat) (a0_0 : Int) (a0_1 : ByteArray) (a0_2 : Int) (a0_3 : Int) (a1_0 : Int) (a1_1 : ByteArray) (a1_2 : Int) (a1_3 : Int) : R.start Try.prog xhn impl_stepOrder.O 0 Try.f88 impl_stepOrder.fh k [.agg [.int .i64 a0_0, .str a0_1, .int .i64 a0_2, .int .i64 a0_3], .agg [.int .i64 a1_0, .str a1_1, .int .i64 a1_2, .int .i64 a1_3]] [] = ((cmp_Compare_int.f a0_0 a1_0).bind fun t1 => ((strings_Compare.f a0_1 a1_1).bind fun t2 => ((cmp_Compare_int.f a0_2 a1_2).bind fun t3 => ((cmp_Or_int.f k ([t1, t2, t3])).bind fun t4 => (some (impl_stepOrder.en t4)))))) := by kernel_rfl
theorem impl_stepOrder.sf (k : Nat) (a0_0 : Int) (a0_1 : ByteArray) (a0_2 : Int) (a0_3 : Int) (a1_0 : Int) (a1_1 : ByteArray) (a1_2 : Int) (a1_3 : Int) : R.start Try.prog xhn impl_stepOrder.O 0 Try.f88 impl_stepOrder.fh k [.agg [.int .i64 a0_0, .str a0_1, .int .i64 a0_2, .int .i64 a0_3], .agg [.int .i64 a1_0, .str a1_1, .int .i64 a1_2, .int .i64 a1_3]] [] = (impl_stepOrder.f k a0_0 a0_1 a0_2 a0_3 a1_0 a1_1 a1_2 a1_3).map (impl_stepOrder.en) := by
  rw [impl_stepOrder.ef]
  simp only [impl_stepOrder.f, R.map_ite, R.map_bind, R.map_none, R.map_some, R.wr64_eq]
theorem impl_stepOrder.ok (k : Nat) : impl_stepOrder.tw.Ok Try.prog k := by
  intro md hmd a r h
  refine fn_ok (H := xhn) (fh := impl_stepOrder.fh) (O := impl_stepOrder.O) (k := k) Try.func88 (by kernel_rfl) (by kernel_rfl) (fun j _ => (Tw.orc_sound cmp_Compare_int.dok (cmp_Compare_int.ok j) (fun _ => rfl) (Tw.orc_sound strings_Compare.dok (strings_Compare.ok j) (fun _ => rfl) (Tw.orc_sound cmp_Or_int.dok (cmp_Or_int.ok j) (fun _ => rfl) noO_sound)))) (by kernel_rfl) (m := 0) rfl ?_
  refine (impl_stepOrder.sf k a.1 a.2.1 a.2.2.1 a.2.2.2.1 a.2.2.2.2.1 a.2.2.2.2.2.1 a.2.2.2.2.2.2.1 a.2.2.2.2.2.2.2).trans ?_
  exact congrArg (Option.map _) h
def impl_AutomatonValid.l0 : Nat → (List Stp) → Int → Int → Int → (List Int) → (List Int) → (List Stp) → Option (Bool)
  | 0, _, _, _, _, _, _, _ => none
  | k + 1, x36, x37, x38, y0_0, y0_1, y0_2, y0_3 => (if x38 < x37 then (if 0 ≤ x38 then (if x38 < (x36.length : Int) then (if (rdT x36 x38).f0 < 0 then (some false) else (if (rdT x36 x38).f0 ≥ y0_0 then (some false) else (if (rdT x36 x38).f2 < 0 then (some false) else (if (rdT x36 x38).f2 ≥ y0_0 then (some false) else (if (rdT x36 x38).f1.toList = ([97] : List UInt8) then (if (rdT x36 x38).f3 < 0 then (some false) else (if (rdT x36 x38).f3 > 3 then (some false) else (if x38 > 0 then (if 0 ≤ (wrap64 (x38 - 1)) then (if (wrap64 (x38 - 1)) < (y0_3.length : Int) then ((impl_stepOrder.f k ((rdT y0_3 (wrap64 (x38 - 1))).f0) ((rdT y0_3 (wrap64 (x38 - 1))).f1) ((rdT y0_3 (wrap64 (x38 - 1))).f2) ((rdT y0_3 (wrap64 (x38 - 1))).f3) ((rdT x36 x38).f0) ((rdT x36 x38).f1) ((rdT x36 x38).f2) ((rdT x36 x38).f3)).bind fun t3 => (if t3 ≥ 0 then (some false) else (impl_AutomatonValid.l0 k x36 x37 (wrap64 (x38 + 1)) y0_0 y0_1 y0_2 y0_3))) else none) else none) else (impl_AutomatonValid.l0 k x36 x37 (wrap64 (x38 + 1)) y0_0 y0_1 y0_2 y0_3)))) else (if (rdT x36 x38).f1.toList = ([98] : List UInt8) then (if (rdT x36 x38).f3 < 0 then (some false) else (if (rdT x36 x38).f3 > 3 then (some false) else (if x38 > 0 then (if 0 ≤ (wrap64 (x38 - 1)) then (if (wrap64 (x38 - 1)) < (y0_3.length : Int) then ((impl_stepOrder.f k ((rdT y0_3 (wrap64 (x38 - 1))).f0) ((rdT y0_3 (wrap64 (x38 - 1))).f1) ((rdT y0_3 (wrap64 (x38 - 1))).f2) ((rdT y0_3 (wrap64 (x38 - 1))).f3) ((rdT x36 x38).f0) ((rdT x36 x38).f1) ((rdT x36 x38).f2) ((rdT x36 x38).f3)).bind fun t4 => (if t4 ≥ 0 then (some false) else (impl_AutomatonValid.l0 k x36 x37 (wrap64 (x38 + 1)) y0_0 y0_1 y0_2 y0_3))) else none) else none) else (impl_AutomatonValid.l0 k x36 x37 (wrap64 (x38 + 1)) y0_0 y0_1 y0_2 y0_3)))) else (some false))))))) else none) else none) else (some true))
def impl_AutomatonValid.f (k : Nat) (a0_0 : Int) (l0_1 : List Int) (l0_2 : List Int) (l0_3 : List Stp) : Option (Bool) := (if a0_0 < 1 then (some false) else (if a0_0 > 4 then (some false) else (if (l0_3.length : Int) > 24 then (some false) else ((impl_statesOk.f k l0_1 a0_0).bind fun t1 => (if t1 = true then ((impl_statesOk.f k l0_2 a0_0).bind fun t2 => (if t2 = true then (impl_AutomatonValid.l0 k l0_3 (l0_3.length : Int) 0 a0_0 l0_1 l0_2 l0_3) else (some false))) else (some false))))))
def impl_AutomatonValid.en (r : Bool) : Res := (.lit r, [])
def impl_AutomatonValid.dec : List AV → List R.Obj → Option (Int × (List Int) × (List Int) × (List Stp))
  | [.agg [.int .i64 a0_0, .imm (.I .i64 l0_1), .imm (.I .i64 l0_2), .imm (.T l0_3)]], [] => some (a0_0, l0_1, l0_2, l0_3)
  | _, _ => none
def impl_AutomatonValid.tw : Tw := ⟨42, Int × (List Int) × (List Int) × (List Stp), Bool, impl_AutomatonValid.dec, fun a => [.agg [.int .i64 a.1, .imm (.I .i64 a.2.1), .imm (.I .i64 a.2.2.1), .imm (.T a.2.2.2)]], fun a => [], fun k a => impl_AutomatonValid.f k a.1 a.2.1 a.2.2.1 a.2.2.2, fun a r => impl_AutomatonValid.en r, true⟩
theorem impl_AutomatonValid.dok : impl_AutomatonValid.tw.DecOk := by
  intro args hc a h
  have h : impl_AutomatonValid.dec args hc = some a := h
  unfold impl_AutomatonValid.dec at h
  split at h
  · cases h; exact ⟨rfl, rfl⟩
  · cases h
noncomputable def impl_AutomatonValid.O (k : Nat) : Oracle := (impl_statesOk.tw.orc k (impl_stepOrder.tw.orc k noO))
def impl_AutomatonValid.fh : FH := ⟨fun i => match i with | 4 => some [(1, 0), (36, 0), (37, 0), (38, 0)] | _ => none, [], false⟩
noncomputable def impl_AutomatonValid.x0 (k : Nat) (x36 : List Stp) (x37 : Int) (x38 : Int) (y0_0 : Int) (y0_1 : List Int) (y0_2 : List Int) (y0_3 : List Stp) : Option Res := R.exec Try.prog xhn impl_AutomatonValid.O 0 Try.f42 impl_AutomatonValid.fh k (R.point Try.f42 4) ⟨[(1, .ptr 0 0), (36, .imm (.T x36)), (37, .int .i64 x37), (38, .int .i64 x38)], [(0, .box false [.int .i64 y0_0, .imm (.I .i64 y0_1), .imm (.I .i64 y0_2), .imm (.T y0_3)])], 3⟩
set_option maxRecDepth 100000 in
theorem impl_AutomatonValid.e0 (k : Nat) (x36 : List Stp) (x37 : Int) (x38 : Int) (y0_0 : Int) (y0_1 : List Int) (y0_2 : List Int) (y0_3 : List Stp) : impl_AutomatonValid.x0 (k + 1) x36 x37 x38 y0_0 y0_1 y0_2 y0_3 = (if x38 < x37 then (if 0 ≤ x38 then (if x38 < (x36.length : Int) then (if (rdT x36 x38).f0 < 0 then (some (impl_AutomatonValid.en false)) else (if (rdT x36 x38).f0 ≥ y0_0 then (some (impl_AutomatonValid.en false)) else (if (rdT x36 x38).f2 < 0 then (some (impl_AutomatonValid.en false)) else (if (rdT x36 x38).f2 ≥ y0_0 then (some (impl_AutomatonValid.en false)) else (if (rdT x36 x38).f1.toList = ([97] : List UInt8) then (if (rdT x36 x38).f3 < 0 then (some (impl_AutomatonValid.en false)) else (if (rdT x36 x38).f3 > 3 then (some (impl_AutomatonValid.en false)) else (if x38 > 0 then (if 0 ≤ (wr64 (x38 - 1)) then (if (wr64 (x38 - 1)) < (y0_3.length : Int) then ((impl_stepOrder.f k ((rdT y0_3 (wr64 (x38 - 1))).f0) ((rdT y0_3 (wr64 (x38 - 1))).f1) ((rdT y0_3 (wr64 (x38 - 1))).f2) ((rdT y0_3 (wr64 (x38 - 1))).f3) ((rdT x36 x38).f0) ((rdT x36 x38).f1) ((rdT x36 x38).f2) ((rdT x36 x38).f3)).bind fun t3 => (if t3 ≥ 0 then (some (impl_AutomatonValid.en false)) else (impl_AutomatonValid.x0 k x36 x37 (wr64 (x38 + 1)) y0_0 y0_1 y0_2 y0_3))) else none) else none) else (impl_AutomatonValid.x0 k x36 x37 (wr64 (x38 + 1)) y0_0 y0_1 y0_2 y0_3)))) else (if (rdT x36 x38).f1.toList = ([98] : List UInt8) then (if (rdT x36 x38).f3 < 0 then (some (impl_AutomatonValid.en false)) else (if (rdT x36 x38).f3 > 3 then (some (impl_AutomatonValid.en false)) else (if x38 > 0 then (if 0 ≤ (wr64 (x38 - 1)) then (if (wr64 (x38 - 1)) < (y0_3.length : Int) then ((impl_stepOrder.f k ((rdT y0_3 (wr64 (x38 - 1))).f0) ((rdT y0_3 (wr64 (x38 - 1))).f1) ((rdT y0_3 (wr64 (x38 - 1))).f2) ((rdT y0_3 (wr64 (x38 - 1))).f3) ((rdT x36 x38).f0) ((rdT x36 x38).f1) ((rdT x36 x38).f2) ((rdT x36 x38).f3)).bind fun t4 => (if t4 ≥ 0 then (some (impl_AutomatonValid.en false)) else (impl_AutomatonValid.x0 k x36 x37 (wr64 (x38 + 1)) y0_0 y0_1 y0_2 y0_3))) else none) else none) else (impl_AutomatonValid.x0 k x36 x37 (wr64 (x38 + 1)) y0_0 y0_1 y0_2 y0_3)))) else (some (impl_AutomatonValid.en false)))))))) else none) else none) else (some (impl_AutomatonValid.en true))) := by kernel_rfl
set_option maxRecDepth 100000 in
theorem impl_AutomatonValid.ef (k : Nat) (a0_0 : Int) (l0_1 : List Int) (l0_2 : List Int) (l0_3 : List Stp) : R.start Try.prog xhn impl_AutomatonValid.O 0 Try.f42 impl_AutomatonValid.fh k [.agg [.int .i64 a0_0, .imm (.I .i64 l0_1), .imm (.I .i64 l0_2), .imm (.T l0_3)]] [] = (if a0_0 < 1 then (some (impl_AutomatonValid.en false)) else (if a0_0 > 4 then (some (impl_AutomatonValid.en false)) else (if (l0_3.length : Int) > 24 then (some (impl_AutomatonValid.en false)) else ((impl_statesOk.f k l0_1 a0_0).bind fun t1 => (if t1 = true then ((impl_statesOk.f k l0_2 a0_0).bind fun t2 => (if t2 = true then (impl_AutomatonValid.x0 k l0_3 (l0_3.length : Int) 0 a0_0 l0_1 l0_2 l0_3) else (some (impl_AutomatonValid.en false)))) else (some (impl_AutomatonValid.en false))))))) := by kernel_rfl
theorem impl_AutomatonValid.link : ∀ k, (∀ (x36 : List Stp) (x37 : Int) (x38 : Int) (y0_0 : Int) (y0_1 : List Int) (y0_2 : List Int) (y0_3 : List Stp), impl_AutomatonValid.x0 k x36 x37 x38 y0_0 y0_1 y0_2 y0_3 = (impl_AutomatonValid.l0 k x36 x37 x38 y0_0 y0_1 y0_2 y0_3).map (impl_AutomatonValid.en))
  | 0 => fun _ _ _ _ _ _ _ => by simp only [impl_AutomatonValid.l0, R.map_none]; rfl
  | k + 1 => by
    have ih0 := impl_AutomatonValid.link k
    · intro x36 x37 x38 y0_0 y0_1 y0_2 y0_3
      rw [impl_AutomatonValid.e0]
      simp only [impl_AutomatonValid.l0, R.map_ite, R.map_bind, R.map_none, R.map_some, R.wr64_eq, ← ih0]
theorem impl_AutomatonValid.sf (k : Nat) (a0_0 : Int) (l0_1 : List Int) (l0_2 : List Int) (l0_3 : List Stp) : R.start Try.prog xhn impl_AutomatonValid.O 0 Try.f42 impl_AutomatonValid.fh k [.agg [.int .i64 a0_0, .imm (.I .i64 l0_1), .imm (.I .i64 l0_2), .imm (.T l0_3)]] [] = (impl_AutomatonValid.f k a0_0 l0_1 l0_2 l0_3).map (impl_AutomatonValid.en) := by
  have ih0 := impl_AutomatonValid.link k
  rw [impl_AutomatonValid.ef]
  simp only [impl_AutomatonValid.f, R.map_ite, R.map_bind, R.map_none, R.map_some, R.wr64_eq, ← ih0]
theorem impl_AutomatonValid.ok (k : Nat) : impl_AutomatonValid.tw.Ok Try.prog k := by
  intro md hmd a r h
  refine fn_ok (H := xhn) (fh := impl_AutomatonValid.fh) (O := impl_AutomatonValid.O) (k := k) Try.func42 (by kernel_rfl) (by kernel_rfl) (fun j _ => (Tw.orc_sound impl_statesOk.dok (impl_statesOk.ok j) (fun _ => rfl) (Tw.orc_sound impl_stepOrder.dok (impl_stepOrder.ok j) (fun _ => rfl) noO_sound))) (by kernel_rfl) (m := 0) rfl ?_
  refine (impl_AutomatonValid.sf k a.1 a.2.1 a.2.2.1 a.2.2.2).trans ?_
  exact congrArg (Option.map _) h
def impl_ReverseAutomaton_1.f (a0_0 : Int) (a0_1 : ByteArray) (a0_2 : Int) (a0_3 : Int) : Option (Int × ByteArray × Int × Int) := (some (a0_2, a0_1, a0_0, a0_3))
def impl_ReverseAutomaton_1.en (r : Int × ByteArray × Int × Int) : Res := (.agg [.int .i64 r.1, .str r.2.1, .int .i64 r.2.2.1, .int .i64 r.2.2.2], [])
def impl_ReverseAutomaton_1.dec : List AV → List R.Obj → Option (Int × ByteArray × Int × Int)
  | [.agg [.int .i64 a0_0, .str a0_1, .int .i64 a0_2, .int .i64 a0_3]], [] => some (a0_0, a0_1, a0_2, a0_3)
  | _, _ => none
def impl_ReverseAutomaton_1.tw : Tw := ⟨131, Int × ByteArray × Int × Int, Int × ByteArray × Int × Int, impl_ReverseAutomaton_1.dec, fun a => [.agg [.int .i64 a.1, .str a.2.1, .int .i64 a.2.2.1, .int .i64 a.2.2.2]], fun a => [], fun k a => impl_ReverseAutomaton_1.f a.1 a.2.1 a.2.2.1 a.2.2.2, fun a r => impl_ReverseAutomaton_1.en r, true⟩
theorem impl_ReverseAutomaton_1.dok : impl_ReverseAutomaton_1.tw.DecOk := by
  intro args hc a h
  have h : impl_ReverseAutomaton_1.dec args hc = some a := h
  unfold impl_ReverseAutomaton_1.dec at h
  split at h
  · cases h; exact ⟨rfl, rfl⟩
  · cases h
noncomputable def impl_ReverseAutomaton_1.O (k : Nat) : Oracle := noO
def impl_ReverseAutomaton_1.fh : FH := ⟨fun i => match i with | _ => none, [], false⟩
set_option maxRecDepth 100000 in
theorem impl_ReverseAutomaton_1.ef (k : Nat) (a0_0 : Int) (a0_1 : ByteArray) (a0_2 : Int) (a0_3 : Int) : R.start Try.prog xhn impl_ReverseAutomaton_1.O 0 Try.f131 impl_ReverseAutomaton_1.fh k [.agg [.int .i64 a0_0, .str a0_1, .int .i64 a0_2, .int .i64 a0_3]] [] = (some (impl_ReverseAutomaton_1.en (a0_2, a0_1, a0_0, a0_3))) := by kernel_rfl
theorem impl_ReverseAutomaton_1.sf (k : Nat) (a0_0 : Int) (a0_1 : ByteArray) (a0_2 : Int) (a0_3 : Int) : R.start Try.prog xhn impl_ReverseAutomaton_1.O 0 Try.f131 impl_ReverseAutomaton_1.fh k [.agg [.int .i64 a0_0, .str a0_1, .int .i64 a0_2, .int .i64 a0_3]] [] = (impl_ReverseAutomaton_1.f a0_0 a0_1 a0_2 a0_3).map (impl_ReverseAutomaton_1.en) := by
  rw [impl_ReverseAutomaton_1.ef]
  simp only [impl_ReverseAutomaton_1.f, R.map_ite, R.map_bind, R.map_none, R.map_some, R.wr64_eq]
theorem impl_ReverseAutomaton_1.ok (k : Nat) : impl_ReverseAutomaton_1.tw.Ok Try.prog k := by
  intro md hmd a r h
  refine fn_ok (H := xhn) (fh := impl_ReverseAutomaton_1.fh) (O := impl_ReverseAutomaton_1.O) (k := k) Try.func131 (by kernel_rfl) (by kernel_rfl) (fun j _ => noO_sound) (by kernel_rfl) (m := 0) rfl ?_
  refine (impl_ReverseAutomaton_1.sf k a.1 a.2.1 a.2.2.1 a.2.2.2).trans ?_
  exact congrArg (Option.map _) h
def impl_stepped.l0 : Nat → (List Stp) → (List Stp) → Int → Int → Option (List Stp)
  | 0, _, _, _, _ => none
  | k + 1, y0, x9, x10, x11 => (if x11 < x10 then (if 0 ≤ x11 then (if x11 < (x9.length : Int) then ((impl_ReverseAutomaton_1.f ((rdT x9 x11).f0) ((rdT x9 x11).f1) ((rdT x9 x11).f2) ((rdT x9 x11).f3)).bind fun t1 => (if y0.length < 3518437208883 then (impl_stepped.l0 k (y0 ++ [(⟨t1.1, t1.2.1, t1.2.2.1, t1.2.2.2⟩ : Stp)]) x9 x10 (wrap64 (x11 + 1))) else none)) else none) else none) else (some y0))
def impl_stepped.f (k : Nat) (l0 : List Stp) : Option (List Stp) := (impl_stepped.l0 k ([] : List Stp) l0 (l0.length : Int) 0)
def impl_stepped.en (r : List Stp) : Res := (.sl 0 0, [.arr 67 0 (.T r) false])
def impl_stepped.dec : List AV → List R.Obj → Option (List Stp)
  | [.imm (.T l0), .clo 131 []], [] => some l0
  | _, _ => none
def impl_stepped.tw : Tw := ⟨64, List Stp, List Stp, impl_stepped.dec, fun a => [.imm (.T a), .clo 131 []], fun a => [], fun k a => impl_stepped.f k a, fun a r => impl_stepped.en r, true⟩
theorem impl_stepped.dok : impl_stepped.tw.DecOk := by
  intro args hc a h
  have h : impl_stepped.dec args hc = some a := h
  unfold impl_stepped.dec at h
  split at h
  · cases h; exact ⟨rfl, rfl⟩
  · cases h
noncomputable def impl_stepped.O (k : Nat) : Oracle := (impl_ReverseAutomaton_1.tw.orc k noO)
def impl_stepped.fh : FH := ⟨fun i => match i with | 3 => some [(1, 0), (5, 0), (9, 0), (10, 0), (11, 0)] | _ => none, [(true, 67)], false⟩
noncomputable def impl_stepped.x0 (k : Nat) (y0 : List Stp) (x9 : List Stp) (x10 : Int) (x11 : Int) : Option Res := R.exec Try.prog xhn impl_stepped.O 0 Try.f64 impl_stepped.fh k (R.point Try.f64 3) ⟨[(1, .clo 131 []), (5, .sl 0 0), (9, .imm (.T x9)), (10, .int .i64 x10), (11, .int .i64 x11)], [(0, .arr 67 0 (.T y0) false)], 3⟩
set_option maxRecDepth 100000 in
theorem impl_stepped.e0 (k : Nat) (y0 : List Stp) (x9 : List Stp) (x10 : Int) (x11 : Int) : impl_stepped.x0 (k + 1) y0 x9 x10 x11 = (if x11 < x10 then (if 0 ≤ x11 then (if x11 < (x9.length : Int) then ((impl_ReverseAutomaton_1.f ((rdT x9 x11).f0) ((rdT x9 x11).f1) ((rdT x9 x11).f2) ((rdT x9 x11).f3)).bind fun t1 => (if y0.length < 3518437208883 then (impl_stepped.x0 k (y0 ++ [(⟨t1.1, t1.2.1, t1.2.2.1, t1.2.2.2⟩ : Stp)]) x9 x10 (wr64 (x11 + 1))) else none)) else none) else none) else (some (impl_stepped.en y0))) := by kernel_rfl
set_option maxRecDepth 100000 in
theorem impl_stepped.ef (k : Nat) (l0 : List Stp) : R.start Try.prog xhn impl_stepped.O 0 Try.f64 impl_stepped.fh k [.imm (.T l0), .clo 131 []] [] = (impl_stepped.x0 k ([] : List Stp) l0 (l0.length : Int) 0) := by kernel_rfl
theorem impl_stepped.link : ∀ k, (∀ (y0 : List Stp) (x9 : List Stp) (x10 : Int) (x11 : Int), impl_stepped.x0 k y0 x9 x10 x11 = (impl_stepped.l0 k y0 x9 x10 x11).map (impl_stepped.en))
  | 0 => fun _ _ _ _ => by simp only [impl_stepped.l0, R.map_none]; rfl
  | k + 1 => by
    have ih0 := impl_stepped.link k
    · intro y0 x9 x10 x11
      rw [impl_stepped.e0]
      simp only [impl_stepped.l0, R.map_ite, R.map_bind, R.map_none, R.map_some, R.wr64_eq, ← ih0]
theorem impl_stepped.sf (k : Nat) (l0 : List Stp) : R.start Try.prog xhn impl_stepped.O 0 Try.f64 impl_stepped.fh k [.imm (.T l0), .clo 131 []] [] = (impl_stepped.f k l0).map (impl_stepped.en) := by
  have ih0 := impl_stepped.link k
  rw [impl_stepped.ef]
  simp only [impl_stepped.f, R.map_ite, R.map_bind, R.map_none, R.map_some, R.wr64_eq, ← ih0]
theorem impl_stepped.ok (k : Nat) : impl_stepped.tw.Ok Try.prog k := by
  intro md hmd a r h
  refine fn_ok (H := xhn) (fh := impl_stepped.fh) (O := impl_stepped.O) (k := k) Try.func64 (by kernel_rfl) (by kernel_rfl) (fun j _ => (Tw.orc_sound impl_ReverseAutomaton_1.dok (impl_ReverseAutomaton_1.ok j) (fun _ => rfl) noO_sound)) (by kernel_rfl) (m := 0) rfl ?_
  refine (impl_stepped.sf k a).trans ?_
  exact congrArg (Option.map _) h
def slices_Clone_int_int.f (l0 : List Int) : Option (List Int) := if l0.length ≤ 1000000000 then some l0 else none
def slices_Clone_int_int.dec : List AV → List R.Obj → Option (List Int)
  | [.imm (.I .i64 l0)], [] => some l0
  | _, _ => none
def slices_Clone_int_int.tw : Tw := ⟨90, List Int, List Int, slices_Clone_int_int.dec, fun a => [.imm (.I .i64 a)], fun a => [], fun k a => slices_Clone_int_int.f a, fun a r => (.sl 0 0, [.arr 3 0 (.I .i64 r) false]), false⟩
theorem slices_Clone_int_int.dok : slices_Clone_int_int.tw.DecOk := by
  intro args hc a h
  have h : slices_Clone_int_int.dec args hc = some a := h
  unfold slices_Clone_int_int.dec at h
  split at h
  · cases h; exact ⟨rfl, rfl⟩
  · cases h
theorem slices_Clone_int_int.ok (k : Nat) : slices_Clone_int_int.tw.Ok Try.prog k := by
  intro md hmd l0 r h
  have h : slices_Clone_int_int.f l0 = some r := h
  unfold slices_Clone_int_int.f at h
  split at h
  case isFalse => cases h
  rename_i hl
  obtain rfl := Option.some.inj h
  obtain ⟨i0, hi⟩ : ∃ i0, Try.prog.info? 3 = some i0 := Option.isSome_iff_exists.1 (by kernel_rfl)
  have h4 : (Try.prog.info? 3).bind (fun i => i.zero.map fun z => (i.size, i.bytes, z.cells.size)) = some (1, 8, 1) := by kernel_rfl
  rw [hi] at h4
  obtain ⟨z, hz0, hzz⟩ := Option.map_eq_some_iff.1 (show i0.zero.map (fun z => (i0.size, i0.bytes, z.cells.size)) = some (1, 8, 1) from h4)
  simp only [Prod.mk.injEq] at hzz
  obtain ⟨hz1, hz2, hzs⟩ := hzz
  refine ⟨callable_of Try.func90 (by kernel_rfl) (by kernel_rfl), fun w M I vs E => ?_⟩
  have hl' : (Ct.I .i64 l0).len ≤ 1000000000 := hl
  refine clone_leaves (c := .I .i64 l0) rfl E (fun b off cap news n1 n2 n3 => ?_) (fun n cap => Go.Proofs.AnyE.slices_Clone_nil Try.layCloneI n cap w) (fun ad cap => R.clone_zero Try.layCloneI i0 z 1 8 hi hz0 hz1 hz2 hzs (by decide) Try.sizeOf3 ad cap w) (fun q => Bool.noConfusion (show false = true from hmd q))
  exact Go.Proofs.AnyE.slices_Clone Try.layCloneI i0 z 1 8 hi hz0 hz1 hz2 hzs (by decide) Try.sizeOf3 b off _ cap news w n1 (by unfold maxLen; omega) (by omega) n2 n3
def slices_Clone_impl_Step_impl_Step.f (l0 : List Stp) : Option (List Stp) := if l0.length ≤ 1000000000 then some l0 else none
def slices_Clone_impl_Step_impl_Step.dec : List AV → List R.Obj → Option (List Stp)
  | [.imm (.T l0)], [] => some l0
  | _, _ => none
def slices_Clone_impl_Step_impl_Step.tw : Tw := ⟨115, List Stp, List Stp, slices_Clone_impl_Step_impl_Step.dec, fun a => [.imm (.T a)], fun a => [], fun k a => slices_Clone_impl_Step_impl_Step.f a, fun a r => (.sl 0 0, [.arr 67 0 (.T r) false]), false⟩
theorem slices_Clone_impl_Step_impl_Step.dok : slices_Clone_impl_Step_impl_Step.tw.DecOk := by
  intro args hc a h
  have h : slices_Clone_impl_Step_impl_Step.dec args hc = some a := h
  unfold slices_Clone_impl_Step_impl_Step.dec at h
  split at h
  · cases h; exact ⟨rfl, rfl⟩
  · cases h
theorem slices_Clone_impl_Step_impl_Step.ok (k : Nat) : slices_Clone_impl_Step_impl_Step.tw.Ok Try.prog k := by
  intro md hmd l0 r h
  have h : slices_Clone_impl_Step_impl_Step.f l0 = some r := h
  unfold slices_Clone_impl_Step_impl_Step.f at h
  split at h
  case isFalse => cases h
  rename_i hl
  obtain rfl := Option.some.inj h
  obtain ⟨i0, hi⟩ : ∃ i0, Try.prog.info? 67 = some i0 := Option.isSome_iff_exists.1 (by kernel_rfl)
  have h4 : (Try.prog.info? 67).bind (fun i => i.zero.map fun z => (i.size, i.bytes, z.cells.size)) = some (4, 40, 4) := by kernel_rfl
  rw [hi] at h4
  obtain ⟨z, hz0, hzz⟩ := Option.map_eq_some_iff.1 (show i0.zero.map (fun z => (i0.size, i0.bytes, z.cells.size)) = some (4, 40, 4) from h4)
  simp only [Prod.mk.injEq] at hzz
  obtain ⟨hz1, hz2, hzs⟩ := hzz
  refine ⟨callable_of Try.func115 (by kernel_rfl) (by kernel_rfl), fun w M I vs E => ?_⟩
  have hl' : (Ct.T l0).len ≤ 1000000000 := hl
  refine clone_leaves (c := .T l0) rfl E (fun b off cap news n1 n2 n3 => ?_) (fun n cap => Go.Proofs.AnyE.slices_Clone_nil Try.layCloneT n cap w) (fun ad cap => R.clone_zero Try.layCloneT i0 z 4 40 hi hz0 hz1 hz2 hzs (by decide) Try.sizeOf67 ad cap w) (fun q => Bool.noConfusion (show false = true from hmd q))
  exact Go.Proofs.AnyE.slices_Clone Try.layCloneT i0 z 4 40 hi hz0 hz1 hz2 hzs (by decide) Try.sizeOf67 b off _ cap news w n1 (by unfold maxLen; omega) (by omega) n2 n3
def slices_Sort_int_int.f (l0 : List Int) : Option (List Int) := if l0.length ≤ 1000000000 then some (R.sortI l0) else none
def slices_Sort_int_int.dec : List AV → List R.Obj → Option (List Int)
  | [.sl 0 0], [.arr 3 0 (.I .i64 l0) false] => some l0
  | _, _ => none
def slices_Sort_int_int.tw : Tw := ⟨116, List Int, List Int, slices_Sort_int_int.dec, fun a => [.sl 0 0], fun a => [.arr 3 0 (.I .i64 a) false], fun k a => slices_Sort_int_int.f a, fun a r => (.tup [], [.arr 3 0 (.I .i64 r) false]), false⟩
theorem slices_Sort_int_int.dok : slices_Sort_int_int.tw.DecOk := by
  intro args hc a h
  have h : slices_Sort_int_int.dec args hc = some a := h
  unfold slices_Sort_int_int.dec at h
  split at h
  · cases h; exact ⟨rfl, rfl⟩
  · cases h
theorem slices_Sort_int_int.ok (k : Nat) : slices_Sort_int_int.tw.Ok Try.prog k := by
  intro md hmd l0 r h
  have h : slices_Sort_int_int.f l0 = some r := h
  unfold slices_Sort_int_int.f at h
  split at h
  case isFalse => cases h
  rename_i hl
  obtain rfl := Option.some.inj h
  refine ⟨callable_of Try.func116 (by kernel_rfl) (by kernel_rfl), fun w M I vs E => ?_⟩
  exact sortI_leaves E (fun blk cap hH hb => Go.Proofs.AnyM.slices_Sort_int Try.laySortI blk 0 cap l0 w hH hb (by omega)) (Go.Proofs.AnyM.slices_Sort_int_none Try.laySortI none 0 w)
def slices_SortFunc_impl_Step_impl_Step.f (l0 : List Stp) : Option (List Stp) := if l0.length ≤ 1000000000 then some (R.sortT l0) else none
def slices_SortFunc_impl_Step_impl_Step.dec : List AV → List R.Obj → Option (List Stp)
  | [.sl 0 0, .clo 88 []], [.arr 67 0 (.T l0) false] => some l0
  | _, _ => none
def slices_SortFunc_impl_Step_impl_Step.tw : Tw := ⟨117, List Stp, List Stp, slices_SortFunc_impl_Step_impl_Step.dec, fun a => [.sl 0 0, .clo 88 []], fun a => [.arr 67 0 (.T a) false], fun k a => slices_SortFunc_impl_Step_impl_Step.f a, fun a r => (.tup [], [.arr 67 0 (.T r) false]), false⟩
theorem slices_SortFunc_impl_Step_impl_Step.dok : slices_SortFunc_impl_Step_impl_Step.tw.DecOk := by
  intro args hc a h
  have h : slices_SortFunc_impl_Step_impl_Step.dec args hc = some a := h
  unfold slices_SortFunc_impl_Step_impl_Step.dec at h
  split at h
  · cases h; exact ⟨rfl, rfl⟩
  · cases h
theorem impl_stepOrder.cmp (x y : Stp) : impl_stepOrder.f 4 x.f0 x.f1 x.f2 x.f3 y.f0 y.f1 y.f2 y.f3 = some (R.ordT x y) := by
  have c1 : ∀ a b : Int, cmp_Compare_int.f a b = some (R.cmpI a b) := fun a b => by
    unfold cmp_Compare_int.f cmp_isNaN_int.f R.cmpI
    simp only [decide_true, Bool.not_true, Option.bind_some, Bool.false_eq_true, if_false]
    by_cases h : a < b
    · rw [if_pos h, if_pos h]
    · rw [if_neg h, if_neg h]; by_cases h2 : a > b
      · rw [if_pos h2, if_pos h2]
      · rw [if_neg h2, if_neg h2]
  have w1 : wrap64 ((0 : Int) + 1) = 1 := by unfold wrap64; decide
  have w2 : wrap64 ((1 : Int) + 1) = 2 := by unfold wrap64; decide
  have w3 : wrap64 ((2 : Int) + 1) = 3 := by unfold wrap64; decide
  have c2 : ∀ a b c : Int, cmp_Or_int.f 4 [a, b, c] = some (if a = 0 then (if b = 0 then c else b) else a) := fun a b c => by
    unfold cmp_Or_int.f
    have r0 : rdI [a, b, c] 0 = a := rfl
    have r1 : rdI [a, b, c] 1 = b := rfl
    have r2 : rdI [a, b, c] 2 = c := rfl
    simp only [cmp_Or_int.l0, List.length_cons, List.length_nil, r0, r1, r2, w1, w2, w3]
    by_cases h0 : a = 0
    · by_cases h1 : b = 0
      · by_cases h2 : c = 0
        · simp [h0, h1, h2, r1, r2, w1, w2, w3]
        · simp [h0, h1, h2, r1, r2, w1, w2, w3]
      · simp [h0, h1, r1, r2, w1, w2, w3]
    · simp [h0]
  unfold impl_stepOrder.f strings_Compare.f bytealg_CompareString.f
  simp only [c1, Option.bind_some, c2]
  rfl
theorem slices_SortFunc_impl_Step_impl_Step.ok (k : Nat) : slices_SortFunc_impl_Step_impl_Step.tw.Ok Try.prog k := by
  intro md hmd l0 r h
  have h : slices_SortFunc_impl_Step_impl_Step.f l0 = some r := h
  unfold slices_SortFunc_impl_Step_impl_Step.f at h
  split at h
  case isFalse => cases h
  rename_i hl
  obtain rfl := Option.some.inj h
  refine ⟨callable_of Try.func117 (by kernel_rfl) (by kernel_rfl), fun w M I vs E => ?_⟩
  have eg : ∀ args w, (callFunc 88 args).run Try.prog w = .ok (.enter 88 args) w := enters_of Try.func88 (by kernel_rfl) rfl
  have hcmp : ∀ x y : Stp, CallSpec true Try.prog 88 [.agg [.int .i64 x.f0, .str x.f1, .int .i64 x.f2, .int .i64 x.f3], .agg [.int .i64 y.f0, .str y.f1, .int .i64 y.f2, .int .i64 y.f3]] [] (.int .i64 (R.ordT x y)) [] := fun x y =>
    impl_stepOrder.ok 4 true (fun _ => rfl) (x.f0, x.f1, x.f2, x.f3, y.f0, y.f1, y.f2, y.f3) (R.ordT x y) (impl_stepOrder.cmp x y)
  refine sortT_leaves E (fun blk cap hH hb => ?_) (Go.Proofs.AnyF.slices_SortFunc_none Try.laySortT none 0 _ w)
  exact Go.Proofs.AnyQ.slices_SortFunc_eq Try.laySortT 4 Try.isAgg67 Try.sizeOf67 R.encT (fun _ => rfl) (fun x v hv => by
    simp only [R.encT, List.mem_cons, List.not_mem_nil, or_false] at hv
    rcases hv with rfl | rfl | rfl | rfl <;> rfl) R.ordT R.swoT 88 #[] blk 0 cap l0.toArray w eg (R.cmpLays_of hcmp blk 0 _ w) hH hb (by have q : l0.length ≤ 1000000000 := hl; show List.length l0 < _; omega)
def impl_made.f (k : Nat) (a0 : Int) (l1 : List Int) (l2 : List Int) (l3 : List Stp) : Option (Int × (List Int) × (List Int) × (List Stp) × Bool) := ((slices_Clone_int_int.f l1).bind fun t1 => ((slices_Clone_int_int.f l2).bind fun t2 => ((slices_Clone_impl_Step_impl_Step.f l3).bind fun t3 => ((slices_Sort_int_int.f t1).bind fun t4 => ((slices_Sort_int_int.f t2).bind fun t5 => ((slices_SortFunc_impl_Step_impl_Step.f t3).bind fun t6 => ((impl_AutomatonValid.f k a0 t4 t5 t6).bind fun t7 => (if t7 = true then (some (a0, t4, t5, t6, true)) else (some (0, ([] : List Int), ([] : List Int), ([] : List Stp), false))))))))))
def impl_made.en (r : Int × (List Int) × (List Int) × (List Stp) × Bool) : Res := (.tup [.agg [.int .i64 r.1, .sl 0 0, .sl 1 0, .sl 2 0], .lit r.2.2.2.2], [.arr 3 0 (.I .i64 r.2.1) false, .arr 3 0 (.I .i64 r.2.2.1) false, .arr 67 0 (.T r.2.2.2.1) false])
def impl_made.dec : List AV → List R.Obj → Option (Int × (List Int) × (List Int) × (List Stp))
  | [.int .i64 a0, .imm (.I .i64 l1), .imm (.I .i64 l2), .imm (.T l3)], [] => some (a0, l1, l2, l3)
  | _, _ => none
def impl_made.tw : Tw := ⟨63, Int × (List Int) × (List Int) × (List Stp), Int × (List Int) × (List Int) × (List Stp) × Bool, impl_made.dec, fun a => [.int .i64 a.1, .imm (.I .i64 a.2.1), .imm (.I .i64 a.2.2.1), .imm (.T a.2.2.2)], fun a => [], fun k a => impl_made.f k a.1 a.2.1 a.2.2.1 a.2.2.2, fun a r => impl_made.en r, false⟩
theorem impl_made.dok : impl_made.tw.DecOk := by
  intro args hc a h
  have h : impl_made.dec args hc = some a := h
  unfold impl_made.dec at h
  split at h
  · cases h; exact ⟨rfl, rfl⟩
  · cases h
noncomputable def impl_made.O (k : Nat) : Oracle := (slices_Clone_int_int.tw.orc k (slices_Clone_impl_Step_impl_Step.tw.orc k (slices_Sort_int_int.tw.orc k (slices_SortFunc_impl_Step_impl_Step.tw.orc k (impl_AutomatonValid.tw.orc k noO)))))
def impl_made.fh : FH := ⟨fun i => match i with | _ => none, [(true, 3), (true, 3), (true, 67)], false⟩
set_option maxRecDepth 100000 in
theorem impl_made.ef (k : Nat) (a0 : Int) (l1 : List Int) (l2 : List Int) (l3 : List Stp) : R.start Try.prog xhn impl_made.O 0 Try.f63 impl_made.fh k [.int .i64 a0, .imm (.I .i64 l1), .imm (.I .i64 l2), .imm (.T l3)] [] = ((slices_Clone_int_int.f l1).bind fun t1 => ((slices_Clone_int_int.f l2).bind fun t2 => ((slices_Clone_impl_Step_impl_Step.f l3).bind fun t3 => ((slices_Sort_int_int.f t1).bind fun t4 => ((slices_Sort_int_int.f t2).bind fun t5 => ((slices_SortFunc_impl_Step_impl_Step.f t3).bind fun t6 => ((impl_AutomatonValid.f k a0 t4 t5 t6).bind fun t7 => (if t7 = true then (some (impl_made.en (a0, t4, t5, t6, true))) else (some (impl_made.en (0, ([] : List Int), ([] : List Int), ([] : List Stp), false))))))))))) := by kernel_rfl
theorem impl_made.sf (k : Nat) (a0 : Int) (l1 : List Int) (l2 : List Int) (l3 : List Stp) : R.start Try.prog xhn impl_made.O 0 Try.f63 impl_made.fh k [.int .i64 a0, .imm (.I .i64 l1), .imm (.I .i64 l2), .imm (.T l3)] [] = (impl_made.f k a0 l1 l2 l3).map (impl_made.en) := by
  rw [impl_made.ef]
  simp only [impl_made.f, R.map_ite, R.map_bind, R.map_none, R.map_some, R.wr64_eq]
theorem impl_made.ok (k : Nat) : impl_made.tw.Ok Try.prog k := by
  intro md hmd a r h
  refine fn_ok (H := xhn) (fh := impl_made.fh) (O := impl_made.O) (k := k) Try.func63 (by kernel_rfl) (by kernel_rfl) (fun j _ => (Tw.orc_sound slices_Clone_int_int.dok (slices_Clone_int_int.ok j) (fun q => Bool.noConfusion (show false = true from hmd q)) (Tw.orc_sound slices_Clone_impl_Step_impl_Step.dok (slices_Clone_impl_Step_impl_Step.ok j) (fun q => Bool.noConfusion (show false = true from hmd q)) (Tw.orc_sound slices_Sort_int_int.dok (slices_Sort_int_int.ok j) (fun q => Bool.noConfusion (show false = true from hmd q)) (Tw.orc_sound slices_SortFunc_impl_Step_impl_Step.dok (slices_SortFunc_impl_Step_impl_Step.ok j) (fun q => Bool.noConfusion (show false = true from hmd q)) (Tw.orc_sound impl_AutomatonValid.dok (impl_AutomatonValid.ok j) (fun _ => rfl) noO_sound)))))) (by kernel_rfl) (m := 0) rfl ?_
  refine (impl_made.sf k a.1 a.2.1 a.2.2.1 a.2.2.2).trans ?_
  exact congrArg (Option.map _) h
def impl_ReverseAutomaton.f (k : Nat) (a0_0 : Int) (l0_1 : List Int) (l0_2 : List Int) (l0_3 : List Stp) : Option (Int × (List Int) × (List Int) × (List Stp) × Bool) := ((impl_AutomatonValid.f k a0_0 l0_1 l0_2 l0_3).bind fun t1 => (if t1 = true then ((impl_stepped.f k l0_3).bind fun t2 => ((impl_made.f k a0_0 l0_2 l0_1 t2).bind fun t3 => (some (t3.1, t3.2.1, t3.2.2.1, t3.2.2.2.1, t3.2.2.2.2)))) else (some (0, ([] : List Int), ([] : List Int), ([] : List Stp), false))))
def impl_ReverseAutomaton.en (r : Int × (List Int) × (List Int) × (List Stp) × Bool) : Res := (.tup [.agg [.int .i64 r.1, .sl 0 0, .sl 1 0, .sl 2 0], .lit r.2.2.2.2], [.arr 3 0 (.I .i64 r.2.1) false, .arr 3 0 (.I .i64 r.2.2.1) false, .arr 67 0 (.T r.2.2.2.1) false])
def impl_ReverseAutomaton.dec : List AV → List R.Obj → Option (Int × (List Int) × (List Int) × (List Stp))
  | [.agg [.int .i64 a0_0, .imm (.I .i64 l0_1), .imm (.I .i64 l0_2), .imm (.T l0_3)]], [] => some (a0_0, l0_1, l0_2, l0_3)
  | _, _ => none
def impl_ReverseAutomaton.tw : Tw := ⟨94, Int × (List Int) × (List Int) × (List Stp), Int × (List Int) × (List Int) × (List Stp) × Bool, impl_ReverseAutomaton.dec, fun a => [.agg [.int .i64 a.1, .imm (.I .i64 a.2.1), .imm (.I .i64 a.2.2.1), .imm (.T a.2.2.2)]], fun a => [], fun k a => impl_ReverseAutomaton.f k a.1 a.2.1 a.2.2.1 a.2.2.2, fun a r => impl_ReverseAutomaton.en r, false⟩
theorem impl_ReverseAutomaton.dok : impl_ReverseAutomaton.tw.DecOk := by
  intro args hc a h
  have h : impl_ReverseAutomaton.dec args hc = some a := h
  unfold impl_ReverseAutomaton.dec at h
  split at h
  · cases h; exact ⟨rfl, rfl⟩
  · cases h
noncomputable def impl_ReverseAutomaton.O (k : Nat) : Oracle := (impl_AutomatonValid.tw.orc k (impl_stepped.tw.orc k (impl_made.tw.orc k noO)))
def impl_ReverseAutomaton.fh : FH := ⟨fun i => match i with | _ => none, [(true, 3), (true, 3), (true, 67)], false⟩
set_option maxRecDepth 100000 in
theorem impl_ReverseAutomaton.ef (k : Nat) (a0_0 : Int) (l0_1 : List Int) (l0_2 : List Int) (l0_3 : List Stp) : R.start Try.prog xhn impl_ReverseAutomaton.O 0 Try.f94 impl_ReverseAutomaton.fh k [.agg [.int .i64 a0_0, .imm (.I .i64 l0_1), .imm (.I .i64 l0_2), .imm (.T l0_3)]] [] = ((impl_AutomatonValid.f k a0_0 l0_1 l0_2 l0_3).bind fun t1 => (if t1 = true then ((impl_stepped.f k l0_3).bind fun t2 => ((impl_made.f k a0_0 l0_2 l0_1 t2).bind fun t3 => (some (impl_ReverseAutomaton.en (t3.1, t3.2.1, t3.2.2.1, t3.2.2.2.1, t3.2.2.2.2))))) else (some (impl_ReverseAutomaton.en (0, ([] : List Int), ([] : List Int), ([] : List Stp), false))))) := by kernel_rfl
theorem impl_ReverseAutomaton.sf (k : Nat) (a0_0 : Int) (l0_1 : List Int) (l0_2 : List Int) (l0_3 : List Stp) : R.start Try.prog xhn impl_ReverseAutomaton.O 0 Try.f94 impl_ReverseAutomaton.fh k [.agg [.int .i64 a0_0, .imm (.I .i64 l0_1), .imm (.I .i64 l0_2), .imm (.T l0_3)]] [] = (impl_ReverseAutomaton.f k a0_0 l0_1 l0_2 l0_3).map (impl_ReverseAutomaton.en) := by
  rw [impl_ReverseAutomaton.ef]
  simp only [impl_ReverseAutomaton.f, R.map_ite, R.map_bind, R.map_none, R.map_some, R.wr64_eq]
theorem impl_ReverseAutomaton.ok (k : Nat) : impl_ReverseAutomaton.tw.Ok Try.prog k := by
  intro md hmd a r h
  refine fn_ok (H := xhn) (fh := impl_ReverseAutomaton.fh) (O := impl_ReverseAutomaton.O) (k := k) Try.func94 (by kernel_rfl) (by kernel_rfl) (fun j _ => (Tw.orc_sound impl_AutomatonValid.dok (impl_AutomatonValid.ok j) (fun _ => rfl) (Tw.orc_sound impl_stepped.dok (impl_stepped.ok j) (fun _ => rfl) (Tw.orc_sound impl_made.dok (impl_made.ok j) (fun q => Bool.noConfusion (show false = true from hmd q)) noO_sound)))) (by kernel_rfl) (m := 0) rfl ?_
  refine (impl_ReverseAutomaton.sf k a.1 a.2.1 a.2.2.1 a.2.2.2).trans ?_
  exact congrArg (Option.map _) h
mutual
def impl_reached.l0 : Nat → (List Bool) → (List Int) → Int → Int → Int → (List Int) → (List Int) → (List Stp) → Option (List Bool)
  | 0, _, _, _, _, _, _, _, _ => none
  | k + 1, y1, x13, x14, x15, y0_0, y0_1, y0_2, y0_3 => (if x15 < x14 then (if 0 ≤ x15 then (if x15 < (x13.length : Int) then (if 0 ≤ (rdI x13 x15) then (if (rdI x13 x15) < (y1.length : Int) then (impl_reached.l0 k (y1.set (rdI x13 x15).toNat true) x13 x14 (wrap64 (x15 + 1)) y0_0 y0_1 y0_2 y0_3) else none) else none) else none) else none) else (impl_reached.l1 k y1 y0_0 0 y0_0 y0_1 y0_2 y0_3))
def impl_reached.l1 : Nat → (List Bool) → Int → Int → Int → (List Int) → (List Int) → (List Stp) → Option (List Bool)
  | 0, _, _, _, _, _, _, _ => none
  | k + 1, y1, x24, x25, y0_0, y0_1, y0_2, y0_3 => (if x25 < x24 then (impl_reached.l2 k y1 x24 x25 y0_3 (y0_3.length : Int) 0 y0_0 y0_1 y0_2 y0_3) else (some y1))
def impl_reached.l2 : Nat → (List Bool) → Int → Int → (List Stp) → Int → Int → Int → (List Int) → (List Int) → (List Stp) → Option (List Bool)
  | 0, _, _, _, _, _, _, _, _, _, _ => none
  | k + 1, y1, x24, x25, x28, x29, x30, y0_0, y0_1, y0_2, y0_3 => (if x30 < x29 then (if 0 ≤ x30 then (if x30 < (x28.length : Int) then (if 0 ≤ (rdT x28 x30).f2 then (if (rdT x28 x30).f2 < (y1.length : Int) then (if (rdB y1 (rdT x28 x30).f2) = true then (impl_reached.l2 k (y1.set (rdT x28 x30).f2.toNat true) x24 x25 x28 x29 (wrap64 (x30 + 1)) y0_0 y0_1 y0_2 y0_3) else (if 0 ≤ (rdT x28 x30).f0 then (if (rdT x28 x30).f0 < (y1.length : Int) then (impl_reached.l2 k (y1.set (rdT x28 x30).f2.toNat (rdB y1 (rdT x28 x30).f0)) x24 x25 x28 x29 (wrap64 (x30 + 1)) y0_0 y0_1 y0_2 y0_3) else none) else none)) else none) else none) else none) else none) else (impl_reached.l1 k y1 x24 (wrap64 (x25 + 1)) y0_0 y0_1 y0_2 y0_3))
end
def impl_reached.f (k : Nat) (a0_0 : Int) (l0_1 : List Int) (l0_2 : List Int) (l0_3 : List Stp) (l1 : List Int) : Option (List Bool) := (if 0 ≤ a0_0 then (if a0_0.toNat ≤ 140737488355328 then (impl_reached.l0 k (List.replicate a0_0.toNat false) l1 (l1.length : Int) 0 a0_0 l0_1 l0_2 l0_3) else none) else none)
def impl_reached.en (r : List Bool) : Res := (.sl 0 0, [.arr 4 0 (.B r) false])
def impl_reached.dec : List AV → List R.Obj → Option (Int × (List Int) × (List Int) × (List Stp) × (List Int))
  | [.agg [.int .i64 a0_0, .imm (.I .i64 l0_1), .imm (.I .i64 l0_2), .imm (.T l0_3)], .imm (.I .i64 l1)], [] => some (a0_0, l0_1, l0_2, l0_3, l1)
  | _, _ => none
def impl_reached.tw : Tw := ⟨109, Int × (List Int) × (List Int) × (List Stp) × (List Int), List Bool, impl_reached.dec, fun a => [.agg [.int .i64 a.1, .imm (.I .i64 a.2.1), .imm (.I .i64 a.2.2.1), .imm (.T a.2.2.2.1)], .imm (.I .i64 a.2.2.2.2)], fun a => [], fun k a => impl_reached.f k a.1 a.2.1 a.2.2.1 a.2.2.2.1 a.2.2.2.2, fun a r => impl_reached.en r, true⟩
theorem impl_reached.dok : impl_reached.tw.DecOk := by
  intro args hc a h
  have h : impl_reached.dec args hc = some a := h
  unfold impl_reached.dec at h
  split at h
  · cases h; exact ⟨rfl, rfl⟩
  · cases h
noncomputable def impl_reached.O (k : Nat) : Oracle := noO
def impl_reached.fh : FH := ⟨fun i => match i with | 3 => some [(2, 0), (5, 0), (13, 0), (14, 0), (15, 0)] | 8 => some [(2, 0), (5, 0), (24, 0), (25, 0)] | 10 => some [(2, 0), (5, 0), (24, 0), (25, 0), (28, 0), (29, 0), (30, 0)] | _ => none, [(true, 4)], false⟩
noncomputable def impl_reached.x0 (k : Nat) (y1 : List Bool) (x13 : List Int) (x14 : Int) (x15 : Int) (y0_0 : Int) (y0_1 : List Int) (y0_2 : List Int) (y0_3 : List Stp) : Option Res := R.exec Try.prog xhn impl_reached.O 0 Try.f109 impl_reached.fh k (R.point Try.f109 3) ⟨[(2, .ptr 0 0), (5, .sl 1 0), (13, .imm (.I .i64 x13)), (14, .int .i64 x14), (15, .int .i64 x15)], [(0, .box false [.int .i64 y0_0, .imm (.I .i64 y0_1), .imm (.I .i64 y0_2), .imm (.T y0_3)]), (1, .arr 4 0 (.B y1) false)], 4⟩
noncomputable def impl_reached.x1 (k : Nat) (y1 : List Bool) (x24 : Int) (x25 : Int) (y0_0 : Int) (y0_1 : List Int) (y0_2 : List Int) (y0_3 : List Stp) : Option Res := R.exec Try.prog xhn impl_reached.O 0 Try.f109 impl_reached.fh k (R.point Try.f109 8) ⟨[(2, .ptr 0 0), (5, .sl 1 0), (24, .int .i64 x24), (25, .int .i64 x25)], [(0, .box false [.int .i64 y0_0, .imm (.I .i64 y0_1), .imm (.I .i64 y0_2), .imm (.T y0_3)]), (1, .arr 4 0 (.B y1) false)], 4⟩
noncomputable def impl_reached.x2 (k : Nat) (y1 : List Bool) (x24 : Int) (x25 : Int) (x28 : List Stp) (x29 : Int) (x30 : Int) (y0_0 : Int) (y0_1 : List Int) (y0_2 : List Int) (y0_3 : List Stp) : Option Res := R.exec Try.prog xhn impl_reached.O 0 Try.f109 impl_reached.fh k (R.point Try.f109 10) ⟨[(2, .ptr 0 0), (5, .sl 1 0), (24, .int .i64 x24), (25, .int .i64 x25), (28, .imm (.T x28)), (29, .int .i64 x29), (30, .int .i64 x30)], [(0, .box false [.int .i64 y0_0, .imm (.I .i64 y0_1), .imm (.I .i64 y0_2), .imm (.T y0_3)]), (1, .arr 4 0 (.B y1) false)], 4⟩
set_option maxRecDepth 100000 in
theorem impl_reached.e0 (k : Nat) (y1 : List Bool) (x13 : List Int) (x14 : Int) (x15 : Int) (y0_0 : Int) (y0_1 : List Int) (y0_2 : List Int) (y0_3 : List Stp) : impl_reached.x0 (k + 1) y1 x13 x14 x15 y0_0 y0_1 y0_2 y0_3 = (if x15 < x14 then (if 0 ≤ x15 then (if x15 < (x13.length : Int) then (if 0 ≤ (rdI x13 x15) then (if (rdI x13 x15) < (y1.length : Int) then (impl_reached.x0 k (y1.set (rdI x13 x15).toNat true) x13 x14 (wr64 (x15 + 1)) y0_0 y0_1 y0_2 y0_3) else none) else none) else none) else none) else (impl_reached.x1 k y1 y0_0 0 y0_0 y0_1 y0_2 y0_3)) := by kernel_rfl
set_option maxRecDepth 100000 in
theorem impl_reached.e1 (k : Nat) (y1 : List Bool) (x24 : Int) (x25 : Int) (y0_0 : Int) (y0_1 : List Int) (y0_2 : List Int) (y0_3 : List Stp) : impl_reached.x1 (k + 1) y1 x24 x25 y0_0 y0_1 y0_2 y0_3 = (if x25 < x24 then (impl_reached.x2 k y1 x24 x25 y0_3 (y0_3.length : Int) 0 y0_0 y0_1 y0_2 y0_3) else (some (impl_reached.en y1))) := by kernel_rfl
set_option maxRecDepth 100000 in
theorem impl_reached.e2 (k : Nat) (y1 : List Bool) (x24 : Int) (x25 : Int) (x28 : List Stp) (x29 : Int) (x30 : Int) (y0_0 : Int) (y0_1 : List Int) (y0_2 : List Int) (y0_3 : List Stp) : impl_reached.x2 (k + 1) y1 x24 x25 x28 x29 x30 y0_0 y0_1 y0_2 y0_3 = (if x30 < x29 then (if 0 ≤ x30 then (if x30 < (x28.length : Int) then (if 0 ≤ (rdT x28 x30).f2 then (if (rdT x28 x30).f2 < (y1.length : Int) then (if (rdB y1 (rdT x28 x30).f2) = true then (impl_reached.x2 k (y1.set (rdT x28 x30).f2.toNat true) x24 x25 x28 x29 (wr64 (x30 + 1)) y0_0 y0_1 y0_2 y0_3) else (if 0 ≤ (rdT x28 x30).f0 then (if (rdT x28 x30).f0 < (y1.length : Int) then (impl_reached.x2 k (y1.set (rdT x28 x30).f2.toNat (rdB y1 (rdT x28 x30).f0)) x24 x25 x28 x29 (wr64 (x30 + 1)) y0_0 y0_1 y0_2 y0_3) else none) else none)) else none) else none) else none) else none) else (impl_reached.x1 k y1 x24 (wr64 (x25 + 1)) y0_0 y0_1 y0_2 y0_3)) := by
  refine Eq.trans ?_ (R.icong (fun h0 => (R.icong (fun h1 => (R.icong (fun h2 => (R.icong (fun h3 => (R.icong (fun h4 => (R.icong (fun h5 => (R.idropT (p := 0 ≤ (rdT x28 x30).f2) (z := none) h3 (R.idropT (p := (rdT x28 x30).f2 < (y1.length : Int)) (z := none) h4 rfl))) (fun h5 => (R.icong (fun h6 => (R.icong (fun h7 => (R.idropT (p := 0 ≤ (rdT x28 x30).f2) (z := none) h3 (R.idropT (p := (rdT x28 x30).f2 < (y1.length : Int)) (z := none) h4 rfl))) (fun h7 => rfl))) (fun h6 => rfl))))) (fun h4 => rfl))) (fun h3 => rfl))) (fun h2 => rfl))) (fun h1 => rfl))) (fun h0 => rfl))
  kernel_rfl
set_option maxRecDepth 100000 in
theorem impl_reached.ef (k : Nat) (a0_0 : Int) (l0_1 : List Int) (l0_2 : List Int) (l0_3 : List Stp) (l1 : List Int) : R.start Try.prog xhn impl_reached.O 0 Try.f109 impl_reached.fh k [.agg [.int .i64 a0_0, .imm (.I .i64 l0_1), .imm (.I .i64 l0_2), .imm (.T l0_3)], .imm (.I .i64 l1)] [] = (if 0 ≤ a0_0 then (if a0_0.toNat ≤ 140737488355328 then (impl_reached.x0 k (List.replicate a0_0.toNat false) l1 (l1.length : Int) 0 a0_0 l0_1 l0_2 l0_3) else none) else none) := by
  refine Eq.trans ?_ (R.icong (fun h0 => (R.idropT (p := a0_0 = a0_0) (z := none) rfl rfl)) (fun h0 => rfl))
  kernel_rfl
theorem impl_reached.link : ∀ k, (∀ (y1 : List Bool) (x13 : List Int) (x14 : Int) (x15 : Int) (y0_0 : Int) (y0_1 : List Int) (y0_2 : List Int) (y0_3 : List Stp), impl_reached.x0 k y1 x13 x14 x15 y0_0 y0_1 y0_2 y0_3 = (impl_reached.l0 k y1 x13 x14 x15 y0_0 y0_1 y0_2 y0_3).map (impl_reached.en)) ∧ (∀ (y1 : List Bool) (x24 : Int) (x25 : Int) (y0_0 : Int) (y0_1 : List Int) (y0_2 : List Int) (y0_3 : List Stp), impl_reached.x1 k y1 x24 x25 y0_0 y0_1 y0_2 y0_3 = (impl_reached.l1 k y1 x24 x25 y0_0 y0_1 y0_2 y0_3).map (impl_reached.en)) ∧ (∀ (y1 : List Bool) (x24 : Int) (x25 : Int) (x28 : List Stp) (x29 : Int) (x30 : Int) (y0_0 : Int) (y0_1 : List Int) (y0_2 : List Int) (y0_3 : List Stp), impl_reached.x2 k y1 x24 x25 x28 x29 x30 y0_0 y0_1 y0_2 y0_3 = (impl_reached.l2 k y1 x24 x25 x28 x29 x30 y0_0 y0_1 y0_2 y0_3).map (impl_reached.en))
  | 0 => ⟨fun _ _ _ _ _ _ _ _ => by simp only [impl_reached.l0, R.map_none]; rfl, fun _ _ _ _ _ _ _ => by simp only [impl_reached.l1, R.map_none]; rfl, fun _ _ _ _ _ _ _ _ _ _ => by simp only [impl_reached.l2, R.map_none]; rfl⟩
  | k + 1 => by
    obtain ⟨ih0, ih1, ih2⟩ := impl_reached.link k
    refine ⟨?_, ?_, ?_⟩
    · intro y1 x13 x14 x15 y0_0 y0_1 y0_2 y0_3
      rw [impl_reached.e0]
      simp only [impl_reached.l0, R.map_ite, R.map_bind, R.map_none, R.map_some, R.wr64_eq, ← ih0, ← ih1, ← ih2]
    · intro y1 x24 x25 y0_0 y0_1 y0_2 y0_3
      rw [impl_reached.e1]
      simp only [impl_reached.l1, R.map_ite, R.map_bind, R.map_none, R.map_some, R.wr64_eq, ← ih0, ← ih1, ← ih2]
    · intro y1 x24 x25 x28 x29 x30 y0_0 y0_1 y0_2 y0_3
      rw [impl_reached.e2]
      simp only [impl_reached.l2, R.map_ite, R.map_bind, R.map_none, R.map_some, R.wr64_eq, ← ih0, ← ih1, ← ih2]
theorem impl_reached.sf (k : Nat) (a0_0 : Int) (l0_1 : List Int) (l0_2 : List Int) (l0_3 : List Stp) (l1 : List Int) : R.start Try.prog xhn impl_reached.O 0 Try.f109 impl_reached.fh k [.agg [.int .i64 a0_0, .imm (.I .i64 l0_1), .imm (.I .i64 l0_2), .imm (.T l0_3)], .imm (.I .i64 l1)] [] = (impl_reached.f k a0_0 l0_1 l0_2 l0_3 l1).map (impl_reached.en) := by
  obtain ⟨ih0, ih1, ih2⟩ := impl_reached.link k
  rw [impl_reached.ef]
  simp only [impl_reached.f, R.map_ite, R.map_bind, R.map_none, R.map_some, R.wr64_eq, ← ih0, ← ih1, ← ih2]
theorem impl_reached.ok (k : Nat) : impl_reached.tw.Ok Try.prog k := by
  intro md hmd a r h
  refine fn_ok (H := xhn) (fh := impl_reached.fh) (O := impl_reached.O) (k := k) Try.func109 (by kernel_rfl) (by kernel_rfl) (fun j _ => noO_sound) (by kernel_rfl) (m := 0) rfl ?_
  refine (impl_reached.sf k a.1 a.2.1 a.2.2.1 a.2.2.2.1 a.2.2.2.2).trans ?_
  exact congrArg (Option.map _) h
def impl_UsefulOf.l0 : Nat → (List Bool) → (List Bool) → (List Int) → Int → Int → Option (List Int)
  | 0, _, _, _, _, _ => none
  | k + 1, y0, y1, y2, x26, x27 => (if x27 < x26 then (if 0 ≤ x27 then (if x27 < (y0.length : Int) then (if (rdB y0 x27) = true then (if x27 < (y1.length : Int) then (if (rdB y1 x27) = true then (if y2.length < 17592186044416 then (impl_UsefulOf.l0 k y0 y1 (y2 ++ [x27]) x26 (wrap64 (x27 + 1))) else none) else (impl_UsefulOf.l0 k y0 y1 y2 x26 (wrap64 (x27 + 1)))) else none) else (impl_UsefulOf.l0 k y0 y1 y2 x26 (wrap64 (x27 + 1)))) else none) else none) else (some y2))
def impl_UsefulOf.f (k : Nat) (a0_0 : Int) (l0_1 : List Int) (l0_2 : List Int) (l0_3 : List Stp) : Option (List Int) := ((impl_ReverseAutomaton.f k a0_0 l0_1 l0_2 l0_3).bind fun t1 => (if t1.2.2.2.2 = true then ((impl_reached.f k a0_0 l0_1 l0_2 l0_3 l0_1).bind fun t2 => ((impl_reached.f k t1.1 t1.2.1 t1.2.2.1 t1.2.2.2.1 l0_2).bind fun t3 => (impl_UsefulOf.l0 k t2 t3 ([] : List Int) a0_0 0))) else (some ([] : List Int))))
def impl_UsefulOf.en (r : List Int) : Res := (.sl 0 0, [.arr 3 0 (.I .i64 r) false])
def impl_UsefulOf.dec : List AV → List R.Obj → Option (Int × (List Int) × (List Int) × (List Stp))
  | [.agg [.int .i64 a0_0, .imm (.I .i64 l0_1), .imm (.I .i64 l0_2), .imm (.T l0_3)]], [] => some (a0_0, l0_1, l0_2, l0_3)
  | _, _ => none
def impl_UsefulOf.tw : Tw := ⟨54, Int × (List Int) × (List Int) × (List Stp), List Int, impl_UsefulOf.dec, fun a => [.agg [.int .i64 a.1, .imm (.I .i64 a.2.1), .imm (.I .i64 a.2.2.1), .imm (.T a.2.2.2)]], fun a => [], fun k a => impl_UsefulOf.f k a.1 a.2.1 a.2.2.1 a.2.2.2, fun a r => impl_UsefulOf.en r, false⟩
theorem impl_UsefulOf.dok : impl_UsefulOf.tw.DecOk := by
  intro args hc a h
  have h : impl_UsefulOf.dec args hc = some a := h
  unfold impl_UsefulOf.dec at h
  split at h
  · cases h; exact ⟨rfl, rfl⟩
  · cases h
noncomputable def impl_UsefulOf.O (k : Nat) : Oracle := (impl_ReverseAutomaton.tw.orc k (impl_reached.tw.orc k noO))
def impl_UsefulOf.fh : FH := ⟨fun i => match i with | 7 => some [(5, 0), (6, 0), (7, 0), (26, 0), (27, 0)] | _ => none, [(true, 3)], false⟩
noncomputable def impl_UsefulOf.x0 (k : Nat) (y0 : List Bool) (y1 : List Bool) (y2 : List Int) (x26 : Int) (x27 : Int) : Option Res := R.exec Try.prog xhn impl_UsefulOf.O 0 Try.f54 impl_UsefulOf.fh k (R.point Try.f54 7) ⟨[(5, .sl 0 0), (6, .sl 1 0), (7, .sl 2 0), (26, .int .i64 x26), (27, .int .i64 x27)], [(0, .arr 4 0 (.B y0) false), (1, .arr 4 0 (.B y1) false), (2, .arr 3 0 (.I .i64 y2) false)], 5⟩
set_option maxRecDepth 100000 in
theorem impl_UsefulOf.e0 (k : Nat) (y0 : List Bool) (y1 : List Bool) (y2 : List Int) (x26 : Int) (x27 : Int) : impl_UsefulOf.x0 (k + 1) y0 y1 y2 x26 x27 = (if x27 < x26 then (if 0 ≤ x27 then (if x27 < (y0.length : Int) then (if (rdB y0 x27) = true then (if x27 < (y1.length : Int) then (if (rdB y1 x27) = true then (if y2.length < 17592186044416 then (impl_UsefulOf.x0 k y0 y1 (y2 ++ [x27]) x26 (wr64 (x27 + 1))) else none) else (impl_UsefulOf.x0 k y0 y1 y2 x26 (wr64 (x27 + 1)))) else none) else (impl_UsefulOf.x0 k y0 y1 y2 x26 (wr64 (x27 + 1)))) else none) else none) else (some (impl_UsefulOf.en y2))) := by
  refine Eq.trans ?_ (R.icong (fun h0 => (R.icong (fun h1 => (R.icong (fun h2 => (R.icong (fun h3 => (R.idropT (p := 0 ≤ x27) (z := none) h1 rfl)) (fun h3 => rfl))) (fun h2 => rfl))) (fun h1 => rfl))) (fun h0 => rfl))
  kernel_rfl
set_option maxRecDepth 100000 in
theorem impl_UsefulOf.ef (k : Nat) (a0_0 : Int) (l0_1 : List Int) (l0_2 : List Int) (l0_3 : List Stp) : R.start Try.prog xhn impl_UsefulOf.O 0 Try.f54 impl_UsefulOf.fh k [.agg [.int .i64 a0_0, .imm (.I .i64 l0_1), .imm (.I .i64 l0_2), .imm (.T l0_3)]] [] = ((impl_ReverseAutomaton.f k a0_0 l0_1 l0_2 l0_3).bind fun t1 => (if t1.2.2.2.2 = true then ((impl_reached.f k a0_0 l0_1 l0_2 l0_3 l0_1).bind fun t2 => ((impl_reached.f k t1.1 t1.2.1 t1.2.2.1 t1.2.2.2.1 l0_2).bind fun t3 => (impl_UsefulOf.x0 k t2 t3 ([] : List Int) a0_0 0))) else (some (impl_UsefulOf.en ([] : List Int))))) := by kernel_rfl
theorem impl_UsefulOf.link : ∀ k, (∀ (y0 : List Bool) (y1 : List Bool) (y2 : List Int) (x26 : Int) (x27 : Int), impl_UsefulOf.x0 k y0 y1 y2 x26 x27 = (impl_UsefulOf.l0 k y0 y1 y2 x26 x27).map (impl_UsefulOf.en))
  | 0 => fun _ _ _ _ _ => by simp only [impl_UsefulOf.l0, R.map_none]; rfl
  | k + 1 => by
    have ih0 := impl_UsefulOf.link k
    · intro y0 y1 y2 x26 x27
      rw [impl_UsefulOf.e0]
      simp only [impl_UsefulOf.l0, R.map_ite, R.map_bind, R.map_none, R.map_some, R.wr64_eq, ← ih0]
theorem impl_UsefulOf.sf (k : Nat) (a0_0 : Int) (l0_1 : List Int) (l0_2 : List Int) (l0_3 : List Stp) : R.start Try.prog xhn impl_UsefulOf.O 0 Try.f54 impl_UsefulOf.fh k [.agg [.int .i64 a0_0, .imm (.I .i64 l0_1), .imm (.I .i64 l0_2), .imm (.T l0_3)]] [] = (impl_UsefulOf.f k a0_0 l0_1 l0_2 l0_3).map (impl_UsefulOf.en) := by
  have ih0 := impl_UsefulOf.link k
  rw [impl_UsefulOf.ef]
  simp only [impl_UsefulOf.f, R.map_ite, R.map_bind, R.map_none, R.map_some, R.wr64_eq, ← ih0]
theorem impl_UsefulOf.ok (k : Nat) : impl_UsefulOf.tw.Ok Try.prog k := by
  intro md hmd a r h
  refine fn_ok (H := xhn) (fh := impl_UsefulOf.fh) (O := impl_UsefulOf.O) (k := k) Try.func54 (by kernel_rfl) (by kernel_rfl) (fun j _ => (Tw.orc_sound impl_ReverseAutomaton.dok (impl_ReverseAutomaton.ok j) (fun q => Bool.noConfusion (show false = true from hmd q)) (Tw.orc_sound impl_reached.dok (impl_reached.ok j) (fun _ => rfl) noO_sound))) (by kernel_rfl) (m := 0) rfl ?_
  refine (impl_UsefulOf.sf k a.1 a.2.1 a.2.2.1 a.2.2.2).trans ?_
  exact congrArg (Option.map _) h
def slices_Index_int_int.l0 : Nat → (List Int) → Int → Int → Int → Option (Int)
  | 0, _, _, _, _ => none
  | k + 1, x0, x1, x7, x8 => (if x8 < x7 then (if 0 ≤ x8 then (if x8 < (x0.length : Int) then (if x1 = (rdI x0 x8) then (some x8) else (slices_Index_int_int.l0 k x0 x1 x7 (wrap64 (x8 + 1)))) else none) else none) else (some (-1)))
def slices_Index_int_int.f (k : Nat) (l0 : List Int) (a1 : Int) : Option (Int) := (slices_Index_int_int.l0 k l0 a1 (l0.length : Int) 0)
def slices_Index_int_int.en (r : Int) : Res := (.int .i64 r, [])
def slices_Index_int_int.dec : List AV → List R.Obj → Option ((List Int) × Int)
  | [.imm (.I .i64 l0), .int .i64 a1], [] => some (l0, a1)
  | _, _ => none
def slices_Index_int_int.tw : Tw := ⟨85, (List Int) × Int, Int, slices_Index_int_int.dec, fun a => [.imm (.I .i64 a.1), .int .i64 a.2], fun a => [], fun k a => slices_Index_int_int.f k a.1 a.2, fun a r => slices_Index_int_int.en r, true⟩
theorem slices_Index_int_int.dok : slices_Index_int_int.tw.DecOk := by
  intro args hc a h
  have h : slices_Index_int_int.dec args hc = some a := h
  unfold slices_Index_int_int.dec at h
  split at h
  · cases h; exact ⟨rfl, rfl⟩
  · cases h
noncomputable def slices_Index_int_int.O (k : Nat) : Oracle := noO
def slices_Index_int_int.fh : FH := ⟨fun i => match i with | 2 => some [(0, 0), (1, 0), (7, 0), (8, 0)] | _ => none, [], false⟩
noncomputable def slices_Index_int_int.x0 (k : Nat) (x0 : List Int) (x1 : Int) (x7 : Int) (x8 : Int) : Option Res := R.exec Try.prog xhn slices_Index_int_int.O 0 Try.f85 slices_Index_int_int.fh k (R.point Try.f85 2) ⟨[(0, .imm (.I .i64 x0)), (1, .int .i64 x1), (7, .int .i64 x7), (8, .int .i64 x8)], [], 2⟩
set_option maxRecDepth 100000 in
theorem slices_Index_int_int.e0 (k : Nat) (x0 : List Int) (x1 : Int) (x7 : Int) (x8 : Int) : slices_Index_int_int.x0 (k + 1) x0 x1 x7 x8 = (if x8 < x7 then (if 0 ≤ x8 then (if x8 < (x0.length : Int) then (if x1 = (rdI x0 x8) then (some (slices_Index_int_int.en x8)) else (slices_Index_int_int.x0 k x0 x1 x7 (wr64 (x8 + 1)))) else none) else none) else (some (slices_Index_int_int.en (-1)))) := by kernel_rfl
set_option maxRecDepth 100000 in
theorem slices_Index_int_int.ef (k : Nat) (l0 : List Int) (a1 : Int) : R.start Try.prog xhn slices_Index_int_int.O 0 Try.f85 slices_Index_int_int.fh k [.imm (.I .i64 l0), .int .i64 a1] [] = (slices_Index_int_int.x0 k l0 a1 (l0.length : Int) 0) := by kernel_rfl
theorem slices_Index_int_int.link : ∀ k, (∀ (x0 : List Int) (x1 : Int) (x7 : Int) (x8 : Int), slices_Index_int_int.x0 k x0 x1 x7 x8 = (slices_Index_int_int.l0 k x0 x1 x7 x8).map (slices_Index_int_int.en))
  | 0 => fun _ _ _ _ => by simp only [slices_Index_int_int.l0, R.map_none]; rfl
  | k + 1 => by
    have ih0 := slices_Index_int_int.link k
    · intro x0 x1 x7 x8
      rw [slices_Index_int_int.e0]
      simp only [slices_Index_int_int.l0, R.map_ite, R.map_bind, R.map_none, R.map_some, R.wr64_eq, ← ih0]
theorem slices_Index_int_int.sf (k : Nat) (l0 : List Int) (a1 : Int) : R.start Try.prog xhn slices_Index_int_int.O 0 Try.f85 slices_Index_int_int.fh k [.imm (.I .i64 l0), .int .i64 a1] [] = (slices_Index_int_int.f k l0 a1).map (slices_Index_int_int.en) := by
  have ih0 := slices_Index_int_int.link k
  rw [slices_Index_int_int.ef]
  simp only [slices_Index_int_int.f, R.map_ite, R.map_bind, R.map_none, R.map_some, R.wr64_eq, ← ih0]
theorem slices_Index_int_int.ok (k : Nat) : slices_Index_int_int.tw.Ok Try.prog k := by
  intro md hmd a r h
  refine fn_ok (H := xhn) (fh := slices_Index_int_int.fh) (O := slices_Index_int_int.O) (k := k) Try.func85 (by kernel_rfl) (by kernel_rfl) (fun j _ => noO_sound) (by kernel_rfl) (m := 0) rfl ?_
  refine (slices_Index_int_int.sf k a.1 a.2).trans ?_
  exact congrArg (Option.map _) h
def impl_TrimAutomaton_1.l0 : Nat → (List Int) → (List Int) → Int → Int → (List Int) → Option (List Int)
  | 0, _, _, _, _, _ => none
  | k + 1, y1, x9, x10, x11, y0_0 => (if x11 < x10 then (if 0 ≤ x11 then (if x11 < (x9.length : Int) then ((slices_Index_int_int.f k y0_0 (rdI x9 x11)).bind fun t1 => (if t1 ≥ 0 then (if y1.length < 17592186044416 then (impl_TrimAutomaton_1.l0 k (y1 ++ [t1]) x9 x10 (wrap64 (x11 + 1)) y0_0) else none) else (impl_TrimAutomaton_1.l0 k y1 x9 x10 (wrap64 (x11 + 1)) y0_0))) else none) else none) else (some y1))
def impl_TrimAutomaton_1.f (k : Nat) (l0 : List Int) (l2_0 : List Int) : Option (List Int) := (impl_TrimAutomaton_1.l0 k ([] : List Int) l0 (l0.length : Int) 0 l2_0)
def impl_TrimAutomaton_1.en (l2_0 : List Int) (r : List Int) : Res := (.sl 1 0, [.box true [.imm (.I .i64 l2_0)], .arr 3 0 (.I .i64 r) false])
def impl_TrimAutomaton_1.dec : List AV → List R.Obj → Option ((List Int) × (List Int))
  | [.imm (.I .i64 l0), .ptr 0 0], [.box true [.imm (.I .i64 l2_0)]] => some (l0, l2_0)
  | _, _ => none
def impl_TrimAutomaton_1.tw : Tw := ⟨84, (List Int) × (List Int), List Int, impl_TrimAutomaton_1.dec, fun a => [.imm (.I .i64 a.1), .ptr 0 0], fun a => [.box true [.imm (.I .i64 a.2)]], fun k a => impl_TrimAutomaton_1.f k a.1 a.2, fun a r => impl_TrimAutomaton_1.en a.2 r, true⟩
theorem impl_TrimAutomaton_1.dok : impl_TrimAutomaton_1.tw.DecOk := by
  intro args hc a h
  have h : impl_TrimAutomaton_1.dec args hc = some a := h
  unfold impl_TrimAutomaton_1.dec at h
  split at h
  · cases h; exact ⟨rfl, rfl⟩
  · cases h
noncomputable def impl_TrimAutomaton_1.O (k : Nat) : Oracle := (slices_Index_int_int.tw.orc k noO)
def impl_TrimAutomaton_1.fh : FH := ⟨fun i => match i with | 3 => some [(1, 0), (4, 0), (9, 0), (10, 0), (11, 0)] | _ => none, [(true, 3)], false⟩
noncomputable def impl_TrimAutomaton_1.x0 (k : Nat) (y1 : List Int) (x9 : List Int) (x10 : Int) (x11 : Int) (y0_0 : List Int) : Option Res := R.exec Try.prog xhn impl_TrimAutomaton_1.O 1 Try.f84 impl_TrimAutomaton_1.fh k (R.point Try.f84 3) ⟨[(1, .ptr 0 0), (4, .sl 1 0), (9, .imm (.I .i64 x9)), (10, .int .i64 x10), (11, .int .i64 x11)], [(0, .box true [.imm (.I .i64 y0_0)]), (1, .arr 3 0 (.I .i64 y1) false)], 4⟩
set_option maxRecDepth 100000 in
theorem impl_TrimAutomaton_1.e0 (k : Nat) (y1 : List Int) (x9 : List Int) (x10 : Int) (x11 : Int) (y0_0 : List Int) : impl_TrimAutomaton_1.x0 (k + 1) y1 x9 x10 x11 y0_0 = (if x11 < x10 then (if 0 ≤ x11 then (if x11 < (x9.length : Int) then ((slices_Index_int_int.f k y0_0 (rdI x9 x11)).bind fun t1 => (if t1 ≥ 0 then (if y1.length < 17592186044416 then (impl_TrimAutomaton_1.x0 k (y1 ++ [t1]) x9 x10 (wr64 (x11 + 1)) y0_0) else none) else (impl_TrimAutomaton_1.x0 k y1 x9 x10 (wr64 (x11 + 1)) y0_0))) else none) else none) else (some (impl_TrimAutomaton_1.en y0_0 y1))) := by kernel_rfl
set_option maxRecDepth 100000 in
theorem impl_TrimAutomaton_1.ef (k : Nat) (l0 : List Int) (l2_0 : List Int) : R.start Try.prog xhn impl_TrimAutomaton_1.O 1 Try.f84 impl_TrimAutomaton_1.fh k [.imm (.I .i64 l0), .ptr 0 0] [.box true [.imm (.I .i64 l2_0)]] = (impl_TrimAutomaton_1.x0 k ([] : List Int) l0 (l0.length : Int) 0 l2_0) := by kernel_rfl
theorem impl_TrimAutomaton_1.link : ∀ k, (∀ (y1 : List Int) (x9 : List Int) (x10 : Int) (x11 : Int) (y0_0 : List Int), impl_TrimAutomaton_1.x0 k y1 x9 x10 x11 y0_0 = (impl_TrimAutomaton_1.l0 k y1 x9 x10 x11 y0_0).map (impl_TrimAutomaton_1.en y0_0))
  | 0 => fun _ _ _ _ _ => by simp only [impl_TrimAutomaton_1.l0, R.map_none]; rfl
  | k + 1 => by
    have ih0 := impl_TrimAutomaton_1.link k
    · intro y1 x9 x10 x11 y0_0
      rw [impl_TrimAutomaton_1.e0]
      simp only [impl_TrimAutomaton_1.l0, R.map_ite, R.map_bind, R.map_none, R.map_some, R.wr64_eq, ← ih0]
theorem impl_TrimAutomaton_1.sf (k : Nat) (l0 : List Int) (l2_0 : List Int) : R.start Try.prog xhn impl_TrimAutomaton_1.O 1 Try.f84 impl_TrimAutomaton_1.fh k [.imm (.I .i64 l0), .ptr 0 0] [.box true [.imm (.I .i64 l2_0)]] = (impl_TrimAutomaton_1.f k l0 l2_0).map (impl_TrimAutomaton_1.en l2_0) := by
  have ih0 := impl_TrimAutomaton_1.link k
  rw [impl_TrimAutomaton_1.ef]
  simp only [impl_TrimAutomaton_1.f, R.map_ite, R.map_bind, R.map_none, R.map_some, R.wr64_eq, ← ih0]
theorem impl_TrimAutomaton_1.ok (k : Nat) : impl_TrimAutomaton_1.tw.Ok Try.prog k := by
  intro md hmd a r h
  refine fn_ok (H := xhn) (fh := impl_TrimAutomaton_1.fh) (O := impl_TrimAutomaton_1.O) (k := k) Try.func84 (by kernel_rfl) (by kernel_rfl) (fun j _ => (Tw.orc_sound slices_Index_int_int.dok (slices_Index_int_int.ok j) (fun _ => rfl) noO_sound)) (by kernel_rfl) (m := 1) rfl ?_
  refine (impl_TrimAutomaton_1.sf k a.1 a.2).trans ?_
  exact congrArg (Option.map _) h
def impl_TrimAutomaton.l0 : Nat → (List Stp) → (List Stp) → Int → Int → Int → (List Int) → (List Int) → (List Stp) → (List Int) → Option (Int × (List Int) × (List Int) × (List Stp) × Bool)
  | 0, _, _, _, _, _, _, _, _, _ => none
  | k + 1, y3, x16, x17, x18, y0_0, y0_1, y0_2, y0_3, y7 => (if x18 < x17 then (if 0 ≤ x18 then (if x18 < (x16.length : Int) then ((slices_Index_int_int.f k y7 ((rdT x16 x18).f0)).bind fun t2 => ((slices_Index_int_int.f k y7 ((rdT x16 x18).f2)).bind fun t3 => (if t2 ≥ 0 then (if t3 ≥ 0 then (if y3.length < 3518437208883 then (impl_TrimAutomaton.l0 k (y3 ++ [(⟨t2, (rdT x16 x18).f1, t3, (rdT x16 x18).f3⟩ : Stp)]) x16 x17 (wrap64 (x18 + 1)) y0_0 y0_1 y0_2 y0_3 y7) else none) else (impl_TrimAutomaton.l0 k y3 x16 x17 (wrap64 (x18 + 1)) y0_0 y0_1 y0_2 y0_3 y7)) else (impl_TrimAutomaton.l0 k y3 x16 x17 (wrap64 (x18 + 1)) y0_0 y0_1 y0_2 y0_3 y7)))) else none) else none) else ((impl_TrimAutomaton_1.f k y0_1 y7).bind fun t4 => ((impl_TrimAutomaton_1.f k y0_2 y7).bind fun t5 => ((impl_made.f k (y7.length : Int) t4 t5 y3).bind fun t6 => (some (t6.1, t6.2.1, t6.2.2.1, t6.2.2.2.1, t6.2.2.2.2))))))
def impl_TrimAutomaton.f (k : Nat) (a0_0 : Int) (l0_1 : List Int) (l0_2 : List Int) (l0_3 : List Stp) : Option (Int × (List Int) × (List Int) × (List Stp) × Bool) := ((impl_UsefulOf.f k a0_0 l0_1 l0_2 l0_3).bind fun t1 => (impl_TrimAutomaton.l0 k ([] : List Stp) l0_3 (l0_3.length : Int) 0 a0_0 l0_1 l0_2 l0_3 t1))
def impl_TrimAutomaton.en (r : Int × (List Int) × (List Int) × (List Stp) × Bool) : Res := (.tup [.agg [.int .i64 r.1, .sl 0 0, .sl 1 0, .sl 2 0], .lit r.2.2.2.2], [.arr 3 0 (.I .i64 r.2.1) false, .arr 3 0 (.I .i64 r.2.2.1) false, .arr 67 0 (.T r.2.2.2.1) false])
def impl_TrimAutomaton.dec : List AV → List R.Obj → Option (Int × (List Int) × (List Int) × (List Stp))
  | [.agg [.int .i64 a0_0, .imm (.I .i64 l0_1), .imm (.I .i64 l0_2), .imm (.T l0_3)]], [] => some (a0_0, l0_1, l0_2, l0_3)
  | _, _ => none
def impl_TrimAutomaton.tw : Tw := ⟨29, Int × (List Int) × (List Int) × (List Stp), Int × (List Int) × (List Int) × (List Stp) × Bool, impl_TrimAutomaton.dec, fun a => [.agg [.int .i64 a.1, .imm (.I .i64 a.2.1), .imm (.I .i64 a.2.2.1), .imm (.T a.2.2.2)]], fun a => [], fun k a => impl_TrimAutomaton.f k a.1 a.2.1 a.2.2.1 a.2.2.2, fun a r => impl_TrimAutomaton.en r, false⟩
theorem impl_TrimAutomaton.dok : impl_TrimAutomaton.tw.DecOk := by
  intro args hc a h
  have h : impl_TrimAutomaton.dec args hc = some a := h
  unfold impl_TrimAutomaton.dec at h
  split at h
  · cases h; exact ⟨rfl, rfl⟩
  · cases h
noncomputable def impl_TrimAutomaton.O (k : Nat) : Oracle := (impl_UsefulOf.tw.orc k (slices_Index_int_int.tw.orc k (impl_TrimAutomaton_1.tw.orc k (impl_made.tw.orc k noO))))
def impl_TrimAutomaton.fh : FH := ⟨fun i => match i with | 5 => some [(1, 0), (2, 0), (4, 0), (5, 0), (6, 0), (16, 0), (17, 0), (18, 0)] | _ => none, [(true, 3), (true, 3), (true, 67)], false⟩
noncomputable def impl_TrimAutomaton.x0 (k : Nat) (y3 : List Stp) (x16 : List Stp) (x17 : Int) (x18 : Int) (y0_0 : Int) (y0_1 : List Int) (y0_2 : List Int) (y0_3 : List Stp) (y7 : List Int) : Option Res := R.exec Try.prog xhn impl_TrimAutomaton.O 0 Try.f29 impl_TrimAutomaton.fh k (R.point Try.f29 5) ⟨[(1, .ptr 0 0), (2, .ptr 1 0), (4, .ptr 2 0), (5, .clo 84 [.ptr 2 0]), (6, .sl 3 0), (16, .imm (.T x16)), (17, .int .i64 x17), (18, .int .i64 x18)], [(0, .box false [.int .i64 y0_0, .imm (.I .i64 y0_1), .imm (.I .i64 y0_2), .imm (.T y0_3)]), (1, .box false [.int .i64 0, .sl 4 0, .sl 5 0, .sl 6 0]), (2, .box false [.sl 7 0]), (3, .arr 67 0 (.T y3) false), (4, .arr 3 0 (.I .i64 ([] : List Int)) false), (5, .arr 3 0 (.I .i64 ([] : List Int)) false), (6, .arr 67 0 (.T ([] : List Stp)) false), (7, .arr 3 0 (.I .i64 y7) false)], 10⟩
set_option maxRecDepth 100000 in
theorem impl_TrimAutomaton.e0 (k : Nat) (y3 : List Stp) (x16 : List Stp) (x17 : Int) (x18 : Int) (y0_0 : Int) (y0_1 : List Int) (y0_2 : List Int) (y0_3 : List Stp) (y7 : List Int) : impl_TrimAutomaton.x0 (k + 1) y3 x16 x17 x18 y0_0 y0_1 y0_2 y0_3 y7 = (if x18 < x17 then (if 0 ≤ x18 then (if x18 < (x16.length : Int) then ((slices_Index_int_int.f k y7 ((rdT x16 x18).f0)).bind fun t2 => ((slices_Index_int_int.f k y7 ((rdT x16 x18).f2)).bind fun t3 => (if t2 ≥ 0 then (if t3 ≥ 0 then (if y3.length < 3518437208883 then (impl_TrimAutomaton.x0 k (y3 ++ [(⟨t2, (rdT x16 x18).f1, t3, (rdT x16 x18).f3⟩ : Stp)]) x16 x17 (wr64 (x18 + 1)) y0_0 y0_1 y0_2 y0_3 y7) else none) else (impl_TrimAutomaton.x0 k y3 x16 x17 (wr64 (x18 + 1)) y0_0 y0_1 y0_2 y0_3 y7)) else (impl_TrimAutomaton.x0 k y3 x16 x17 (wr64 (x18 + 1)) y0_0 y0_1 y0_2 y0_3 y7)))) else none) else none) else ((impl_TrimAutomaton_1.f k y0_1 y7).bind fun t4 => ((impl_TrimAutomaton_1.f k y0_2 y7).bind fun t5 => ((impl_made.f k (y7.length : Int) t4 t5 y3).bind fun t6 => (some (impl_TrimAutomaton.en (t6.1, t6.2.1, t6.2.2.1, t6.2.2.2.1, t6.2.2.2.2))))))) := by kernel_rfl
set_option maxRecDepth 100000 in
theorem impl_TrimAutomaton.ef (k : Nat) (a0_0 : Int) (l0_1 : List Int) (l0_2 : List Int) (l0_3 : List Stp) : R.start Try.prog xhn impl_TrimAutomaton.O 0 Try.f29 impl_TrimAutomaton.fh k [.agg [.int .i64 a0_0, .imm (.I .i64 l0_1), .imm (.I .i64 l0_2), .imm (.T l0_3)]] [] = ((impl_UsefulOf.f k a0_0 l0_1 l0_2 l0_3).bind fun t1 => (impl_TrimAutomaton.x0 k ([] : List Stp) l0_3 (l0_3.length : Int) 0 a0_0 l0_1 l0_2 l0_3 t1)) := by kernel_rfl
theorem impl_TrimAutomaton.link : ∀ k, (∀ (y3 : List Stp) (x16 : List Stp) (x17 : Int) (x18 : Int) (y0_0 : Int) (y0_1 : List Int) (y0_2 : List Int) (y0_3 : List Stp) (y7 : List Int), impl_TrimAutomaton.x0 k y3 x16 x17 x18 y0_0 y0_1 y0_2 y0_3 y7 = (impl_TrimAutomaton.l0 k y3 x16 x17 x18 y0_0 y0_1 y0_2 y0_3 y7).map (impl_TrimAutomaton.en))
  | 0 => fun _ _ _ _ _ _ _ _ _ => by simp only [impl_TrimAutomaton.l0, R.map_none]; rfl
  | k + 1 => by
    have ih0 := impl_TrimAutomaton.link k
    · intro y3 x16 x17 x18 y0_0 y0_1 y0_2 y0_3 y7
      rw [impl_TrimAutomaton.e0]
      simp only [impl_TrimAutomaton.l0, R.map_ite, R.map_bind, R.map_none, R.map_some, R.wr64_eq, ← ih0]
theorem impl_TrimAutomaton.sf (k : Nat) (a0_0 : Int) (l0_1 : List Int) (l0_2 : List Int) (l0_3 : List Stp) : R.start Try.prog xhn impl_TrimAutomaton.O 0 Try.f29 impl_TrimAutomaton.fh k [.agg [.int .i64 a0_0, .imm (.I .i64 l0_1), .imm (.I .i64 l0_2), .imm (.T l0_3)]] [] = (impl_TrimAutomaton.f k a0_0 l0_1 l0_2 l0_3).map (impl_TrimAutomaton.en) := by
  have ih0 := impl_TrimAutomaton.link k
  rw [impl_TrimAutomaton.ef]
  simp only [impl_TrimAutomaton.f, R.map_ite, R.map_bind, R.map_none, R.map_some, R.wr64_eq, ← ih0]
theorem impl_TrimAutomaton.ok (k : Nat) : impl_TrimAutomaton.tw.Ok Try.prog k := by
  intro md hmd a r h
  refine fn_ok (H := xhn) (fh := impl_TrimAutomaton.fh) (O := impl_TrimAutomaton.O) (k := k) Try.func29 (by kernel_rfl) (by kernel_rfl) (fun j _ => (Tw.orc_sound impl_UsefulOf.dok (impl_UsefulOf.ok j) (fun q => Bool.noConfusion (show false = true from hmd q)) (Tw.orc_sound slices_Index_int_int.dok (slices_Index_int_int.ok j) (fun _ => rfl) (Tw.orc_sound impl_TrimAutomaton_1.dok (impl_TrimAutomaton_1.ok j) (fun _ => rfl) (Tw.orc_sound impl_made.dok (impl_made.ok j) (fun q => Bool.noConfusion (show false = true from hmd q)) noO_sound))))) (by kernel_rfl) (m := 0) rfl ?_
  refine (impl_TrimAutomaton.sf k a.1 a.2.1 a.2.2.1 a.2.2.2).trans ?_
  exact congrArg (Option.map _) h
def laws_eqIntS.l0 : Nat → (List Int) → (List Int) → Int → Option (Bool)
  | 0, _, _, _ => none
  | k + 1, x0, x1, x5 => (if x5 < (x0.length : Int) then (if 0 ≤ x5 then (if x5 < (x1.length : Int) then (if (rdI x0 x5) = (rdI x1 x5) then (laws_eqIntS.l0 k x0 x1 (wrap64 (x5 + 1))) else (some false)) else none) else none) else (some true))
def laws_eqIntS.f (k : Nat) (l0 : List Int) (l1 : List Int) : Option (Bool) := (if (l0.length : Int) = (l1.length : Int) then (laws_eqIntS.l0 k l0 l1 0) else (some false))
def laws_eqIntS.en (r : Bool) : Res := (.lit r, [])
def laws_eqIntS.dec : List AV → List R.Obj → Option ((List Int) × (List Int))
  | [.imm (.I .i64 l0), .imm (.I .i64 l1)], [] => some (l0, l1)
  | _, _ => none
def laws_eqIntS.tw : Tw := ⟨34, (List Int) × (List Int), Bool, laws_eqIntS.dec, fun a => [.imm (.I .i64 a.1), .imm (.I .i64 a.2)], fun a => [], fun k a => laws_eqIntS.f k a.1 a.2, fun a r => laws_eqIntS.en r, true⟩
theorem laws_eqIntS.dok : laws_eqIntS.tw.DecOk := by
  intro args hc a h
  have h : laws_eqIntS.dec args hc = some a := h
  unfold laws_eqIntS.dec at h
  split at h
  · cases h; exact ⟨rfl, rfl⟩
  · cases h
noncomputable def laws_eqIntS.O (k : Nat) : Oracle := noO
def laws_eqIntS.fh : FH := ⟨fun i => match i with | 4 => some [(0, 0), (1, 0), (5, 0)] | _ => none, [], false⟩
noncomputable def laws_eqIntS.x0 (k : Nat) (x0 : List Int) (x1 : List Int) (x5 : Int) : Option Res := R.exec Try.prog xhn laws_eqIntS.O 0 Try.f34 laws_eqIntS.fh k (R.point Try.f34 4) ⟨[(0, .imm (.I .i64 x0)), (1, .imm (.I .i64 x1)), (5, .int .i64 x5)], [], 2⟩
set_option maxRecDepth 100000 in
theorem laws_eqIntS.e0 (k : Nat) (x0 : List Int) (x1 : List Int) (x5 : Int) : laws_eqIntS.x0 (k + 1) x0 x1 x5 = (if x5 < (x0.length : Int) then (if 0 ≤ x5 then (if x5 < (x1.length : Int) then (if (rdI x0 x5) = (rdI x1 x5) then (laws_eqIntS.x0 k x0 x1 (wr64 (x5 + 1))) else (some (laws_eqIntS.en false))) else none) else none) else (some (laws_eqIntS.en true))) := by
  refine Eq.trans ?_ (R.icong (fun h0 => (R.icong (fun h1 => (R.idropT (p := x5 < (x0.length : Int)) (z := none) h0 (R.idropT (p := 0 ≤ x5) (z := none) h1 rfl))) (fun h1 => rfl))) (fun h0 => rfl))
  kernel_rfl
set_option maxRecDepth 100000 in
theorem laws_eqIntS.ef (k : Nat) (l0 : List Int) (l1 : List Int) : R.start Try.prog xhn laws_eqIntS.O 0 Try.f34 laws_eqIntS.fh k [.imm (.I .i64 l0), .imm (.I .i64 l1)] [] = (if (l0.length : Int) = (l1.length : Int) then (laws_eqIntS.x0 k l0 l1 0) else (some (laws_eqIntS.en false))) := by kernel_rfl
theorem laws_eqIntS.link : ∀ k, (∀ (x0 : List Int) (x1 : List Int) (x5 : Int), laws_eqIntS.x0 k x0 x1 x5 = (laws_eqIntS.l0 k x0 x1 x5).map (laws_eqIntS.en))
  | 0 => fun _ _ _ => by simp only [laws_eqIntS.l0, R.map_none]; rfl
  | k + 1 => by
    have ih0 := laws_eqIntS.link k
    · intro x0 x1 x5
      rw [laws_eqIntS.e0]
      simp only [laws_eqIntS.l0, R.map_ite, R.map_bind, R.map_none, R.map_some, R.wr64_eq, ← ih0]
theorem laws_eqIntS.sf (k : Nat) (l0 : List Int) (l1 : List Int) : R.start Try.prog xhn laws_eqIntS.O 0 Try.f34 laws_eqIntS.fh k [.imm (.I .i64 l0), .imm (.I .i64 l1)] [] = (laws_eqIntS.f k l0 l1).map (laws_eqIntS.en) := by
  have ih0 := laws_eqIntS.link k
  rw [laws_eqIntS.ef]
  simp only [laws_eqIntS.f, R.map_ite, R.map_bind, R.map_none, R.map_some, R.wr64_eq, ← ih0]
theorem laws_eqIntS.ok (k : Nat) : laws_eqIntS.tw.Ok Try.prog k := by
  intro md hmd a r h
  refine fn_ok (H := xhn) (fh := laws_eqIntS.fh) (O := laws_eqIntS.O) (k := k) Try.func34 (by kernel_rfl) (by kernel_rfl) (fun j _ => noO_sound) (by kernel_rfl) (m := 0) rfl ?_
  refine (laws_eqIntS.sf k a.1 a.2).trans ?_
  exact congrArg (Option.map _) h
def laws_eqStep.f (a0_0 : Int) (a0_1 : ByteArray) (a0_2 : Int) (a0_3 : Int) (a1_0 : Int) (a1_1 : ByteArray) (a1_2 : Int) (a1_3 : Int) : Option (Bool) := (if a0_0 = a1_0 then (if a0_1.toList = a1_1.toList then (if a0_2 = a1_2 then (if a0_3 = a1_3 then (some true) else (some false)) else (some false)) else (some false)) else (some false))
def laws_eqStep.en (r : Bool) : Res := (.lit r, [])
def laws_eqStep.dec : List AV → List R.Obj → Option (Int × ByteArray × Int × Int × Int × ByteArray × Int × Int)
  | [.agg [.int .i64 a0_0, .str a0_1, .int .i64 a0_2, .int .i64 a0_3], .agg [.int .i64 a1_0, .str a1_1, .int .i64 a1_2, .int .i64 a1_3]], [] => some (a0_0, a0_1, a0_2, a0_3, a1_0, a1_1, a1_2, a1_3)
  | _, _ => none
def laws_eqStep.tw : Tw := ⟨118, Int × ByteArray × Int × Int × Int × ByteArray × Int × Int, Bool, laws_eqStep.dec, fun a => [.agg [.int .i64 a.1, .str a.2.1, .int .i64 a.2.2.1, .int .i64 a.2.2.2.1], .agg [.int .i64 a.2.2.2.2.1, .str a.2.2.2.2.2.1, .int .i64 a.2.2.2.2.2.2.1, .int .i64 a.2.2.2.2.2.2.2]], fun a => [], fun k a => laws_eqStep.f a.1 a.2.1 a.2.2.1 a.2.2.2.1 a.2.2.2.2.1 a.2.2.2.2.2.1 a.2.2.2.2.2.2.1 a.2.2.2.2.2.2.2, fun a r => laws_eqStep.en r, true⟩
theorem laws_eqStep.dok : laws_eqStep.tw.DecOk := by
  intro args hc a h
  have h : laws_eqStep.dec args hc = some a := h
  unfold laws_eqStep.dec at h
  split at h
  · cases h; exact ⟨rfl, rfl⟩
  · cases h
noncomputable def laws_eqStep.O (k : Nat) : Oracle := noO
def laws_eqStep.fh : FH := ⟨fun i => match i with | _ => none, [], false⟩
set_option maxRecDepth 100000 in
theorem laws_eqStep.ef (k : Nat) (a0_0 : Int) (a0_1 : ByteArray) (a0_2 : Int) (a0_3 : Int) (a1_0 : Int) (a1_1 : ByteArray) (a1_2 : Int) (a1_3 : Int) : R.start Try.prog xhn laws_eqStep.O 0 Try.f118 laws_eqStep.fh k [.agg [.int .i64 a0_0, .str a0_1, .int .i64 a0_2, .int .i64 a0_3], .agg [.int .i64 a1_0, .str a1_1, .int .i64 a1_2, .int .i64 a1_3]] [] = (if a0_0 = a1_0 then (if a0_1.toList = a1_1.toList then (if a0_2 = a1_2 then (if a0_3 = a1_3 then (some (laws_eqStep.en true)) else (some (laws_eqStep.en false))) else (some (laws_eqStep.en false))) else (some (laws_eqStep.en false))) else (some (laws_eqStep.en false))) := by kernel_rfl
theorem laws_eqStep.sf (k : Nat) (a0_0 : Int) (a0_1 : ByteArray) (a0_2 : Int) (a0_3 : Int) (a1_0 : Int) (a1_1 : ByteArray) (a1_2 : Int) (a1_3 : Int) : R.start Try.prog xhn laws_eqStep.O 0 Try.f118 laws_eqStep.fh k [.agg [.int .i64 a0_0, .str a0_1, .int .i64 a0_2, .int .i64 a0_3], .agg [.int .i64 a1_0, .str a1_1, .int .i64 a1_2, .int .i64 a1_3]] [] = (laws_eqStep.f a0_0 a0_1 a0_2 a0_3 a1_0 a1_1 a1_2 a1_3).map (laws_eqStep.en) := by
  rw [laws_eqStep.ef]
  simp only [laws_eqStep.f, R.map_ite, R.map_bind, R.map_none, R.map_some, R.wr64_eq]
theorem laws_eqStep.ok (k : Nat) : laws_eqStep.tw.Ok Try.prog k := by
  intro md hmd a r h
  refine fn_ok (H := xhn) (fh := laws_eqStep.fh) (O := laws_eqStep.O) (k := k) Try.func118 (by kernel_rfl) (by kernel_rfl) (fun j _ => noO_sound) (by kernel_rfl) (m := 0) rfl ?_
  refine (laws_eqStep.sf k a.1 a.2.1 a.2.2.1 a.2.2.2.1 a.2.2.2.2.1 a.2.2.2.2.2.1 a.2.2.2.2.2.2.1 a.2.2.2.2.2.2.2).trans ?_
  exact congrArg (Option.map _) h
def laws_eqStepS.l0 : Nat → (List Stp) → (List Stp) → Int → Option (Bool)
  | 0, _, _, _ => none
  | k + 1, x0, x1, x5 => (if x5 < (x0.length : Int) then (if 0 ≤ x5 then (if x5 < (x1.length : Int) then ((laws_eqStep.f ((rdT x0 x5).f0) ((rdT x0 x5).f1) ((rdT x0 x5).f2) ((rdT x0 x5).f3) ((rdT x1 x5).f0) ((rdT x1 x5).f1) ((rdT x1 x5).f2) ((rdT x1 x5).f3)).bind fun t1 => (if t1 = true then (laws_eqStepS.l0 k x0 x1 (wrap64 (x5 + 1))) else (some false))) else none) else none) else (some true))
def laws_eqStepS.f (k : Nat) (l0 : List Stp) (l1 : List Stp) : Option (Bool) := (if (l0.length : Int) = (l1.length : Int) then (laws_eqStepS.l0 k l0 l1 0) else (some false))
def laws_eqStepS.en (r : Bool) : Res := (.lit r, [])
def laws_eqStepS.dec : List AV → List R.Obj → Option ((List Stp) × (List Stp))
  | [.imm (.T l0), .imm (.T l1)], [] => some (l0, l1)
  | _, _ => none
def laws_eqStepS.tw : Tw := ⟨66, (List Stp) × (List Stp), Bool, laws_eqStepS.dec, fun a => [.imm (.T a.1), .imm (.T a.2)], fun a => [], fun k a => laws_eqStepS.f k a.1 a.2, fun a r => laws_eqStepS.en r, true⟩
theorem laws_eqStepS.dok : laws_eqStepS.tw.DecOk := by
  intro args hc a h
  have h : laws_eqStepS.dec args hc = some a := h
  unfold laws_eqStepS.dec at h
  split at h
  · cases h; exact ⟨rfl, rfl⟩
  · cases h
noncomputable def laws_eqStepS.O (k : Nat) : Oracle := (laws_eqStep.tw.orc k noO)
def laws_eqStepS.fh : FH := ⟨fun i => match i with | 4 => some [(0, 0), (1, 0), (5, 0)] | _ => none, [], false⟩
noncomputable def laws_eqStepS.x0 (k : Nat) (x0 : List Stp) (x1 : List Stp) (x5 : Int) : Option Res := R.exec Try.prog xhn laws_eqStepS.O 0 Try.f66 laws_eqStepS.fh k (R.point Try.f66 4) ⟨[(0, .imm (.T x0)), (1, .imm (.T x1)), (5, .int .i64 x5)], [], 2⟩
set_option maxRecDepth 100000 in
theorem laws_eqStepS.e0 (k : Nat) (x0 : List Stp) (x1 : List Stp) (x5 : Int) : laws_eqStepS.x0 (k + 1) x0 x1 x5 = (if x5 < (x0.length : Int) then (if 0 ≤ x5 then (if x5 < (x1.length : Int) then ((laws_eqStep.f ((rdT x0 x5).f0) ((rdT x0 x5).f1) ((rdT x0 x5).f2) ((rdT x0 x5).f3) ((rdT x1 x5).f0) ((rdT x1 x5).f1) ((rdT x1 x5).f2) ((rdT x1 x5).f3)).bind fun t1 => (if t1 = true then (laws_eqStepS.x0 k x0 x1 (wr64 (x5 + 1))) else (some (laws_eqStepS.en false)))) else none) else none) else (some (laws_eqStepS.en true))) := by
  refine Eq.trans ?_ (R.icong (fun h0 => (R.icong (fun h1 => (R.idropT (p := x5 < (x0.length : Int)) (z := none) h0 (R.idropT (p := 0 ≤ x5) (z := none) h1 rfl))) (fun h1 => rfl))) (fun h0 => rfl))
  kernel_rfl
set_option maxRecDepth 100000 in
theorem laws_eqStepS.ef (k : Nat) (l0 : List Stp) (l1 : List Stp) : R.start Try.prog xhn laws_eqStepS.O 0 Try.f66 laws_eqStepS.fh k [.imm (.T l0), .imm (.T l1)] [] = (if (l0.length : Int) = (l1.length : Int) then (laws_eqStepS.x0 k l0 l1 0) else (some (laws_eqStepS.en false))) := by kernel_rfl
theorem laws_eqStepS.link : ∀ k, (∀ (x0 : List Stp) (x1 : List Stp) (x5 : Int), laws_eqStepS.x0 k x0 x1 x5 = (laws_eqStepS.l0 k x0 x1 x5).map (laws_eqStepS.en))
  | 0 => fun _ _ _ => by simp only [laws_eqStepS.l0, R.map_none]; rfl
  | k + 1 => by
    have ih0 := laws_eqStepS.link k
    · intro x0 x1 x5
      rw [laws_eqStepS.e0]
      simp only [laws_eqStepS.l0, R.map_ite, R.map_bind, R.map_none, R.map_some, R.wr64_eq, ← ih0]
theorem laws_eqStepS.sf (k : Nat) (l0 : List Stp) (l1 : List Stp) : R.start Try.prog xhn laws_eqStepS.O 0 Try.f66 laws_eqStepS.fh k [.imm (.T l0), .imm (.T l1)] [] = (laws_eqStepS.f k l0 l1).map (laws_eqStepS.en) := by
  have ih0 := laws_eqStepS.link k
  rw [laws_eqStepS.ef]
  simp only [laws_eqStepS.f, R.map_ite, R.map_bind, R.map_none, R.map_some, R.wr64_eq, ← ih0]
theorem laws_eqStepS.ok (k : Nat) : laws_eqStepS.tw.Ok Try.prog k := by
  intro md hmd a r h
  refine fn_ok (H := xhn) (fh := laws_eqStepS.fh) (O := laws_eqStepS.O) (k := k) Try.func66 (by kernel_rfl) (by kernel_rfl) (fun j _ => (Tw.orc_sound laws_eqStep.dok (laws_eqStep.ok j) (fun _ => rfl) noO_sound)) (by kernel_rfl) (m := 0) rfl ?_
  refine (laws_eqStepS.sf k a.1 a.2).trans ?_
  exact congrArg (Option.map _) h
def laws_eqAutomaton.f (k : Nat) (a0_0 : Int) (l0_1 : List Int) (l0_2 : List Int) (l0_3 : List Stp) (a1_0 : Int) (l1_1 : List Int) (l1_2 : List Int) (l1_3 : List Stp) : Option (Bool) := (if a0_0 = a1_0 then ((laws_eqIntS.f k l0_1 l1_1).bind fun t1 => (if t1 = true then ((laws_eqIntS.f k l0_2 l1_2).bind fun t2 => (if t2 = true then ((laws_eqStepS.f k l0_3 l1_3).bind fun t3 => (if t3 = true then (some true) else (some false))) else (some false))) else (some false))) else (some false))
def laws_eqAutomaton.en (r : Bool) : Res := (.lit r, [])
def laws_eqAutomaton.dec : List AV → List R.Obj → Option (Int × (List Int) × (List Int) × (List Stp) × Int × (List Int) × (List Int) × (List Stp))
  | [.agg [.int .i64 a0_0, .imm (.I .i64 l0_1), .imm (.I .i64 l0_2), .imm (.T l0_3)], .agg [.int .i64 a1_0, .imm (.I .i64 l1_1), .imm (.I .i64 l1_2), .imm (.T l1_3)]], [] => some (a0_0, l0_1, l0_2, l0_3, a1_0, l1_1, l1_2, l1_3)
  | _, _ => none
def laws_eqAutomaton.tw : Tw := ⟨19, Int × (List Int) × (List Int) × (List Stp) × Int × (List Int) × (List Int) × (List Stp), Bool, laws_eqAutomaton.dec, fun a => [.agg [.int .i64 a.1, .imm (.I .i64 a.2.1), .imm (.I .i64 a.2.2.1), .imm (.T a.2.2.2.1)], .agg [.int .i64 a.2.2.2.2.1, .imm (.I .i64 a.2.2.2.2.2.1), .imm (.I .i64 a.2.2.2.2.2.2.1), .imm (.T a.2.2.2.2.2.2.2)]], fun a => [], fun k a => laws_eqAutomaton.f k a.1 a.2.1 a.2.2.1 a.2.2.2.1 a.2.2.2.2.1 a.2.2.2.2.2.1 a.2.2.2.2.2.2.1 a.2.2.2.2.2.2.2, fun a r => laws_eqAutomaton.en r, true⟩
theorem laws_eqAutomaton.dok : laws_eqAutomaton.tw.DecOk := by
  intro args hc a h
  have h : laws_eqAutomaton.dec args hc = some a := h
  unfold laws_eqAutomaton.dec at h
  split at h
  · cases h; exact ⟨rfl, rfl⟩
  · cases h
noncomputable def laws_eqAutomaton.O (k : Nat) : Oracle := (laws_eqIntS.tw.orc k (laws_eqStepS.tw.orc k noO))
def laws_eqAutomaton.fh : FH := ⟨fun i => match i with | _ => none, [], false⟩
set_option maxRecDepth 100000 in
theorem laws_eqAutomaton.ef (k : Nat) (a0_0 : Int) (l0_1 : List Int) (l0_2 : List Int) (l0_3 : List Stp) (a1_0 : Int) (l1_1 : List Int) (l1_2 : List Int) (l1_3 : List Stp) : R.start Try.prog xhn laws_eqAutomaton.O 0 Try.f19 laws_eqAutomaton.fh k [.agg [.int .i64 a0_0, .imm (.I .i64 l0_1), .imm (.I .i64 l0_2), .imm (.T l0_3)], .agg [.int .i64 a1_0, .imm (.I .i64 l1_1), .imm (.I .i64 l1_2), .imm (.T l1_3)]] [] = (if a0_0 = a1_0 then ((laws_eqIntS.f k l0_1 l1_1).bind fun t1 => (if t1 = true then ((laws_eqIntS.f k l0_2 l1_2).bind fun t2 => (if t2 = true then ((laws_eqStepS.f k l0_3 l1_3).bind fun t3 => (if t3 = true then (some (laws_eqAutomaton.en true)) else (some (laws_eqAutomaton.en false)))) else (some (laws_eqAutomaton.en false)))) else (some (laws_eqAutomaton.en false)))) else (some (laws_eqAutomaton.en false))) := by kernel_rfl
theorem laws_eqAutomaton.sf (k : Nat) (a0_0 : Int) (l0_1 : List Int) (l0_2 : List Int) (l0_3 : List Stp) (a1_0 : Int) (l1_1 : List Int) (l1_2 : List Int) (l1_3 : List Stp) : R.start Try.prog xhn laws_eqAutomaton.O 0 Try.f19 laws_eqAutomaton.fh k [.agg [.int .i64 a0_0, .imm (.I .i64 l0_1), .imm (.I .i64 l0_2), .imm (.T l0_3)], .agg [.int .i64 a1_0, .imm (.I .i64 l1_1), .imm (.I .i64 l1_2), .imm (.T l1_3)]] [] = (laws_eqAutomaton.f k a0_0 l0_1 l0_2 l0_3 a1_0 l1_1 l1_2 l1_3).map (laws_eqAutomaton.en) := by
  rw [laws_eqAutomaton.ef]
  simp only [laws_eqAutomaton.f, R.map_ite, R.map_bind, R.map_none, R.map_some, R.wr64_eq]
theorem laws_eqAutomaton.ok (k : Nat) : laws_eqAutomaton.tw.Ok Try.prog k := by
  intro md hmd a r h
  refine fn_ok (H := xhn) (fh := laws_eqAutomaton.fh) (O := laws_eqAutomaton.O) (k := k) Try.func19 (by kernel_rfl) (by kernel_rfl) (fun j _ => (Tw.orc_sound laws_eqIntS.dok (laws_eqIntS.ok j) (fun _ => rfl) (Tw.orc_sound laws_eqStepS.dok (laws_eqStepS.ok j) (fun _ => rfl) noO_sound))) (by kernel_rfl) (m := 0) rfl ?_
  refine (laws_eqAutomaton.sf k a.1 a.2.1 a.2.2.1 a.2.2.2.1 a.2.2.2.2.1 a.2.2.2.2.2.1 a.2.2.2.2.2.2.1 a.2.2.2.2.2.2.2).trans ?_
  exact congrArg (Option.map _) h
def laws_markIntS.l0 : Nat → (List Int) → Int → Int → Option (Int × (List Int))
  | 0, _, _, _ => none
  | k + 1, y0, x1, x5 => (if x5 < (y0.length : Int) then (if 0 ≤ x5 then (laws_markIntS.l0 k (y0.set x5.toNat x1) (wrap64 (x1 + 1)) (wrap64 (x5 + 1))) else none) else (some (x1, y0)))
def laws_markIntS.f (k : Nat) (l2 : List Int) (a1 : Int) : Option (Int × (List Int)) := (laws_markIntS.l0 k l2 a1 0)
def laws_markIntS.en (r : Int × (List Int)) : Res := (.int .i64 r.1, [.arr 3 0 (.I .i64 r.2) false])
def laws_markIntS.dec : List AV → List R.Obj → Option ((List Int) × Int)
  | [.sl 0 0, .int .i64 a1], [.arr 3 0 (.I .i64 l2) false] => some (l2, a1)
  | _, _ => none
def laws_markIntS.tw : Tw := ⟨35, (List Int) × Int, Int × (List Int), laws_markIntS.dec, fun a => [.sl 0 0, .int .i64 a.2], fun a => [.arr 3 0 (.I .i64 a.1) false], fun k a => laws_markIntS.f k a.1 a.2, fun a r => laws_markIntS.en r, true⟩
theorem laws_markIntS.dok : laws_markIntS.tw.DecOk := by
  intro args hc a h
  have h : laws_markIntS.dec args hc = some a := h
  unfold laws_markIntS.dec at h
  split at h
  · cases h; exact ⟨rfl, rfl⟩
  · cases h
noncomputable def laws_markIntS.O (k : Nat) : Oracle := noO
def laws_markIntS.fh : FH := ⟨fun i => match i with | 2 => some [(0, 0), (1, 0), (5, 0)] | _ => none, [], false⟩
noncomputable def laws_markIntS.x0 (k : Nat) (y0 : List Int) (x1 : Int) (x5 : Int) : Option Res := R.exec Try.prog xhn laws_markIntS.O 1 Try.f35 laws_markIntS.fh k (R.point Try.f35 2) ⟨[(0, .sl 0 0), (1, .int .i64 x1), (5, .int .i64 x5)], [(0, .arr 3 0 (.I .i64 y0) false)], 3⟩
set_option maxRecDepth 100000 in
theorem laws_markIntS.e0 (k : Nat) (y0 : List Int) (x1 : Int) (x5 : Int) : laws_markIntS.x0 (k + 1) y0 x1 x5 = (if x5 < (y0.length : Int) then (if 0 ≤ x5 then (laws_markIntS.x0 k (y0.set x5.toNat x1) (wr64 (x1 + 1)) (wr64 (x5 + 1))) else none) else (some (laws_markIntS.en (x1, y0)))) := by
  refine Eq.trans ?_ (R.icong (fun h0 => (R.icong (fun h1 => (R.idropT (p := x5 < (y0.length : Int)) (z := none) h0 rfl)) (fun h1 => rfl))) (fun h0 => rfl))
  kernel_rfl
set_option maxRecDepth 100000 in
theorem laws_markIntS.ef (k : Nat) (l2 : List Int) (a1 : Int) : R.start Try.prog xhn laws_markIntS.O 1 Try.f35 laws_markIntS.fh k [.sl 0 0, .int .i64 a1] [.arr 3 0 (.I .i64 l2) false] = (laws_markIntS.x0 k l2 a1 0) := by kernel_rfl
theorem laws_markIntS.link : ∀ k, (∀ (y0 : List Int) (x1 : Int) (x5 : Int), laws_markIntS.x0 k y0 x1 x5 = (laws_markIntS.l0 k y0 x1 x5).map (laws_markIntS.en))
  | 0 => fun _ _ _ => by simp only [laws_markIntS.l0, R.map_none]; rfl
  | k + 1 => by
    have ih0 := laws_markIntS.link k
    · intro y0 x1 x5
      rw [laws_markIntS.e0]
      simp only [laws_markIntS.l0, R.map_ite, R.map_bind, R.map_none, R.map_some, R.wr64_eq, ← ih0]
theorem laws_markIntS.sf (k : Nat) (l2 : List Int) (a1 : Int) : R.start Try.prog xhn laws_markIntS.O 1 Try.f35 laws_markIntS.fh k [.sl 0 0, .int .i64 a1] [.arr 3 0 (.I .i64 l2) false] = (laws_markIntS.f k l2 a1).map (laws_markIntS.en) := by
  have ih0 := laws_markIntS.link k
  rw [laws_markIntS.ef]
  simp only [laws_markIntS.f, R.map_ite, R.map_bind, R.map_none, R.map_some, R.wr64_eq, ← ih0]
theorem laws_markIntS.ok (k : Nat) : laws_markIntS.tw.Ok Try.prog k := by
  intro md hmd a r h
  refine fn_ok (H := xhn) (fh := laws_markIntS.fh) (O := laws_markIntS.O) (k := k) Try.func35 (by kernel_rfl) (by kernel_rfl) (fun j _ => noO_sound) (by kernel_rfl) (m := 1) rfl ?_
  refine (laws_markIntS.sf k a.1 a.2).trans ?_
  exact congrArg (Option.map _) h
def laws_markText.l0 : Nat → Int → ByteArray → Option (ByteArray)
  | 0, _, _ => none
  | k + 1, x0, x3 => (if x0 > 0 then (if (strOfNums [(((wrap64 (48 + (x0.tmod 10)))) % 256)]).size + x3.size ≤ 9223372036854775807 then (laws_markText.l0 k (wrap64 (x0.tdiv 10)) ((strOfNums [(((wrap64 (48 + (x0.tmod 10)))) % 256)]) ++ x3)) else none) else (if 1 + x3.size ≤ 9223372036854775807 then (some ((⟨#[109]⟩ : ByteArray) ++ x3)) else none))
def laws_markText.f (k : Nat) (a0 : Int) : Option (ByteArray) := (if a0 ≤ 0 then (some (⟨#[109, 48]⟩ : ByteArray)) else (laws_markText.l0 k a0 (⟨#[]⟩ : ByteArray)))
def laws_markText.en (r : ByteArray) : Res := (.str r, [])
def laws_markText.dec : List AV → List R.Obj → Option (Int)
  | [.int .i64 a0], [] => some a0
  | _, _ => none
def laws_markText.tw : Tw := ⟨119, Int, ByteArray, laws_markText.dec, fun a => [.int .i64 a], fun a => [], fun k a => laws_markText.f k a, fun a r => laws_markText.en r, true⟩
theorem laws_markText.dok : laws_markText.tw.DecOk := by
  intro args hc a h
  have h : laws_markText.dec args hc = some a := h
  unfold laws_markText.dec at h
  split at h
  · cases h; exact ⟨rfl, rfl⟩
  · cases h
noncomputable def laws_markText.O (k : Nat) : Oracle := noO
def laws_markText.fh : FH := ⟨fun i => match i with | 4 => some [(0, 0), (3, 0)] | _ => none, [], false⟩
noncomputable def laws_markText.x0 (k : Nat) (x0 : Int) (x3 : ByteArray) : Option Res := R.exec Try.prog xhn laws_markText.O 0 Try.f119 laws_markText.fh k (R.point Try.f119 4) ⟨[(0, .int .i64 x0), (3, .str x3)], [], 2⟩
set_option maxRecDepth 100000 in
theorem laws_markText.e0 (k : Nat) (x0 : Int) (x3 : ByteArray) : laws_markText.x0 (k + 1) x0 x3 = (if x0 > 0 then (if (strOfNums [(((wr64 (48 + (x0.tmod 10)))) % 256)]).size + x3.size ≤ 9223372036854775807 then (laws_markText.x0 k (wr64 (x0.tdiv 10)) ((strOfNums [(((wr64 (48 + (x0.tmod 10)))) % 256)]) ++ x3)) else none) else (if 1 + x3.size ≤ 9223372036854775807 then (some (laws_markText.en ((⟨#[109]⟩ : ByteArray) ++ x3))) else none)) := by kernel_rfl
set_option maxRecDepth 100000 in
theorem laws_markText.ef (k : Nat) (a0 : Int) : R.start Try.prog xhn laws_markText.O 0 Try.f119 laws_markText.fh k [.int .i64 a0] [] = (if a0 ≤ 0 then (some (laws_markText.en (⟨#[109, 48]⟩ : ByteArray))) else (laws_markText.x0 k a0 (⟨#[]⟩ : ByteArray))) := by kernel_rfl
theorem laws_markText.link : ∀ k, (∀ (x0 : Int) (x3 : ByteArray), laws_markText.x0 k x0 x3 = (laws_markText.l0 k x0 x3).map (laws_markText.en))
  | 0 => fun _ _ => by simp only [laws_markText.l0, R.map_none]; rfl
  | k + 1 => by
    have ih0 := laws_markText.link k
    · intro x0 x3
      rw [laws_markText.e0]
      simp only [laws_markText.l0, R.map_ite, R.map_bind, R.map_none, R.map_some, R.wr64_eq, ← ih0]
theorem laws_markText.sf (k : Nat) (a0 : Int) : R.start Try.prog xhn laws_markText.O 0 Try.f119 laws_markText.fh k [.int .i64 a0] [] = (laws_markText.f k a0).map (laws_markText.en) := by
  have ih0 := laws_markText.link k
  rw [laws_markText.ef]
  simp only [laws_markText.f, R.map_ite, R.map_bind, R.map_none, R.map_some, R.wr64_eq, ← ih0]
theorem laws_markText.ok (k : Nat) : laws_markText.tw.Ok Try.prog k := by
  intro md hmd a r h
  refine fn_ok (H := xhn) (fh := laws_markText.fh) (O := laws_markText.O) (k := k) Try.func119 (by kernel_rfl) (by kernel_rfl) (fun j _ => noO_sound) (by kernel_rfl) (m := 0) rfl ?_
  refine (laws_markText.sf k a).trans ?_
  exact congrArg (Option.map _) h
def laws_markStepS.l0 : Nat → (List Stp) → Int → Int → Option (Int × (List Stp))
  | 0, _, _, _ => none
  | k + 1, y0, x1, x5 => (if x5 < (y0.length : Int) then (if 0 ≤ x5 then ((laws_markText.f k (wrap64 (x1 + 1))).bind fun t1 => (if x5 < ((y0.set x5.toNat (⟨x1, (rdT y0 x5).f1, (rdT y0 x5).f2, (rdT y0 x5).f3⟩ : Stp)).length : Int) then (if x5 < (((y0.set x5.toNat (⟨x1, (rdT y0 x5).f1, (rdT y0 x5).f2, (rdT y0 x5).f3⟩ : Stp)).set x5.toNat (⟨(rdT (y0.set x5.toNat (⟨x1, (rdT y0 x5).f1, (rdT y0 x5).f2, (rdT y0 x5).f3⟩ : Stp)) x5).f0, t1, (rdT (y0.set x5.toNat (⟨x1, (rdT y0 x5).f1, (rdT y0 x5).f2, (rdT y0 x5).f3⟩ : Stp)) x5).f2, (rdT (y0.set x5.toNat (⟨x1, (rdT y0 x5).f1, (rdT y0 x5).f2, (rdT y0 x5).f3⟩ : Stp)) x5).f3⟩ : Stp)).length : Int) then (if x5 < ((((y0.set x5.toNat (⟨x1, (rdT y0 x5).f1, (rdT y0 x5).f2, (rdT y0 x5).f3⟩ : Stp)).set x5.toNat (⟨(rdT (y0.set x5.toNat (⟨x1, (rdT y0 x5).f1, (rdT y0 x5).f2, (rdT y0 x5).f3⟩ : Stp)) x5).f0, t1, (rdT (y0.set x5.toNat (⟨x1, (rdT y0 x5).f1, (rdT y0 x5).f2, (rdT y0 x5).f3⟩ : Stp)) x5).f2, (rdT (y0.set x5.toNat (⟨x1, (rdT y0 x5).f1, (rdT y0 x5).f2, (rdT y0 x5).f3⟩ : Stp)) x5).f3⟩ : Stp)).set x5.toNat (⟨(rdT ((y0.set x5.toNat (⟨x1, (rdT y0 x5).f1, (rdT y0 x5).f2, (rdT y0 x5).f3⟩ : Stp)).set x5.toNat (⟨(rdT (y0.set x5.toNat (⟨x1, (rdT y0 x5).f1, (rdT y0 x5).f2, (rdT y0 x5).f3⟩ : Stp)) x5).f0, t1, (rdT (y0.set x5.toNat (⟨x1, (rdT y0 x5).f1, (rdT y0 x5).f2, (rdT y0 x5).f3⟩ : Stp)) x5).f2, (rdT (y0.set x5.toNat (⟨x1, (rdT y0 x5).f1, (rdT y0 x5).f2, (rdT y0 x5).f3⟩ : Stp)) x5).f3⟩ : Stp)) x5).f0, (rdT ((y0.set x5.toNat (⟨x1, (rdT y0 x5).f1, (rdT y0 x5).f2, (rdT y0 x5).f3⟩ : Stp)).set x5.toNat (⟨(rdT (y0.set x5.toNat (⟨x1, (rdT y0 x5).f1, (rdT y0 x5).f2, (rdT y0 x5).f3⟩ : Stp)) x5).f0, t1, (rdT (y0.set x5.toNat (⟨x1, (rdT y0 x5).f1, (rdT y0 x5).f2, (rdT y0 x5).f3⟩ : Stp)) x5).f2, (rdT (y0.set x5.toNat (⟨x1, (rdT y0 x5).f1, (rdT y0 x5).f2, (rdT y0 x5).f3⟩ : Stp)) x5).f3⟩ : Stp)) x5).f1, (wrap64 ((wrap64 (x1 + 1)) + 1)), (rdT ((y0.set x5.toNat (⟨x1, (rdT y0 x5).f1, (rdT y0 x5).f2, (rdT y0 x5).f3⟩ : Stp)).set x5.toNat (⟨(rdT (y0.set x5.toNat (⟨x1, (rdT y0 x5).f1, (rdT y0 x5).f2, (rdT y0 x5).f3⟩ : Stp)) x5).f0, t1, (rdT (y0.set x5.toNat (⟨x1, (rdT y0 x5).f1, (rdT y0 x5).f2, (rdT y0 x5).f3⟩ : Stp)) x5).f2, (rdT (y0.set x5.toNat (⟨x1, (rdT y0 x5).f1, (rdT y0 x5).f2, (rdT y0 x5).f3⟩ : Stp)) x5).f3⟩ : Stp)) x5).f3⟩ : Stp)).length : Int) then (laws_markStepS.l0 k ((((y0.set x5.toNat (⟨x1, (rdT y0 x5).f1, (rdT y0 x5).f2, (rdT y0 x5).f3⟩ : Stp)).set x5.toNat (⟨(rdT (y0.set x5.toNat (⟨x1, (rdT y0 x5).f1, (rdT y0 x5).f2, (rdT y0 x5).f3⟩ : Stp)) x5).f0, t1, (rdT (y0.set x5.toNat (⟨x1, (rdT y0 x5).f1, (rdT y0 x5).f2, (rdT y0 x5).f3⟩ : Stp)) x5).f2, (rdT (y0.set x5.toNat (⟨x1, (rdT y0 x5).f1, (rdT y0 x5).f2, (rdT y0 x5).f3⟩ : Stp)) x5).f3⟩ : Stp)).set x5.toNat (⟨(rdT ((y0.set x5.toNat (⟨x1, (rdT y0 x5).f1, (rdT y0 x5).f2, (rdT y0 x5).f3⟩ : Stp)).set x5.toNat (⟨(rdT (y0.set x5.toNat (⟨x1, (rdT y0 x5).f1, (rdT y0 x5).f2, (rdT y0 x5).f3⟩ : Stp)) x5).f0, t1, (rdT (y0.set x5.toNat (⟨x1, (rdT y0 x5).f1, (rdT y0 x5).f2, (rdT y0 x5).f3⟩ : Stp)) x5).f2, (rdT (y0.set x5.toNat (⟨x1, (rdT y0 x5).f1, (rdT y0 x5).f2, (rdT y0 x5).f3⟩ : Stp)) x5).f3⟩ : Stp)) x5).f0, (rdT ((y0.set x5.toNat (⟨x1, (rdT y0 x5).f1, (rdT y0 x5).f2, (rdT y0 x5).f3⟩ : Stp)).set x5.toNat (⟨(rdT (y0.set x5.toNat (⟨x1, (rdT y0 x5).f1, (rdT y0 x5).f2, (rdT y0 x5).f3⟩ : Stp)) x5).f0, t1, (rdT (y0.set x5.toNat (⟨x1, (rdT y0 x5).f1, (rdT y0 x5).f2, (rdT y0 x5).f3⟩ : Stp)) x5).f2, (rdT (y0.set x5.toNat (⟨x1, (rdT y0 x5).f1, (rdT y0 x5).f2, (rdT y0 x5).f3⟩ : Stp)) x5).f3⟩ : Stp)) x5).f1, (wrap64 ((wrap64 (x1 + 1)) + 1)), (rdT ((y0.set x5.toNat (⟨x1, (rdT y0 x5).f1, (rdT y0 x5).f2, (rdT y0 x5).f3⟩ : Stp)).set x5.toNat (⟨(rdT (y0.set x5.toNat (⟨x1, (rdT y0 x5).f1, (rdT y0 x5).f2, (rdT y0 x5).f3⟩ : Stp)) x5).f0, t1, (rdT (y0.set x5.toNat (⟨x1, (rdT y0 x5).f1, (rdT y0 x5).f2, (rdT y0 x5).f3⟩ : Stp)) x5).f2, (rdT (y0.set x5.toNat (⟨x1, (rdT y0 x5).f1, (rdT y0 x5).f2, (rdT y0 x5).f3⟩ : Stp)) x5).f3⟩ : Stp)) x5).f3⟩ : Stp)).set x5.toNat (⟨(rdT (((y0.set x5.toNat (⟨x1, (rdT y0 x5).f1, (rdT y0 x5).f2, (rdT y0 x5).f3⟩ : Stp)).set x5.toNat (⟨(rdT (y0.set x5.toNat (⟨x1, (rdT y0 x5).f1, (rdT y0 x5).f2, (rdT y0 x5).f3⟩ : Stp)) x5).f0, t1, (rdT (y0.set x5.toNat (⟨x1, (rdT y0 x5).f1, (rdT y0 x5).f2, (rdT y0 x5).f3⟩ : Stp)) x5).f2, (rdT (y0.set x5.toNat (⟨x1, (rdT y0 x5).f1, (rdT y0 x5).f2, (rdT y0 x5).f3⟩ : Stp)) x5).f3⟩ : Stp)).set x5.toNat (⟨(rdT ((y0.set x5.toNat (⟨x1, (rdT y0 x5).f1, (rdT y0 x5).f2, (rdT y0 x5).f3⟩ : Stp)).set x5.toNat (⟨(rdT (y0.set x5.toNat (⟨x1, (rdT y0 x5).f1, (rdT y0 x5).f2, (rdT y0 x5).f3⟩ : Stp)) x5).f0, t1, (rdT (y0.set x5.toNat (⟨x1, (rdT y0 x5).f1, (rdT y0 x5).f2, (rdT y0 x5).f3⟩ : Stp)) x5).f2, (rdT (y0.set x5.toNat (⟨x1, (rdT y0 x5).f1, (rdT y0 x5).f2, (rdT y0 x5).f3⟩ : Stp)) x5).f3⟩ : Stp)) x5).f0, (rdT ((y0.set x5.toNat (⟨x1, (rdT y0 x5).f1, (rdT y0 x5).f2, (rdT y0 x5).f3⟩ : Stp)).set x5.toNat (⟨(rdT (y0.set x5.toNat (⟨x1, (rdT y0 x5).f1, (rdT y0 x5).f2, (rdT y0 x5).f3⟩ : Stp)) x5).f0, t1, (rdT (y0.set x5.toNat (⟨x1, (rdT y0 x5).f1, (rdT y0 x5).f2, (rdT y0 x5).f3⟩ : Stp)) x5).f2, (rdT (y0.set x5.toNat (⟨x1, (rdT y0 x5).f1, (rdT y0 x5).f2, (rdT y0 x5).f3⟩ : Stp)) x5).f3⟩ : Stp)) x5).f1, (wrap64 ((wrap64 (x1 + 1)) + 1)), (rdT ((y0.set x5.toNat (⟨x1, (rdT y0 x5).f1, (rdT y0 x5).f2, (rdT y0 x5).f3⟩ : Stp)).set x5.toNat (⟨(rdT (y0.set x5.toNat (⟨x1, (rdT y0 x5).f1, (rdT y0 x5).f2, (rdT y0 x5).f3⟩ : Stp)) x5).f0, t1, (rdT (y0.set x5.toNat (⟨x1, (rdT y0 x5).f1, (rdT y0 x5).f2, (rdT y0 x5).f3⟩ : Stp)) x5).f2, (rdT (y0.set x5.toNat (⟨x1, (rdT y0 x5).f1, (rdT y0 x5).f2, (rdT y0 x5).f3⟩ : Stp)) x5).f3⟩ : Stp)) x5).f3⟩ : Stp)) x5).f0, (rdT (((y0.set x5.toNat (⟨x1, (rdT y0 x5).f1, (rdT y0 x5).f2, (rdT y0 x5).f3⟩ : Stp)).set x5.toNat (⟨(rdT (y0.set x5.toNat (⟨x1, (rdT y0 x5).f1, (rdT y0 x5).f2, (rdT y0 x5).f3⟩ : Stp)) x5).f0, t1, (rdT (y0.set x5.toNat (⟨x1, (rdT y0 x5).f1, (rdT y0 x5).f2, (rdT y0 x5).f3⟩ : Stp)) x5).f2, (rdT (y0.set x5.toNat (⟨x1, (rdT y0 x5).f1, (rdT y0 x5).f2, (rdT y0 x5).f3⟩ : Stp)) x5).f3⟩ : Stp)).set x5.toNat (⟨(rdT ((y0.set x5.toNat (⟨x1, (rdT y0 x5).f1, (rdT y0 x5).f2, (rdT y0 x5).f3⟩ : Stp)).set x5.toNat (⟨(rdT (y0.set x5.toNat (⟨x1, (rdT y0 x5).f1, (rdT y0 x5).f2, (rdT y0 x5).f3⟩ : Stp)) x5).f0, t1, (rdT (y0.set x5.toNat (⟨x1, (rdT y0 x5).f1, (rdT y0 x5).f2, (rdT y0 x5).f3⟩ : Stp)) x5).f2, (rdT (y0.set x5.toNat (⟨x1, (rdT y0 x5).f1, (rdT y0 x5).f2, (rdT y0 x5).f3⟩ : Stp)) x5).f3⟩ : Stp)) x5).f0, (rdT ((y0.set x5.toNat (⟨x1, (rdT y0 x5).f1, (rdT y0 x5).f2, (rdT y0 x5).f3⟩ : Stp)).set x5.toNat (⟨(rdT (y0.set x5.toNat (⟨x1, (rdT y0 x5).f1, (rdT y0 x5).f2, (rdT y0 x5).f3⟩ : Stp)) x5).f0, t1, (rdT (y0.set x5.toNat (⟨x1, (rdT y0 x5).f1, (rdT y0 x5).f2, (rdT y0 x5).f3⟩ : Stp)) x5).f2, (rdT (y0.set x5.toNat (⟨x1, (rdT y0 x5).f1, (rdT y0 x5).f2, (rdT y0 x5).f3⟩ : Stp)) x5).f3⟩ : Stp)) x5).f1, (wrap64 ((wrap64 (x1 + 1)) + 1)), (rdT ((y0.set x5.toNat (⟨x1, (rdT y0 x5).f1, (rdT y0 x5).f2, (rdT y0 x5).f3⟩ : Stp)).set x5.toNat (⟨(rdT (y0.set x5.toNat (⟨x1, (rdT y0 x5).f1, (rdT y0 x5).f2, (rdT y0 x5).f3⟩ : Stp)) x5).f0, t1, (rdT (y0.set x5.toNat (⟨x1, (rdT y0 x5).f1, (rdT y0 x5).f2, (rdT y0 x5).f3⟩ : Stp)) x5).f2, (rdT (y0.set x5.toNat (⟨x1, (rdT y0 x5).f1, (rdT y0 x5).f2, (rdT y0 x5).f3⟩ : Stp)) x5).f3⟩ : Stp)) x5).f3⟩ : Stp)) x5).f1, (rdT (((y0.set x5.toNat (⟨x1, (rdT y0 x5).f1, (rdT y0 x5).f2, (rdT y0 x5).f3⟩ : Stp)).set x5.toNat (⟨(rdT (y0.set x5.toNat (⟨x1, (rdT y0 x5).f1, (rdT y0 x5).f2, (rdT y0 x5).f3⟩ : Stp)) x5).f0, t1, (rdT (y0.set x5.toNat (⟨x1, (rdT y0 x5).f1, (rdT y0 x5).f2, (rdT y0 x5).f3⟩ : Stp)) x5).f2, (rdT (y0.set x5.toNat (⟨x1, (rdT y0 x5).f1, (rdT y0 x5).f2, (rdT y0 x5).f3⟩ : Stp)) x5).f3⟩ : Stp)).set x5.toNat (⟨(rdT ((y0.set x5.toNat (⟨x1, (rdT y0 x5).f1, (rdT y0 x5).f2, (rdT y0 x5).f3⟩ : Stp)).set x5.toNat (⟨(rdT (y0.set x5.toNat (⟨x1, (rdT y0 x5).f1, (rdT y0 x5).f2, (rdT y0 x5).f3⟩ : Stp)) x5).f0, t1, (rdT (y0.set x5.toNat (⟨x1, (rdT y0 x5).f1, (rdT y0 x5).f2, (rdT y0 x5).f3⟩ : Stp)) x5).f2, (rdT (y0.set x5.toNat (⟨x1, (rdT y0 x5).f1, (rdT y0 x5).f2, (rdT y0 x5).f3⟩ : Stp)) x5).f3⟩ : Stp)) x5).f0, (rdT ((y0.set x5.toNat (⟨x1, (rdT y0 x5).f1, (rdT y0 x5).f2, (rdT y0 x5).f3⟩ : Stp)).set x5.toNat (⟨(rdT (y0.set x5.toNat (⟨x1, (rdT y0 x5).f1, (rdT y0 x5).f2, (rdT y0 x5).f3⟩ : Stp)) x5).f0, t1, (rdT (y0.set x5.toNat (⟨x1, (rdT y0 x5).f1, (rdT y0 x5).f2, (rdT y0 x5).f3⟩ : Stp)) x5).f2, (rdT (y0.set x5.toNat (⟨x1, (rdT y0 x5).f1, (rdT y0 x5).f2, (rdT y0 x5).f3⟩ : Stp)) x5).f3⟩ : Stp)) x5).f1, (wrap64 ((wrap64 (x1 + 1)) + 1)), (rdT ((y0.set x5.toNat (⟨x1, (rdT y0 x5).f1, (rdT y0 x5).f2, (rdT y0 x5).f3⟩ : Stp)).set x5.toNat (⟨(rdT (y0.set x5.toNat (⟨x1, (rdT y0 x5).f1, (rdT y0 x5).f2, (rdT y0 x5).f3⟩ : Stp)) x5).f0, t1, (rdT (y0.set x5.toNat (⟨x1, (rdT y0 x5).f1, (rdT y0 x5).f2, (rdT y0 x5).f3⟩ : Stp)) x5).f2, (rdT (y0.set x5.toNat (⟨x1, (rdT y0 x5).f1, (rdT y0 x5).f2, (rdT y0 x5).f3⟩ : Stp)) x5).f3⟩ : Stp)) x5).f3⟩ : Stp)) x5).f2, (wrap64 ((wrap64 ((wrap64 (x1 + 1)) + 1)) + 1))⟩ : Stp)) (wrap64 ((wrap64 ((wrap64 ((wrap64 (x1 + 1)) + 1)) + 1)) + 1)) (wrap64 (x5 + 1))) else none) else none) else none)) else none) else (some (x1, y0)))
def laws_markStepS.f (k : Nat) (l2 : List Stp) (a1 : Int) : Option (Int × (List Stp)) := (laws_markStepS.l0 k l2 a1 0)
def laws_markStepS.en (r : Int × (List Stp)) : Res := (.int .i64 r.1, [.arr 67 0 (.T r.2) false])
def laws_markStepS.dec : List AV → List R.Obj → Option ((List Stp) × Int)
  | [.sl 0 0, .int .i64 a1], [.arr 67 0 (.T l2) false] => some (l2, a1)
  | _, _ => none
def laws_markStepS.tw : Tw := ⟨67, (List Stp) × Int, Int × (List Stp), laws_markStepS.dec, fun a => [.sl 0 0, .int .i64 a.2], fun a => [.arr 67 0 (.T a.1) false], fun k a => laws_markStepS.f k a.1 a.2, fun a r => laws_markStepS.en r, true⟩
theorem laws_markStepS.dok : laws_markStepS.tw.DecOk := by
  intro args hc a h
  have h : laws_markStepS.dec args hc = some a := h
  unfold laws_markStepS.dec at h
  split at h
  · cases h; exact ⟨rfl, rfl⟩
  · cases h
noncomputable def laws_markStepS.O (k : Nat) : Oracle := (laws_markText.tw.orc k noO)
def laws_markStepS.fh : FH := ⟨fun i => match i with | 2 => some [(0, 0), (1, 0), (5, 0)] | _ => none, [], false⟩
noncomputable def laws_markStepS.x0 (k : Nat) (y0 : List Stp) (x1 : Int) (x5 : Int) : Option Res := R.exec Try.prog xhn laws_markStepS.O 1 Try.f67 laws_markStepS.fh k (R.point Try.f67 2) ⟨[(0, .sl 0 0), (1, .int .i64 x1), (5, .int .i64 x5)], [(0, .arr 67 0 (.T y0) false)], 3⟩
set_option maxRecDepth 100000 in
theorem laws_markStepS.e0 (k : Nat) (y0 : List Stp) (x1 : Int) (x5 : Int) : laws_markStepS.x0 (k + 1) y0 x1 x5 = (if x5 < (y0.length : Int) then (if 0 ≤ x5 then ((laws_markText.f k (wr64 (x1 + 1))).bind fun t1 => (if x5 < ((y0.set x5.toNat (⟨x1, (rdT y0 x5).f1, (rdT y0 x5).f2, (rdT y0 x5).f3⟩ : Stp)).length : Int) then (if x5 < (((y0.set x5.toNat (⟨x1, (rdT y0 x5).f1, (rdT y0 x5).f2, (rdT y0 x5).f3⟩ : Stp)).set x5.toNat (⟨(rdT (y0.set x5.toNat (⟨x1, (rdT y0 x5).f1, (rdT y0 x5).f2, (rdT y0 x5).f3⟩ : Stp)) x5).f0, t1, (rdT (y0.set x5.toNat (⟨x1, (rdT y0 x5).f1, (rdT y0 x5).f2, (rdT y0 x5).f3⟩ : Stp)) x5).f2, (rdT (y0.set x5.toNat (⟨x1, (rdT y0 x5).f1, (rdT y0 x5).f2, (rdT y0 x5).f3⟩ : Stp)) x5).f3⟩ : Stp)).length : Int) then (if x5 < ((((y0.set x5.toNat (⟨x1, (rdT y0 x5).f1, (rdT y0 x5).f2, (rdT y0 x5).f3⟩ : Stp)).set x5.toNat (⟨(rdT (y0.set x5.toNat (⟨x1, (rdT y0 x5).f1, (rdT y0 x5).f2, (rdT y0 x5).f3⟩ : Stp)) x5).f0, t1, (rdT (y0.set x5.toNat (⟨x1, (rdT y0 x5).f1, (rdT y0 x5).f2, (rdT y0 x5).f3⟩ : Stp)) x5).f2, (rdT (y0.set x5.toNat (⟨x1, (rdT y0 x5).f1, (rdT y0 x5).f2, (rdT y0 x5).f3⟩ : Stp)) x5).f3⟩ : Stp)).set x5.toNat (⟨(rdT ((y0.set x5.toNat (⟨x1, (rdT y0 x5).f1, (rdT y0 x5).f2, (rdT y0 x5).f3⟩ : Stp)).set x5.toNat (⟨(rdT (y0.set x5.toNat (⟨x1, (rdT y0 x5).f1, (rdT y0 x5).f2, (rdT y0 x5).f3⟩ : Stp)) x5).f0, t1, (rdT (y0.set x5.toNat (⟨x1, (rdT y0 x5).f1, (rdT y0 x5).f2, (rdT y0 x5).f3⟩ : Stp)) x5).f2, (rdT (y0.set x5.toNat (⟨x1, (rdT y0 x5).f1, (rdT y0 x5).f2, (rdT y0 x5).f3⟩ : Stp)) x5).f3⟩ : Stp)) x5).f0, (rdT ((y0.set x5.toNat (⟨x1, (rdT y0 x5).f1, (rdT y0 x5).f2, (rdT y0 x5).f3⟩ : Stp)).set x5.toNat (⟨(rdT (y0.set x5.toNat (⟨x1, (rdT y0 x5).f1, (rdT y0 x5).f2, (rdT y0 x5).f3⟩ : Stp)) x5).f0, t1, (rdT (y0.set x5.toNat (⟨x1, (rdT y0 x5).f1, (rdT y0 x5).f2, (rdT y0 x5).f3⟩ : Stp)) x5).f2, (rdT (y0.set x5.toNat (⟨x1, (rdT y0 x5).f1, (rdT y0 x5).f2, (rdT y0 x5).f3⟩ : Stp)) x5).f3⟩ : Stp)) x5).f1, (wr64 ((wr64 (x1 + 1)) + 1)), (rdT ((y0.set x5.toNat (⟨x1, (rdT y0 x5).f1, (rdT y0 x5).f2, (rdT y0 x5).f3⟩ : Stp)).set x5.toNat (⟨(rdT (y0.set x5.toNat (⟨x1, (rdT y0 x5).f1, (rdT y0 x5).f2, (rdT y0 x5).f3⟩ : Stp)) x5).f0, t1, (rdT (y0.set x5.toNat (⟨x1, (rdT y0 x5).f1, (rdT y0 x5).f2, (rdT y0 x5).f3⟩ : Stp)) x5).f2, (rdT (y0.set x5.toNat (⟨x1, (rdT y0 x5).f1, (rdT y0 x5).f2, (rdT y0 x5).f3⟩ : Stp)) x5).f3⟩ : Stp)) x5).f3⟩ : Stp)).length : Int) then (laws_markStepS.x0 k ((((y0.set x5.toNat (⟨x1, (rdT y0 x5).f1, (rdT y0 x5).f2, (rdT y0 x5).f3⟩ : Stp)).set x5.toNat (⟨(rdT (y0.set x5.toNat (⟨x1, (rdT y0 x5).f1, (rdT y0 x5).f2, (rdT y0 x5).f3⟩ : Stp)) x5).f0, t1, (rdT (y0.set x5.toNat (⟨x1, (rdT y0 x5).f1, (rdT y0 x5).f2, (rdT y0 x5).f3⟩ : Stp)) x5).f2, (rdT (y0.set x5.toNat (⟨x1, (rdT y0 x5).f1, (rdT y0 x5).f2, (rdT y0 x5).f3⟩ : Stp)) x5).f3⟩ : Stp)).set x5.toNat (⟨(rdT ((y0.set x5.toNat (⟨x1, (rdT y0 x5).f1, (rdT y0 x5).f2, (rdT y0 x5).f3⟩ : Stp)).set x5.toNat (⟨(rdT (y0.set x5.toNat (⟨x1, (rdT y0 x5).f1, (rdT y0 x5).f2, (rdT y0 x5).f3⟩ : Stp)) x5).f0, t1, (rdT (y0.set x5.toNat (⟨x1, (rdT y0 x5).f1, (rdT y0 x5).f2, (rdT y0 x5).f3⟩ : Stp)) x5).f2, (rdT (y0.set x5.toNat (⟨x1, (rdT y0 x5).f1, (rdT y0 x5).f2, (rdT y0 x5).f3⟩ : Stp)) x5).f3⟩ : Stp)) x5).f0, (rdT ((y0.set x5.toNat (⟨x1, (rdT y0 x5).f1, (rdT y0 x5).f2, (rdT y0 x5).f3⟩ : Stp)).set x5.toNat (⟨(rdT (y0.set x5.toNat (⟨x1, (rdT y0 x5).f1, (rdT y0 x5).f2, (rdT y0 x5).f3⟩ : Stp)) x5).f0, t1, (rdT (y0.set x5.toNat (⟨x1, (rdT y0 x5).f1, (rdT y0 x5).f2, (rdT y0 x5).f3⟩ : Stp)) x5).f2, (rdT (y0.set x5.toNat (⟨x1, (rdT y0 x5).f1, (rdT y0 x5).f2, (rdT y0 x5).f3⟩ : Stp)) x5).f3⟩ : Stp)) x5).f1, (wr64 ((wr64 (x1 + 1)) + 1)), (rdT ((y0.set x5.toNat (⟨x1, (rdT y0 x5).f1, (rdT y0 x5).f2, (rdT y0 x5).f3⟩ : Stp)).set x5.toNat (⟨(rdT (y0.set x5.toNat (⟨x1, (rdT y0 x5).f1, (rdT y0 x5).f2, (rdT y0 x5).f3⟩ : Stp)) x5).f0, t1, (rdT (y0.set x5.toNat (⟨x1, (rdT y0 x5).f1, (rdT y0 x5).f2, (rdT y0 x5).f3⟩ : Stp)) x5).f2, (rdT (y0.set x5.toNat (⟨x1, (rdT y0 x5).f1, (rdT y0 x5).f2, (rdT y0 x5).f3⟩ : Stp)) x5).f3⟩ : Stp)) x5).f3⟩ : Stp)).set x5.toNat (⟨(rdT (((y0.set x5.toNat (⟨x1, (rdT y0 x5).f1, (rdT y0 x5).f2, (rdT y0 x5).f3⟩ : Stp)).set x5.toNat (⟨(rdT (y0.set x5.toNat (⟨x1, (rdT y0 x5).f1, (rdT y0 x5).f2, (rdT y0 x5).f3⟩ : Stp)) x5).f0, t1, (rdT (y0.set x5.toNat (⟨x1, (rdT y0 x5).f1, (rdT y0 x5).f2, (rdT y0 x5).f3⟩ : Stp)) x5).f2, (rdT (y0.set x5.toNat (⟨x1, (rdT y0 x5).f1, (rdT y0 x5).f2, (rdT y0 x5).f3⟩ : Stp)) x5).f3⟩ : Stp)).set x5.toNat (⟨(rdT ((y0.set x5.toNat (⟨x1, (rdT y0 x5).f1, (rdT y0 x5).f2, (rdT y0 x5).f3⟩ : Stp)).set x5.toNat (⟨(rdT (y0.set x5.toNat (⟨x1, (rdT y0 x5).f1, (rdT y0 x5).f2, (rdT y0 x5).f3⟩ : Stp)) x5).f0, t1, (rdT (y0.set x5.toNat (⟨x1, (rdT y0 x5).f1, (rdT y0 x5).f2, (rdT y0 x5).f3⟩ : Stp)) x5).f2, (rdT (y0.set x5.toNat (⟨x1, (rdT y0 x5).f1, (rdT y0 x5).f2, (rdT y0 x5).f3⟩ : Stp)) x5).f3⟩ : Stp)) x5).f0, (rdT ((y0.set x5.toNat (⟨x1, (rdT y0 x5).f1, (rdT y0 x5).f2, (rdT y0 x5).f3⟩ : Stp)).set x5.toNat (⟨(rdT (y0.set x5.toNat (⟨x1, (rdT y0 x5).f1, (rdT y0 x5).f2, (rdT y0 x5).f3⟩ : Stp)) x5).f0, t1, (rdT (y0.set x5.toNat (⟨x1, (rdT y0 x5).f1, (rdT y0 x5).f2, (rdT y0 x5).f3⟩ : Stp)) x5).f2, (rdT (y0.set x5.toNat (⟨x1, (rdT y0 x5).f1, (rdT y0 x5).f2, (rdT y0 x5).f3⟩ : Stp)) x5).f3⟩ : Stp)) x5).f1, (wr64 ((wr64 (x1 + 1)) + 1)), (rdT ((y0.set x5.toNat (⟨x1, (rdT y0 x5).f1, (rdT y0 x5).f2, (rdT y0 x5).f3⟩ : Stp)).set x5.toNat (⟨(rdT (y0.set x5.toNat (⟨x1, (rdT y0 x5).f1, (rdT y0 x5).f2, (rdT y0 x5).f3⟩ : Stp)) x5).f0, t1, (rdT (y0.set x5.toNat (⟨x1, (rdT y0 x5).f1, (rdT y0 x5).f2, (rdT y0 x5).f3⟩ : Stp)) x5).f2, (rdT (y0.set x5.toNat (⟨x1, (rdT y0 x5).f1, (rdT y0 x5).f2, (rdT y0 x5).f3⟩ : Stp)) x5).f3⟩ : Stp)) x5).f3⟩ : Stp)) x5).f0, (rdT (((y0.set x5.toNat (⟨x1, (rdT y0 x5).f1, (rdT y0 x5).f2, (rdT y0 x5).f3⟩ : Stp)).set x5.toNat (⟨(rdT (y0.set x5.toNat (⟨x1, (rdT y0 x5).f1, (rdT y0 x5).f2, (rdT y0 x5).f3⟩ : Stp)) x5).f0, t1, (rdT (y0.set x5.toNat (⟨x1, (rdT y0 x5).f1, (rdT y0 x5).f2, (rdT y0 x5).f3⟩ : Stp)) x5).f2, (rdT (y0.set x5.toNat (⟨x1, (rdT y0 x5).f1, (rdT y0 x5).f2, (rdT y0 x5).f3⟩ : Stp)) x5).f3⟩ : Stp)).set x5.toNat (⟨(rdT ((y0.set x5.toNat (⟨x1, (rdT y0 x5).f1, (rdT y0 x5).f2, (rdT y0 x5).f3⟩ : Stp)).set x5.toNat (⟨(rdT (y0.set x5.toNat (⟨x1, (rdT y0 x5).f1, (rdT y0 x5).f2, (rdT y0 x5).f3⟩ : Stp)) x5).f0, t1, (rdT (y0.set x5.toNat (⟨x1, (rdT y0 x5).f1, (rdT y0 x5).f2, (rdT y0 x5).f3⟩ : Stp)) x5).f2, (rdT (y0.set x5.toNat (⟨x1, (rdT y0 x5).f1, (rdT y0 x5).f2, (rdT y0 x5).f3⟩ : Stp)) x5).f3⟩ : Stp)) x5).f0, (rdT ((y0.set x5.toNat (⟨x1, (rdT y0 x5).f1, (rdT y0 x5).f2, (rdT y0 x5).f3⟩ : Stp)).set x5.toNat (⟨(rdT (y0.set x5.toNat (⟨x1, (rdT y0 x5).f1, (rdT y0 x5).f2, (rdT y0 x5).f3⟩ : Stp)) x5).f0, t1, (rdT (y0.set x5.toNat (⟨x1, (rdT y0 x5).f1, (rdT y0 x5).f2, (rdT y0 x5).f3⟩ : Stp)) x5).f2, (rdT (y0.set x5.toNat (⟨x1, (rdT y0 x5).f1, (rdT y0 x5).f2, (rdT y0 x5).f3⟩ : Stp)) x5).f3⟩ : Stp)) x5).f1, (wr64 ((wr64 (x1 + 1)) + 1)), (rdT ((y0.set x5.toNat (⟨x1, (rdT y0 x5).f1, (rdT y0 x5).f2, (rdT y0 x5).f3⟩ : Stp)).set x5.toNat (⟨(rdT (y0.set x5.toNat (⟨x1, (rdT y0 x5).f1, (rdT y0 x5).f2, (rdT y0 x5).f3⟩ : Stp)) x5).f0, t1, (rdT (y0.set x5.toNat (⟨x1, (rdT y0 x5).f1, (rdT y0 x5).f2, (rdT y0 x5).f3⟩ : Stp)) x5).f2, (rdT (y0.set x5.toNat (⟨x1, (rdT y0 x5).f1, (rdT y0 x5).f2, (rdT y0 x5).f3⟩ : Stp)) x5).f3⟩ : Stp)) x5).f3⟩ : Stp)) x5).f1, (rdT (((y0.set x5.toNat (⟨x1, (rdT y0 x5).f1, (rdT y0 x5).f2, (rdT y0 x5).f3⟩ : Stp)).set x5.toNat (⟨(rdT (y0.set x5.toNat (⟨x1, (rdT y0 x5).f1, (rdT y0 x5).f2, (rdT y0 x5).f3⟩ : Stp)) x5).f0, t1, (rdT (y0.set x5.toNat (⟨x1, (rdT y0 x5).f1, (rdT y0 x5).f2, (rdT y0 x5).f3⟩ : Stp)) x5).f2, (rdT (y0.set x5.toNat (⟨x1, (rdT y0 x5).f1, (rdT y0 x5).f2, (rdT y0 x5).f3⟩ : Stp)) x5).f3⟩ : Stp)).set x5.toNat (⟨(rdT ((y0.set x5.toNat (⟨x1, (rdT y0 x5).f1, (rdT y0 x5).f2, (rdT y0 x5).f3⟩ : Stp)).set x5.toNat (⟨(rdT (y0.set x5.toNat (⟨x1, (rdT y0 x5).f1, (rdT y0 x5).f2, (rdT y0 x5).f3⟩ : Stp)) x5).f0, t1, (rdT (y0.set x5.toNat (⟨x1, (rdT y0 x5).f1, (rdT y0 x5).f2, (rdT y0 x5).f3⟩ : Stp)) x5).f2, (rdT (y0.set x5.toNat (⟨x1, (rdT y0 x5).f1, (rdT y0 x5).f2, (rdT y0 x5).f3⟩ : Stp)) x5).f3⟩ : Stp)) x5).f0, (rdT ((y0.set x5.toNat (⟨x1, (rdT y0 x5).f1, (rdT y0 x5).f2, (rdT y0 x5).f3⟩ : Stp)).set x5.toNat (⟨(rdT (y0.set x5.toNat (⟨x1, (rdT y0 x5).f1, (rdT y0 x5).f2, (rdT y0 x5).f3⟩ : Stp)) x5).f0, t1, (rdT (y0.set x5.toNat (⟨x1, (rdT y0 x5).f1, (rdT y0 x5).f2, (rdT y0 x5).f3⟩ : Stp)) x5).f2, (rdT (y0.set x5.toNat (⟨x1, (rdT y0 x5).f1, (rdT y0 x5).f2, (rdT y0 x5).f3⟩ : Stp)) x5).f3⟩ : Stp)) x5).f1, (wr64 ((wr64 (x1 + 1)) + 1)), (rdT ((y0.set x5.toNat (⟨x1, (rdT y0 x5).f1, (rdT y0 x5).f2, (rdT y0 x5).f3⟩ : Stp)).set x5.toNat (⟨(rdT (y0.set x5.toNat (⟨x1, (rdT y0 x5).f1, (rdT y0 x5).f2, (rdT y0 x5).f3⟩ : Stp)) x5).f0, t1, (rdT (y0.set x5.toNat (⟨x1, (rdT y0 x5).f1, (rdT y0 x5).f2, (rdT y0 x5).f3⟩ : Stp)) x5).f2, (rdT (y0.set x5.toNat (⟨x1, (rdT y0 x5).f1, (rdT y0 x5).f2, (rdT y0 x5).f3⟩ : Stp)) x5).f3⟩ : Stp)) x5).f3⟩ : Stp)) x5).f2, (wr64 ((wr64 ((wr64 (x1 + 1)) + 1)) + 1))⟩ : Stp)) (wr64 ((wr64 ((wr64 ((wr64 (x1 + 1)) + 1)) + 1)) + 1)) (wr64 (x5 + 1))) else none) else none) else none)) else none) else (some (laws_markStepS.en (x1, y0)))) := by
  refine Eq.trans ?_ (R.icong (fun h0 => (R.icong (fun h1 => (R.idropT (p := x5 < (y0.length : Int)) (z := none) h0 (R.bcong fun t1 => (R.idropT (p := 0 ≤ x5) (z := none) h1 (R.icong (fun h2 => (R.idropT (p := 0 ≤ x5) (z := none) h1 (R.icong (fun h3 => (R.idropT (p := 0 ≤ x5) (z := none) h1 rfl)) (fun h3 => rfl)))) (fun h2 => rfl)))))) (fun h1 => rfl))) (fun h0 => rfl))
  kernel_rfl
set_option maxRecDepth 100000 in
theorem laws_markStepS.ef (k : Nat) (l2 : List Stp) (a1 : Int) : R.start Try.prog xhn laws_markStepS.O 1 Try.f67 laws_markStepS.fh k [.sl 0 0, .int .i64 a1] [.arr 67 0 (.T l2) false] = (laws_markStepS.x0 k l2 a1 0) := by kernel_rfl
theorem laws_markStepS.link : ∀ k, (∀ (y0 : List Stp) (x1 : Int) (x5 : Int), laws_markStepS.x0 k y0 x1 x5 = (laws_markStepS.l0 k y0 x1 x5).map (laws_markStepS.en))
  | 0 => fun _ _ _ => by simp only [laws_markStepS.l0, R.map_none]; rfl
  | k + 1 => by
    have ih0 := laws_markStepS.link k
    · intro y0 x1 x5
      rw [laws_markStepS.e0]
      simp only [laws_markStepS.l0, R.map_ite, R.map_bind, R.map_none, R.map_some, R.wr64_eq, ← ih0]
theorem laws_markStepS.sf (k : Nat) (l2 : List Stp) (a1 : Int) : R.start Try.prog xhn laws_markStepS.O 1 Try.f67 laws_markStepS.fh k [.sl 0 0, .int .i64 a1] [.arr 67 0 (.T l2) false] = (laws_markStepS.f k l2 a1).map (laws_markStepS.en) := by
  have ih0 := laws_markStepS.link k
  rw [laws_markStepS.ef]
  simp only [laws_markStepS.f, R.map_ite, R.map_bind, R.map_none, R.map_some, R.wr64_eq, ← ih0]
theorem laws_markStepS.ok (k : Nat) : laws_markStepS.tw.Ok Try.prog k := by
  intro md hmd a r h
  refine fn_ok (H := xhn) (fh := laws_markStepS.fh) (O := laws_markStepS.O) (k := k) Try.func67 (by kernel_rfl) (by kernel_rfl) (fun j _ => (Tw.orc_sound laws_markText.dok (laws_markText.ok j) (fun _ => rfl) noO_sound)) (by kernel_rfl) (m := 1) rfl ?_
  refine (laws_markStepS.sf k a.1 a.2).trans ?_
  exact congrArg (Option.map _) h
def laws_markAutomaton.f (k : Nat) (a0_0 : Int) (l2 : List Int) (l3 : List Int) (l4 : List Stp) (a1 : Int) : Option (Int × (List Int) × (List Int) × (List Stp)) := ((laws_markIntS.f k l2 a1).bind fun t1 => ((laws_markIntS.f k l3 t1.1).bind fun t2 => ((laws_markStepS.f k l4 t2.1).bind fun t3 => (some (t3.1, t1.2, t2.2, t3.2)))))
def laws_markAutomaton.en (r : Int × (List Int) × (List Int) × (List Stp)) : Res := (.int .i64 r.1, [.arr 3 0 (.I .i64 r.2.1) false, .arr 3 0 (.I .i64 r.2.2.1) false, .arr 67 0 (.T r.2.2.2) false])
def laws_markAutomaton.dec : List AV → List R.Obj → Option (Int × (List Int) × (List Int) × (List Stp) × Int)
  | [.agg [.int .i64 a0_0, .sl 0 0, .sl 1 0, .sl 2 0], .int .i64 a1], [.arr 3 0 (.I .i64 l2) false, .arr 3 0 (.I .i64 l3) false, .arr 67 0 (.T l4) false] => some (a0_0, l2, l3, l4, a1)
  | _, _ => none
def laws_markAutomaton.tw : Tw := ⟨20, Int × (List Int) × (List Int) × (List Stp) × Int, Int × (List Int) × (List Int) × (List Stp), laws_markAutomaton.dec, fun a => [.agg [.int .i64 a.1, .sl 0 0, .sl 1 0, .sl 2 0], .int .i64 a.2.2.2.2], fun a => [.arr 3 0 (.I .i64 a.2.1) false, .arr 3 0 (.I .i64 a.2.2.1) false, .arr 67 0 (.T a.2.2.2.1) false], fun k a => laws_markAutomaton.f k a.1 a.2.1 a.2.2.1 a.2.2.2.1 a.2.2.2.2, fun a r => laws_markAutomaton.en r, true⟩
theorem laws_markAutomaton.dok : laws_markAutomaton.tw.DecOk := by
  intro args hc a h
  have h : laws_markAutomaton.dec args hc = some a := h
  unfold laws_markAutomaton.dec at h
  split at h
  · cases h; exact ⟨rfl, rfl⟩
  · cases h
noncomputable def laws_markAutomaton.O (k : Nat) : Oracle := (laws_markIntS.tw.orc k (laws_markStepS.tw.orc k noO))
def laws_markAutomaton.fh : FH := ⟨fun i => match i with | _ => none, [], false⟩
set_option maxRecDepth 100000 in
theorem laws_markAutomaton.ef (k : Nat) (a0_0 : Int) (l2 : List Int) (l3 : List Int) (l4 : List Stp) (a1 : Int) : R.start Try.prog xhn laws_markAutomaton.O 3 Try.f20 laws_markAutomaton.fh k [.agg [.int .i64 a0_0, .sl 0 0, .sl 1 0, .sl 2 0], .int .i64 a1] [.arr 3 0 (.I .i64 l2) false, .arr 3 0 (.I .i64 l3) false, .arr 67 0 (.T l4) false] = ((laws_markIntS.f k l2 a1).bind fun t1 => ((laws_markIntS.f k l3 t1.1).bind fun t2 => ((laws_markStepS.f k l4 t2.1).bind fun t3 => (some (laws_markAutomaton.en (t3.1, t1.2, t2.2, t3.2)))))) := by kernel_rfl
theorem laws_markAutomaton.sf (k : Nat) (a0_0 : Int) (l2 : List Int) (l3 : List Int) (l4 : List Stp) (a1 : Int) : R.start Try.prog xhn laws_markAutomaton.O 3 Try.f20 laws_markAutomaton.fh k [.agg [.int .i64 a0_0, .sl 0 0, .sl 1 0, .sl 2 0], .int .i64 a1] [.arr 3 0 (.I .i64 l2) false, .arr 3 0 (.I .i64 l3) false, .arr 67 0 (.T l4) false] = (laws_markAutomaton.f k a0_0 l2 l3 l4 a1).map (laws_markAutomaton.en) := by
  rw [laws_markAutomaton.ef]
  simp only [laws_markAutomaton.f, R.map_ite, R.map_bind, R.map_none, R.map_some, R.wr64_eq]
theorem laws_markAutomaton.ok (k : Nat) : laws_markAutomaton.tw.Ok Try.prog k := by
  intro md hmd a r h
  refine fn_ok (H := xhn) (fh := laws_markAutomaton.fh) (O := laws_markAutomaton.O) (k := k) Try.func20 (by kernel_rfl) (by kernel_rfl) (fun j _ => (Tw.orc_sound laws_markIntS.dok (laws_markIntS.ok j) (fun _ => rfl) (Tw.orc_sound laws_markStepS.dok (laws_markStepS.ok j) (fun _ => rfl) noO_sound))) (by kernel_rfl) (m := 3) rfl ?_
  refine (laws_markAutomaton.sf k a.1 a.2.1 a.2.2.1 a.2.2.2.1 a.2.2.2.2).trans ?_
  exact congrArg (Option.map _) h
end Go.Proofs.Ytoeeeafknajkkaa.V
end
