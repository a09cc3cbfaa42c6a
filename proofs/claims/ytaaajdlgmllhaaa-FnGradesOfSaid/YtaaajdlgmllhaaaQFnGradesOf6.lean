import Derived.Test.YtaaajdlgmllhaaaQFnGradesOf5
import Derived.Test.YtaaajdlgmllhaaaQFnGradesOf2
import Derived.Test.YtaaajdlgmllhaaaQFnGradesOf4
import Derived.Test.YtaaajdlgmllhaaaProg
import Derived.WalkKit
import Derived.ProofKit
import Derived.Lib.Bytealg
section
set_option linter.unusedVariables false
set_option linter.unusedSimpArgs false
namespace Go.Proofs.Ytaaajdlgmllhaaa.V
open Go Go.Proofs.Ytaaajdlgmllhaaa.R Go.RowKit
def impl_StepMatrix.l0 : Nat → ByteArray → (List Stp) → Int → Int → Int → (List Int) → Option (Int × (List Int) × Bool)
  | 0, _, _, _, _, _, _ => none
  | k + 1, x1, x25, x26, x27, y1_0, y3 => (if x27 < x26 then (if 0 ≤ x27 then (if x27 < (x25.length : Int) then (if (rdT x25 x27).f1.toList = x1.toList then (if 0 ≤ (wrap64 ((wrap64 ((rdT x25 x27).f0 * y1_0)) + (rdT x25 x27).f2)) then (if (wrap64 ((wrap64 ((rdT x25 x27).f0 * y1_0)) + (rdT x25 x27).f2)) < (y3.length : Int) then (impl_StepMatrix.l0 k x1 x25 x26 (wrap64 (x27 + 1)) y1_0 (y3.set (wrap64 ((wrap64 ((rdT x25 x27).f0 * y1_0)) + (rdT x25 x27).f2)).toNat (rdT x25 x27).f3)) else none) else none) else (impl_StepMatrix.l0 k x1 x25 x26 (wrap64 (x27 + 1)) y1_0 y3)) else none) else none) else (some (y1_0, y3, true)))
def impl_StepMatrix.f (k : Nat) (a0_0 : Int) (l0_1 : List Int) (l0_2 : List Int) (l0_3 : List Stp) (a1 : ByteArray) : Option (Int × (List Int) × Bool) := ((impl_AutomatonValid.f k a0_0 l0_1 l0_2 l0_3).bind fun t1 => (if t1 = true then (if a1.toList = ([97] : List UInt8) then ((impl_filled_b.f k a0_0).bind fun t2 => (impl_StepMatrix.l0 k a1 l0_3 (l0_3.length : Int) 0 t2.1 t2.2)) else (if a1.toList = ([98] : List UInt8) then ((impl_filled_b.f k a0_0).bind fun t3 => (impl_StepMatrix.l0 k a1 l0_3 (l0_3.length : Int) 0 t3.1 t3.2)) else (some (0, ([] : List Int), false)))) else (some (0, ([] : List Int), false))))
def impl_StepMatrix.en (r : Int × (List Int) × Bool) : Res := (.tup [.agg [.int .i64 r.1, .sl 0 0], .lit r.2.2], [.arr 3 0 (.I .i64 r.2.1) false])
def impl_StepMatrix.dec : List AV → List R.Obj → Option (Int × (List Int) × (List Int) × (List Stp) × ByteArray)
  | [.agg [.int .i64 a0_0, .imm (.I .i64 l0_1), .imm (.I .i64 l0_2), .imm (.T l0_3)], .str a1], [] => some (a0_0, l0_1, l0_2, l0_3, a1)
  | _, _ => none
def impl_StepMatrix.tw : Tw := ⟨43, Int × (List Int) × (List Int) × (List Stp) × ByteArray, Int × (List Int) × Bool, impl_StepMatrix.dec, fun a => [.agg [.int .i64 a.1, .imm (.I .i64 a.2.1), .imm (.I .i64 a.2.2.1), .imm (.T a.2.2.2.1)], .str a.2.2.2.2], fun a => [], fun k a => impl_StepMatrix.f k a.1 a.2.1 a.2.2.1 a.2.2.2.1 a.2.2.2.2, fun a r => impl_StepMatrix.en r⟩
theorem impl_StepMatrix.dok : impl_StepMatrix.tw.DecOk := by
  intro args hc a h
  have h : impl_StepMatrix.dec args hc = some a := h
  unfold impl_StepMatrix.dec at h
  split at h
  · cases h; exact ⟨rfl, rfl⟩
  · cases h
noncomputable def impl_StepMatrix.O (k : Nat) : Oracle := (impl_AutomatonValid.tw.orc k (impl_filled_b.tw.orc k noO))
def impl_StepMatrix.fh : FH := ⟨fun i => match i with | 5 => some [(1, 0), (4, 0), (6, 0), (25, 0), (26, 0), (27, 0)] | _ => none, [(true, 3)], false⟩
noncomputable def impl_StepMatrix.x0 (k : Nat) (x1 : ByteArray) (x25 : List Stp) (x26 : Int) (x27 : Int) (y1_0 : Int) (y3 : List Int) : Option Res := R.exec Try.prog xhn impl_StepMatrix.O 0 Try.f43 impl_StepMatrix.fh k (R.point Try.f43 5) ⟨[(1, .str x1), (4, .ptr 0 0), (6, .ptr 1 0), (25, .imm (.T x25)), (26, .int .i64 x26), (27, .int .i64 x27)], [(0, .box false [.int .i64 0, .sl 2 0]), (1, .box false [.int .i64 y1_0, .sl 3 0]), (2, .arr 3 0 (.I .i64 ([] : List Int)) false), (3, .arr 3 0 (.I .i64 y3) false)], 6⟩
set_option maxRecDepth 100000 in
theorem impl_StepMatrix.e0 (k : Nat) (x1 : ByteArray) (x25 : List Stp) (x26 : Int) (x27 : Int) (y1_0 : Int) (y3 : List Int) : impl_StepMatrix.x0 (k + 1) x1 x25 x26 x27 y1_0 y3 = (if x27 < x26 then (if 0 ≤ x27 then (if x27 < (x25.length : Int) then (if (rdT x25 x27).f1.toList = x1.toList then (if 0 ≤ (wrap64 ((wrap64 ((rdT x25 x27).f0 * y1_0)) + (rdT x25 x27).f2)) then (if (wrap64 ((wrap64 ((rdT x25 x27).f0 * y1_0)) + (rdT x25 x27).f2)) < (y3.length : Int) then (impl_StepMatrix.x0 k x1 x25 x26 (wrap64 (x27 + 1)) y1_0 (y3.set (wrap64 ((wrap64 ((rdT x25 x27).f0 * y1_0)) + (rdT x25 x27).f2)).toNat (rdT x25 x27).f3)) else none) else none) else (impl_StepMatrix.x0 k x1 x25 x26 (wrap64 (x27 + 1)) y1_0 y3)) else none) else none) else (some (impl_StepMatrix.en (y1_0, y3, true)))) := by kernel_rfl
set_option maxRecDepth 100000 in
theorem impl_StepMatrix.ef (k : Nat) (a0_0 : Int) (l0_1 : List Int) (l0_2 : List Int) (l0_3 : List Stp) (a1 : ByteArray) : R.start Try.prog xhn impl_StepMatrix.O 0 Try.f43 impl_StepMatrix.fh k [.agg [.int .i64 a0_0, .imm (.I .i64 l0_1), .imm (.I .i64 l0_2), .imm (.T l0_3)], .str a1] [] = ((impl_AutomatonValid.f k a0_0 l0_1 l0_2 l0_3).bind fun t1 => (if t1 = true then (if a1.toList = ([97] : List UInt8) then ((impl_filled_b.f k a0_0).bind fun t2 => (impl_StepMatrix.x0 k a1 l0_3 (l0_3.length : Int) 0 t2.1 t2.2)) else (if a1.toList = ([98] : List UInt8) then ((impl_filled_b.f k a0_0).bind fun t3 => (impl_StepMatrix.x0 k a1 l0_3 (l0_3.length : Int) 0 t3.1 t3.2)) else (some (impl_StepMatrix.en (0, ([] : List Int), false))))) else (some (impl_StepMatrix.en (0, ([] : List Int), false))))) := by kernel_rfl
theorem impl_StepMatrix.link : ∀ k, (∀ (x1 : ByteArray) (x25 : List Stp) (x26 : Int) (x27 : Int) (y1_0 : Int) (y3 : List Int), impl_StepMatrix.x0 k x1 x25 x26 x27 y1_0 y3 = (impl_StepMatrix.l0 k x1 x25 x26 x27 y1_0 y3).map (impl_StepMatrix.en))
  | 0 => fun _ _ _ _ _ _ => by simp only [impl_StepMatrix.l0, R.map_none]; rfl
  | k + 1 => by
    have ih0 := impl_StepMatrix.link k
    · intro x1 x25 x26 x27 y1_0 y3
      rw [impl_StepMatrix.e0]
      simp only [impl_StepMatrix.l0, R.map_ite, R.map_bind, R.map_none, R.map_some, ← ih0]
theorem impl_StepMatrix.sf (k : Nat) (a0_0 : Int) (l0_1 : List Int) (l0_2 : List Int) (l0_3 : List Stp) (a1 : ByteArray) : R.start Try.prog xhn impl_StepMatrix.O 0 Try.f43 impl_StepMatrix.fh k [.agg [.int .i64 a0_0, .imm (.I .i64 l0_1), .imm (.I .i64 l0_2), .imm (.T l0_3)], .str a1] [] = (impl_StepMatrix.f k a0_0 l0_1 l0_2 l0_3 a1).map (impl_StepMatrix.en) := by
  have ih0 := impl_StepMatrix.link k
  rw [impl_StepMatrix.ef]
  simp only [impl_StepMatrix.f, R.map_ite, R.map_bind, R.map_none, R.map_some, ← ih0]
theorem impl_StepMatrix.ok (k : Nat) : impl_StepMatrix.tw.Ok Try.prog k := by
  intro a r h
  refine fn_ok (H := xhn) (fh := impl_StepMatrix.fh) (O := impl_StepMatrix.O) (k := k) Try.func43 (by kernel_rfl) (by kernel_rfl) (fun j _ => (Tw.orc_sound impl_AutomatonValid.dok (impl_AutomatonValid.ok j) (Tw.orc_sound impl_filled_b.dok (impl_filled_b.ok j) noO_sound))) (by kernel_rfl) (m := 0) rfl ?_
  refine (impl_StepMatrix.sf k a.1 a.2.1 a.2.2.1 a.2.2.2.1 a.2.2.2.2).trans ?_
  exact congrArg (Option.map _) h
def impl_CostValid.f (a0 : Int) : Option (Bool) := (if a0 ≥ 0 then (some (decide (a0 ≤ 1000000))) else (some false))
def impl_CostValid.en (r : Bool) : Res := (.lit r, [])
def impl_CostValid.dec : List AV → List R.Obj → Option (Int)
  | [.int .i64 a0], [] => some a0
  | _, _ => none
def impl_CostValid.tw : Tw := ⟨139, Int, Bool, impl_CostValid.dec, fun a => [.int .i64 a], fun a => [], fun k a => impl_CostValid.f a, fun a r => impl_CostValid.en r⟩
theorem impl_CostValid.dok : impl_CostValid.tw.DecOk := by
  intro args hc a h
  have h : impl_CostValid.dec args hc = some a := h
  unfold impl_CostValid.dec at h
  split at h
  · cases h; exact ⟨rfl, rfl⟩
  · cases h
noncomputable def impl_CostValid.O (k : Nat) : Oracle := noO
def impl_CostValid.fh : FH := ⟨fun i => match i with | _ => none, [], false⟩
set_option maxRecDepth 100000 in
theorem impl_CostValid.ef (k : Nat) (a0 : Int) : R.start Try.prog xhn impl_CostValid.O 0 Try.f139 impl_CostValid.fh k [.int .i64 a0] [] = (if a0 ≥ 0 then (some (impl_CostValid.en (decide (a0 ≤ 1000000)))) else (some (impl_CostValid.en false))) := by kernel_rfl
theorem impl_CostValid.sf (k : Nat) (a0 : Int) : R.start Try.prog xhn impl_CostValid.O 0 Try.f139 impl_CostValid.fh k [.int .i64 a0] [] = (impl_CostValid.f a0).map (impl_CostValid.en) := by
  rw [impl_CostValid.ef]
  simp only [impl_CostValid.f, R.map_ite, R.map_bind, R.map_none, R.map_some]
theorem impl_CostValid.ok (k : Nat) : impl_CostValid.tw.Ok Try.prog k := by
  intro a r h
  refine fn_ok (H := xhn) (fh := impl_CostValid.fh) (O := impl_CostValid.O) (k := k) Try.func139 (by kernel_rfl) (by kernel_rfl) (fun j _ => noO_sound) (by kernel_rfl) (m := 0) rfl ?_
  refine (impl_CostValid.sf k a).trans ?_
  exact congrArg (Option.map _) h
def impl_MatrixValid_1.f (a0 : Int) : Option (Bool) := ((impl_CostValid.f a0).bind fun t1 => (some (!decide (t1 = true))))
def impl_MatrixValid_1.en (r : Bool) : Res := (.lit r, [])
def impl_MatrixValid_1.dec : List AV → List R.Obj → Option (Int)
  | [.int .i64 a0], [] => some a0
  | _, _ => none
def impl_MatrixValid_1.tw : Tw := ⟨163, Int, Bool, impl_MatrixValid_1.dec, fun a => [.int .i64 a], fun a => [], fun k a => impl_MatrixValid_1.f a, fun a r => impl_MatrixValid_1.en r⟩
theorem impl_MatrixValid_1.dok : impl_MatrixValid_1.tw.DecOk := by
  intro args hc a h
  have h : impl_MatrixValid_1.dec args hc = some a := h
  unfold impl_MatrixValid_1.dec at h
  split at h
  · cases h; exact ⟨rfl, rfl⟩
  · cases h
noncomputable def impl_MatrixValid_1.O (k : Nat) : Oracle := (impl_CostValid.tw.orc k noO)
def impl_MatrixValid_1.fh : FH := ⟨fun i => match i with | _ => none, [], false⟩
set_option maxRecDepth 100000 in
theorem impl_MatrixValid_1.ef (k : Nat) (a0 : Int) : R.start Try.prog xhn impl_MatrixValid_1.O 0 Try.f163 impl_MatrixValid_1.fh k [.int .i64 a0] [] = ((impl_CostValid.f a0).bind fun t1 => (some (impl_MatrixValid_1.en (!decide (t1 = true))))) := by kernel_rfl
theorem impl_MatrixValid_1.sf (k : Nat) (a0 : Int) : R.start Try.prog xhn impl_MatrixValid_1.O 0 Try.f163 impl_MatrixValid_1.fh k [.int .i64 a0] [] = (impl_MatrixValid_1.f a0).map (impl_MatrixValid_1.en) := by
  rw [impl_MatrixValid_1.ef]
  simp only [impl_MatrixValid_1.f, R.map_ite, R.map_bind, R.map_none, R.map_some]
theorem impl_MatrixValid_1.ok (k : Nat) : impl_MatrixValid_1.tw.Ok Try.prog k := by
  intro a r h
  refine fn_ok (H := xhn) (fh := impl_MatrixValid_1.fh) (O := impl_MatrixValid_1.O) (k := k) Try.func163 (by kernel_rfl) (by kernel_rfl) (fun j _ => (Tw.orc_sound impl_CostValid.dok (impl_CostValid.ok j) noO_sound)) (by kernel_rfl) (m := 0) rfl ?_
  refine (impl_MatrixValid_1.sf k a).trans ?_
  exact congrArg (Option.map _) h
def slices_IndexFunc_int_int.l0 : Nat → (List Int) → Int → Int → Option (Int)
  | 0, _, _, _ => none
  | k + 1, x0, x7, x8 => (if x8 < x7 then (if 0 ≤ x8 then (if x8 < (x0.length : Int) then ((impl_MatrixValid_1.f (rdI x0 x8)).bind fun t1 => (if t1 = true then (some x8) else (slices_IndexFunc_int_int.l0 k x0 x7 (wrap64 (x8 + 1))))) else none) else none) else (some (-1)))
def slices_IndexFunc_int_int.f (k : Nat) (l0 : List Int) : Option (Int) := (slices_IndexFunc_int_int.l0 k l0 (l0.length : Int) 0)
def slices_IndexFunc_int_int.en (r : Int) : Res := (.int .i64 r, [])
def slices_IndexFunc_int_int.dec : List AV → List R.Obj → Option (List Int)
  | [.imm (.I .i64 l0), .clo 163 []], [] => some l0
  | _, _ => none
def slices_IndexFunc_int_int.tw : Tw := ⟨164, List Int, Int, slices_IndexFunc_int_int.dec, fun a => [.imm (.I .i64 a), .clo 163 []], fun a => [], fun k a => slices_IndexFunc_int_int.f k a, fun a r => slices_IndexFunc_int_int.en r⟩
theorem slices_IndexFunc_int_int.dok : slices_IndexFunc_int_int.tw.DecOk := by
  intro args hc a h
  have h : slices_IndexFunc_int_int.dec args hc = some a := h
  unfold slices_IndexFunc_int_int.dec at h
  split at h
  · cases h; exact ⟨rfl, rfl⟩
  · cases h
noncomputable def slices_IndexFunc_int_int.O (k : Nat) : Oracle := (impl_MatrixValid_1.tw.orc k noO)
def slices_IndexFunc_int_int.fh : FH := ⟨fun i => match i with | 2 => some [(0, 0), (1, 0), (7, 0), (8, 0)] | _ => none, [], false⟩
noncomputable def slices_IndexFunc_int_int.x0 (k : Nat) (x0 : List Int) (x7 : Int) (x8 : Int) : Option Res := R.exec Try.prog xhn slices_IndexFunc_int_int.O 0 Try.f164 slices_IndexFunc_int_int.fh k (R.point Try.f164 2) ⟨[(0, .imm (.I .i64 x0)), (1, .clo 163 []), (7, .int .i64 x7), (8, .int .i64 x8)], [], 2⟩
set_option maxRecDepth 100000 in
theorem slices_IndexFunc_int_int.e0 (k : Nat) (x0 : List Int) (x7 : Int) (x8 : Int) : slices_IndexFunc_int_int.x0 (k + 1) x0 x7 x8 = (if x8 < x7 then (if 0 ≤ x8 then (if x8 < (x0.length : Int) then ((impl_MatrixValid_1.f (rdI x0 x8)).bind fun t1 => (if t1 = true then (some (slices_IndexFunc_int_int.en x8)) else (slices_IndexFunc_int_int.x0 k x0 x7 (wrap64 (x8 + 1))))) else none) else none) else (some (slices_IndexFunc_int_int.en (-1)))) := by kernel_rfl
set_option maxRecDepth 100000 in
theorem slices_IndexFunc_int_int.ef (k : Nat) (l0 : List Int) : R.start Try.prog xhn slices_IndexFunc_int_int.O 0 Try.f164 slices_IndexFunc_int_int.fh k [.imm (.I .i64 l0), .clo 163 []] [] = (slices_IndexFunc_int_int.x0 k l0 (l0.length : Int) 0) := by kernel_rfl
theorem slices_IndexFunc_int_int.link : ∀ k, (∀ (x0 : List Int) (x7 : Int) (x8 : Int), slices_IndexFunc_int_int.x0 k x0 x7 x8 = (slices_IndexFunc_int_int.l0 k x0 x7 x8).map (slices_IndexFunc_int_int.en))
  | 0 => fun _ _ _ => by simp only [slices_IndexFunc_int_int.l0, R.map_none]; rfl
  | k + 1 => by
    have ih0 := slices_IndexFunc_int_int.link k
    · intro x0 x7 x8
      rw [slices_IndexFunc_int_int.e0]
      simp only [slices_IndexFunc_int_int.l0, R.map_ite, R.map_bind, R.map_none, R.map_some, ← ih0]
theorem slices_IndexFunc_int_int.sf (k : Nat) (l0 : List Int) : R.start Try.prog xhn slices_IndexFunc_int_int.O 0 Try.f164 slices_IndexFunc_int_int.fh k [.imm (.I .i64 l0), .clo 163 []] [] = (slices_IndexFunc_int_int.f k l0).map (slices_IndexFunc_int_int.en) := by
  have ih0 := slices_IndexFunc_int_int.link k
  rw [slices_IndexFunc_int_int.ef]
  simp only [slices_IndexFunc_int_int.f, R.map_ite, R.map_bind, R.map_none, R.map_some, ← ih0]
theorem slices_IndexFunc_int_int.ok (k : Nat) : slices_IndexFunc_int_int.tw.Ok Try.prog k := by
  intro a r h
  refine fn_ok (H := xhn) (fh := slices_IndexFunc_int_int.fh) (O := slices_IndexFunc_int_int.O) (k := k) Try.func164 (by kernel_rfl) (by kernel_rfl) (fun j _ => (Tw.orc_sound impl_MatrixValid_1.dok (impl_MatrixValid_1.ok j) noO_sound)) (by kernel_rfl) (m := 0) rfl ?_
  refine (slices_IndexFunc_int_int.sf k a).trans ?_
  exact congrArg (Option.map _) h
def slices_ContainsFunc_int_int.f (k : Nat) (l0 : List Int) : Option (Bool) := ((slices_IndexFunc_int_int.f k l0).bind fun t1 => (some (decide (t1 ≥ 0))))
def slices_ContainsFunc_int_int.en (r : Bool) : Res := (.lit r, [])
def slices_ContainsFunc_int_int.dec : List AV → List R.Obj → Option (List Int)
  | [.imm (.I .i64 l0), .clo 163 []], [] => some l0
  | _, _ => none
def slices_ContainsFunc_int_int.tw : Tw := ⟨113, List Int, Bool, slices_ContainsFunc_int_int.dec, fun a => [.imm (.I .i64 a), .clo 163 []], fun a => [], fun k a => slices_ContainsFunc_int_int.f k a, fun a r => slices_ContainsFunc_int_int.en r⟩
theorem slices_ContainsFunc_int_int.dok : slices_ContainsFunc_int_int.tw.DecOk := by
  intro args hc a h
  have h : slices_ContainsFunc_int_int.dec args hc = some a := h
  unfold slices_ContainsFunc_int_int.dec at h
  split at h
  · cases h; exact ⟨rfl, rfl⟩
  · cases h
noncomputable def slices_ContainsFunc_int_int.O (k : Nat) : Oracle := (slices_IndexFunc_int_int.tw.orc k noO)
def slices_ContainsFunc_int_int.fh : FH := ⟨fun i => match i with | _ => none, [], false⟩
set_option maxRecDepth 100000 in
theorem slices_ContainsFunc_int_int.ef (k : Nat) (l0 : List Int) : R.start Try.prog xhn slices_ContainsFunc_int_int.O 0 Try.f113 slices_ContainsFunc_int_int.fh k [.imm (.I .i64 l0), .clo 163 []] [] = ((slices_IndexFunc_int_int.f k l0).bind fun t1 => (some (slices_ContainsFunc_int_int.en (decide (t1 ≥ 0))))) := by kernel_rfl
theorem slices_ContainsFunc_int_int.sf (k : Nat) (l0 : List Int) : R.start Try.prog xhn slices_ContainsFunc_int_int.O 0 Try.f113 slices_ContainsFunc_int_int.fh k [.imm (.I .i64 l0), .clo 163 []] [] = (slices_ContainsFunc_int_int.f k l0).map (slices_ContainsFunc_int_int.en) := by
  rw [slices_ContainsFunc_int_int.ef]
  simp only [slices_ContainsFunc_int_int.f, R.map_ite, R.map_bind, R.map_none, R.map_some]
theorem slices_ContainsFunc_int_int.ok (k : Nat) : slices_ContainsFunc_int_int.tw.Ok Try.prog k := by
  intro a r h
  refine fn_ok (H := xhn) (fh := slices_ContainsFunc_int_int.fh) (O := slices_ContainsFunc_int_int.O) (k := k) Try.func113 (by kernel_rfl) (by kernel_rfl) (fun j _ => (Tw.orc_sound slices_IndexFunc_int_int.dok (slices_IndexFunc_int_int.ok j) noO_sound)) (by kernel_rfl) (m := 0) rfl ?_
  refine (slices_ContainsFunc_int_int.sf k a).trans ?_
  exact congrArg (Option.map _) h
def impl_MatrixValid.f (k : Nat) (a0_0 : Int) (l0_1 : List Int) : Option (Bool) := (if a0_0 < 1 then (some false) else (if a0_0 > 4 then (some false) else (if (l0_1.length : Int) = (wrap64 (a0_0 * a0_0)) then ((slices_ContainsFunc_int_int.f k l0_1).bind fun t1 => (some (!decide (t1 = true)))) else (some false))))
def impl_MatrixValid.en (r : Bool) : Res := (.lit r, [])
def impl_MatrixValid.dec : List AV → List R.Obj → Option (Int × (List Int))
  | [.agg [.int .i64 a0_0, .imm (.I .i64 l0_1)]], [] => some (a0_0, l0_1)
  | _, _ => none
def impl_MatrixValid.tw : Tw := ⟨106, Int × (List Int), Bool, impl_MatrixValid.dec, fun a => [.agg [.int .i64 a.1, .imm (.I .i64 a.2)]], fun a => [], fun k a => impl_MatrixValid.f k a.1 a.2, fun a r => impl_MatrixValid.en r⟩
theorem impl_MatrixValid.dok : impl_MatrixValid.tw.DecOk := by
  intro args hc a h
  have h : impl_MatrixValid.dec args hc = some a := h
  unfold impl_MatrixValid.dec at h
  split at h
  · cases h; exact ⟨rfl, rfl⟩
  · cases h
noncomputable def impl_MatrixValid.O (k : Nat) : Oracle := (slices_ContainsFunc_int_int.tw.orc k noO)
def impl_MatrixValid.fh : FH := ⟨fun i => match i with | _ => none, [], false⟩
set_option maxRecDepth 100000 in
theorem impl_MatrixValid.ef (k : Nat) (a0_0 : Int) (l0_1 : List Int) : R.start Try.prog xhn impl_MatrixValid.O 0 Try.f106 impl_MatrixValid.fh k [.agg [.int .i64 a0_0, .imm (.I .i64 l0_1)]] [] = (if a0_0 < 1 then (some (impl_MatrixValid.en false)) else (if a0_0 > 4 then (some (impl_MatrixValid.en false)) else (if (l0_1.length : Int) = (wrap64 (a0_0 * a0_0)) then ((slices_ContainsFunc_int_int.f k l0_1).bind fun t1 => (some (impl_MatrixValid.en (!decide (t1 = true))))) else (some (impl_MatrixValid.en false))))) := by kernel_rfl
theorem impl_MatrixValid.sf (k : Nat) (a0_0 : Int) (l0_1 : List Int) : R.start Try.prog xhn impl_MatrixValid.O 0 Try.f106 impl_MatrixValid.fh k [.agg [.int .i64 a0_0, .imm (.I .i64 l0_1)]] [] = (impl_MatrixValid.f k a0_0 l0_1).map (impl_MatrixValid.en) := by
  rw [impl_MatrixValid.ef]
  simp only [impl_MatrixValid.f, R.map_ite, R.map_bind, R.map_none, R.map_some]
theorem impl_MatrixValid.ok (k : Nat) : impl_MatrixValid.tw.Ok Try.prog k := by
  intro a r h
  refine fn_ok (H := xhn) (fh := impl_MatrixValid.fh) (O := impl_MatrixValid.O) (k := k) Try.func106 (by kernel_rfl) (by kernel_rfl) (fun j _ => (Tw.orc_sound slices_ContainsFunc_int_int.dok (slices_ContainsFunc_int_int.ok j) noO_sound)) (by kernel_rfl) (m := 0) rfl ?_
  refine (impl_MatrixValid.sf k a.1 a.2).trans ?_
  exact congrArg (Option.map _) h
def impl_alike.f (k : Nat) (a0_0 : Int) (l0_1 : List Int) (a1_0 : Int) (l1_1 : List Int) : Option (Bool) := ((impl_MatrixValid.f k a0_0 l0_1).bind fun t1 => (if t1 = true then ((impl_MatrixValid.f k a1_0 l1_1).bind fun t2 => (if t2 = true then (some (decide (a0_0 = a1_0))) else (some false))) else (some false)))
def impl_alike.en (r : Bool) : Res := (.lit r, [])
def impl_alike.dec : List AV → List R.Obj → Option (Int × (List Int) × Int × (List Int))
  | [.agg [.int .i64 a0_0, .imm (.I .i64 l0_1)], .agg [.int .i64 a1_0, .imm (.I .i64 l1_1)]], [] => some (a0_0, l0_1, a1_0, l1_1)
  | _, _ => none
def impl_alike.tw : Tw := ⟨158, Int × (List Int) × Int × (List Int), Bool, impl_alike.dec, fun a => [.agg [.int .i64 a.1, .imm (.I .i64 a.2.1)], .agg [.int .i64 a.2.2.1, .imm (.I .i64 a.2.2.2)]], fun a => [], fun k a => impl_alike.f k a.1 a.2.1 a.2.2.1 a.2.2.2, fun a r => impl_alike.en r⟩
theorem impl_alike.dok : impl_alike.tw.DecOk := by
  intro args hc a h
  have h : impl_alike.dec args hc = some a := h
  unfold impl_alike.dec at h
  split at h
  · cases h; exact ⟨rfl, rfl⟩
  · cases h
noncomputable def impl_alike.O (k : Nat) : Oracle := (impl_MatrixValid.tw.orc k noO)
def impl_alike.fh : FH := ⟨fun i => match i with | _ => none, [], false⟩
set_option maxRecDepth 100000 in
theorem impl_alike.ef (k : Nat) (a0_0 : Int) (l0_1 : List Int) (a1_0 : Int) (l1_1 : List Int) : R.start Try.prog xhn impl_alike.O 0 Try.f158 impl_alike.fh k [.agg [.int .i64 a0_0, .imm (.I .i64 l0_1)], .agg [.int .i64 a1_0, .imm (.I .i64 l1_1)]] [] = ((impl_MatrixValid.f k a0_0 l0_1).bind fun t1 => (if t1 = true then ((impl_MatrixValid.f k a1_0 l1_1).bind fun t2 => (if t2 = true then (some (impl_alike.en (decide (a0_0 = a1_0)))) else (some (impl_alike.en false)))) else (some (impl_alike.en false)))) := by kernel_rfl
theorem impl_alike.sf (k : Nat) (a0_0 : Int) (l0_1 : List Int) (a1_0 : Int) (l1_1 : List Int) : R.start Try.prog xhn impl_alike.O 0 Try.f158 impl_alike.fh k [.agg [.int .i64 a0_0, .imm (.I .i64 l0_1)], .agg [.int .i64 a1_0, .imm (.I .i64 l1_1)]] [] = (impl_alike.f k a0_0 l0_1 a1_0 l1_1).map (impl_alike.en) := by
  rw [impl_alike.ef]
  simp only [impl_alike.f, R.map_ite, R.map_bind, R.map_none, R.map_some]
theorem impl_alike.ok (k : Nat) : impl_alike.tw.Ok Try.prog k := by
  intro a r h
  refine fn_ok (H := xhn) (fh := impl_alike.fh) (O := impl_alike.O) (k := k) Try.func158 (by kernel_rfl) (by kernel_rfl) (fun j _ => (Tw.orc_sound impl_MatrixValid.dok (impl_MatrixValid.ok j) noO_sound)) (by kernel_rfl) (m := 0) rfl ?_
  refine (impl_alike.sf k a.1 a.2.1 a.2.2.1 a.2.2.2).trans ?_
  exact congrArg (Option.map _) h
def impl_Matrix_at.f (a0_0 : Int) (l0_1 : List Int) (a1 : Int) (a2 : Int) : Option (Int) := (if 0 ≤ (wrap64 ((wrap64 (a1 * a0_0)) + a2)) then (if (wrap64 ((wrap64 (a1 * a0_0)) + a2)) < (l0_1.length : Int) then (some (rdI l0_1 (wrap64 ((wrap64 (a1 * a0_0)) + a2)))) else none) else none)
def impl_Matrix_at.en (r : Int) : Res := (.int .i64 r, [])
def impl_Matrix_at.dec : List AV → List R.Obj → Option (Int × (List Int) × Int × Int)
  | [.agg [.int .i64 a0_0, .imm (.I .i64 l0_1)], .int .i64 a1, .int .i64 a2], [] => some (a0_0, l0_1, a1, a2)
  | _, _ => none
def impl_Matrix_at.tw : Tw := ⟨109, Int × (List Int) × Int × Int, Int, impl_Matrix_at.dec, fun a => [.agg [.int .i64 a.1, .imm (.I .i64 a.2.1)], .int .i64 a.2.2.1, .int .i64 a.2.2.2], fun a => [], fun k a => impl_Matrix_at.f a.1 a.2.1 a.2.2.1 a.2.2.2, fun a r => impl_Matrix_at.en r⟩
theorem impl_Matrix_at.dok : impl_Matrix_at.tw.DecOk := by
  intro args hc a h
  have h : impl_Matrix_at.dec args hc = some a := h
  unfold impl_Matrix_at.dec at h
  split at h
  · cases h; exact ⟨rfl, rfl⟩
  · cases h
noncomputable def impl_Matrix_at.O (k : Nat) : Oracle := noO
def impl_Matrix_at.fh : FH := ⟨fun i => match i with | _ => none, [], false⟩
set_option maxRecDepth 100000 in
theorem impl_Matrix_at.ef (k : Nat) (a0_0 : Int) (l0_1 : List Int) (a1 : Int) (a2 : Int) : R.start Try.prog xhn impl_Matrix_at.O 0 Try.f109 impl_Matrix_at.fh k [.agg [.int .i64 a0_0, .imm (.I .i64 l0_1)], .int .i64 a1, .int .i64 a2] [] = (if 0 ≤ (wrap64 ((wrap64 (a1 * a0_0)) + a2)) then (if (wrap64 ((wrap64 (a1 * a0_0)) + a2)) < (l0_1.length : Int) then (some (impl_Matrix_at.en (rdI l0_1 (wrap64 ((wrap64 (a1 * a0_0)) + a2))))) else none) else none) := by kernel_rfl
theorem impl_Matrix_at.sf (k : Nat) (a0_0 : Int) (l0_1 : List Int) (a1 : Int) (a2 : Int) : R.start Try.prog xhn impl_Matrix_at.O 0 Try.f109 impl_Matrix_at.fh k [.agg [.int .i64 a0_0, .imm (.I .i64 l0_1)], .int .i64 a1, .int .i64 a2] [] = (impl_Matrix_at.f a0_0 l0_1 a1 a2).map (impl_Matrix_at.en) := by
  rw [impl_Matrix_at.ef]
  simp only [impl_Matrix_at.f, R.map_ite, R.map_bind, R.map_none, R.map_some]
theorem impl_Matrix_at.ok (k : Nat) : impl_Matrix_at.tw.Ok Try.prog k := by
  intro a r h
  refine fn_ok (H := xhn) (fh := impl_Matrix_at.fh) (O := impl_Matrix_at.O) (k := k) Try.func109 (by kernel_rfl) (by kernel_rfl) (fun j _ => noO_sound) (by kernel_rfl) (m := 0) rfl ?_
  refine (impl_Matrix_at.sf k a.1 a.2.1 a.2.2.1 a.2.2.2).trans ?_
  exact congrArg (Option.map _) h
def impl_AddCost.f (a0 : Int) (a1 : Int) : Option (Int) := ((impl_CostValid.f a0).bind fun t1 => (if t1 = true then ((impl_CostValid.f a1).bind fun t2 => (if t2 = true then (some (mn (wrap64 (a0 + a1)) 1000000)) else (some (-1)))) else (some (-1))))
def impl_AddCost.en (r : Int) : Res := (.int .i64 r, [])
def impl_AddCost.dec : List AV → List R.Obj → Option (Int × Int)
  | [.int .i64 a0, .int .i64 a1], [] => some (a0, a1)
  | _, _ => none
def impl_AddCost.tw : Tw := ⟨73, Int × Int, Int, impl_AddCost.dec, fun a => [.int .i64 a.1, .int .i64 a.2], fun a => [], fun k a => impl_AddCost.f a.1 a.2, fun a r => impl_AddCost.en r⟩
theorem impl_AddCost.dok : impl_AddCost.tw.DecOk := by
  intro args hc a h
  have h : impl_AddCost.dec args hc = some a := h
  unfold impl_AddCost.dec at h
  split at h
  · cases h; exact ⟨rfl, rfl⟩
  · cases h
noncomputable def impl_AddCost.O (k : Nat) : Oracle := (impl_CostValid.tw.orc k noO)
def impl_AddCost.fh : FH := ⟨fun i => match i with | _ => none, [], false⟩
set_option maxRecDepth 100000 in
theorem impl_AddCost.ef (k : Nat) (a0 : Int) (a1 : Int) : R.start Try.prog xhn impl_AddCost.O 0 Try.f73 impl_AddCost.fh k [.int .i64 a0, .int .i64 a1] [] = ((impl_CostValid.f a0).bind fun t1 => (if t1 = true then ((impl_CostValid.f a1).bind fun t2 => (if t2 = true then (some (impl_AddCost.en (mn (wrap64 (a0 + a1)) 1000000))) else (some (impl_AddCost.en (-1))))) else (some (impl_AddCost.en (-1))))) := by kernel_rfl
theorem impl_AddCost.sf (k : Nat) (a0 : Int) (a1 : Int) : R.start Try.prog xhn impl_AddCost.O 0 Try.f73 impl_AddCost.fh k [.int .i64 a0, .int .i64 a1] [] = (impl_AddCost.f a0 a1).map (impl_AddCost.en) := by
  rw [impl_AddCost.ef]
  simp only [impl_AddCost.f, R.map_ite, R.map_bind, R.map_none, R.map_some]
theorem impl_AddCost.ok (k : Nat) : impl_AddCost.tw.Ok Try.prog k := by
  intro a r h
  refine fn_ok (H := xhn) (fh := impl_AddCost.fh) (O := impl_AddCost.O) (k := k) Try.func73 (by kernel_rfl) (by kernel_rfl) (fun j _ => (Tw.orc_sound impl_CostValid.dok (impl_CostValid.ok j) noO_sound)) (by kernel_rfl) (m := 0) rfl ?_
  refine (impl_AddCost.sf k a.1 a.2).trans ?_
  exact congrArg (Option.map _) h
def impl_MulMatrix_1.l0 : Nat → Int → Int → Int → Int → Int → Int → (List Int) → Int → (List Int) → Option (Int)
  | 0, _, _, _, _, _, _, _, _, _ => none
  | k + 1, x0, x1, x7, x10, x11, y0_0, y0_1, y1_0, y1_1 => (if x11 < x10 then ((impl_Matrix_at.f y0_0 y0_1 x0 x11).bind fun t1 => ((impl_Matrix_at.f y1_0 y1_1 x11 x1).bind fun t2 => ((impl_AddCost.f t1 t2).bind fun t3 => (impl_MulMatrix_1.l0 k x0 x1 (mn x7 t3) x10 (wrap64 (x11 + 1)) y0_0 y0_1 y1_0 y1_1)))) else (some x7))
def impl_MulMatrix_1.f (k : Nat) (a0 : Int) (a1 : Int) (a4_0 : Int) (l4_1 : List Int) (a5_0 : Int) (l5_1 : List Int) : Option (Int) := (impl_MulMatrix_1.l0 k a0 a1 1000000 a4_0 0 a4_0 l4_1 a5_0 l5_1)
def impl_MulMatrix_1.en (a4_0 : Int) (l4_1 : List Int) (a5_0 : Int) (l5_1 : List Int) (r : Int) : Res := (.int .i64 r, [.box true [.int .i64 a4_0, .imm (.I .i64 l4_1)], .box true [.int .i64 a5_0, .imm (.I .i64 l5_1)]])
def impl_MulMatrix_1.dec : List AV → List R.Obj → Option (Int × Int × Int × (List Int) × Int × (List Int))
  | [.int .i64 a0, .int .i64 a1, .ptr 0 0, .ptr 1 0], [.box true [.int .i64 a4_0, .imm (.I .i64 l4_1)], .box true [.int .i64 a5_0, .imm (.I .i64 l5_1)]] => some (a0, a1, a4_0, l4_1, a5_0, l5_1)
  | _, _ => none
def impl_MulMatrix_1.tw : Tw := ⟨159, Int × Int × Int × (List Int) × Int × (List Int), Int, impl_MulMatrix_1.dec, fun a => [.int .i64 a.1, .int .i64 a.2.1, .ptr 0 0, .ptr 1 0], fun a => [.box true [.int .i64 a.2.2.1, .imm (.I .i64 a.2.2.2.1)], .box true [.int .i64 a.2.2.2.2.1, .imm (.I .i64 a.2.2.2.2.2)]], fun k a => impl_MulMatrix_1.f k a.1 a.2.1 a.2.2.1 a.2.2.2.1 a.2.2.2.2.1 a.2.2.2.2.2, fun a r => impl_MulMatrix_1.en a.2.2.1 a.2.2.2.1 a.2.2.2.2.1 a.2.2.2.2.2 r⟩
theorem impl_MulMatrix_1.dok : impl_MulMatrix_1.tw.DecOk := by
  intro args hc a h
  have h : impl_MulMatrix_1.dec args hc = some a := h
  unfold impl_MulMatrix_1.dec at h
  split at h
  · cases h; exact ⟨rfl, rfl⟩
  · cases h
noncomputable def impl_MulMatrix_1.O (k : Nat) : Oracle := (impl_Matrix_at.tw.orc k (impl_AddCost.tw.orc k noO))
def impl_MulMatrix_1.fh : FH := ⟨fun i => match i with | 3 => some [(0, 0), (1, 0), (2, 0), (3, 0), (7, 0), (10, 0), (11, 0)] | _ => none, [], false⟩
noncomputable def impl_MulMatrix_1.x0 (k : Nat) (x0 : Int) (x1 : Int) (x7 : Int) (x10 : Int) (x11 : Int) (y0_0 : Int) (y0_1 : List Int) (y1_0 : Int) (y1_1 : List Int) : Option Res := R.exec Try.prog xhn impl_MulMatrix_1.O 2 Try.f159 impl_MulMatrix_1.fh k (R.point Try.f159 3) ⟨[(0, .int .i64 x0), (1, .int .i64 x1), (2, .ptr 0 0), (3, .ptr 1 0), (7, .int .i64 x7), (10, .int .i64 x10), (11, .int .i64 x11)], [(0, .box true [.int .i64 y0_0, .imm (.I .i64 y0_1)]), (1, .box true [.int .i64 y1_0, .imm (.I .i64 y1_1)])], 4⟩
set_option maxRecDepth 100000 in
theorem impl_MulMatrix_1.e0 (k : Nat) (x0 : Int) (x1 : Int) (x7 : Int) (x10 : Int) (x11 : Int) (y0_0 : Int) (y0_1 : List Int) (y1_0 : Int) (y1_1 : List Int) : impl_MulMatrix_1.x0 (k + 1) x0 x1 x7 x10 x11 y0_0 y0_1 y1_0 y1_1 = (if x11 < x10 then ((impl_Matrix_at.f y0_0 y0_1 x0 x11).bind fun t1 => ((impl_Matrix_at.f y1_0 y1_1 x11 x1).bind fun t2 => ((impl_AddCost.f t1 t2).bind fun t3 => (impl_MulMatrix_1.x0 k x0 x1 (mn x7 t3) x10 (wrap64 (x11 + 1)) y0_0 y0_1 y1_0 y1_1)))) else (some (impl_MulMatrix_1.en y0_0 y0_1 y1_0 y1_1 x7))) := by kernel_rfl
set_option maxRecDepth 100000 in
theorem impl_MulMatrix_1.ef (k : Nat) (a0 : Int) (a1 : Int) (a4_0 : Int) (l4_1 : List Int) (a5_0 : Int) (l5_1 : List Int) : R.start Try.prog xhn impl_MulMatrix_1.O 2 Try.f159 impl_MulMatrix_1.fh k [.int .i64 a0, .int .i64 a1, .ptr 0 0, .ptr 1 0] [.box true [.int .i64 a4_0, .imm (.I .i64 l4_1)], .box true [.int .i64 a5_0, .imm (.I .i64 l5_1)]] = (impl_MulMatrix_1.x0 k a0 a1 1000000 a4_0 0 a4_0 l4_1 a5_0 l5_1) := by kernel_rfl
theorem impl_MulMatrix_1.link : ∀ k, (∀ (x0 : Int) (x1 : Int) (x7 : Int) (x10 : Int) (x11 : Int) (y0_0 : Int) (y0_1 : List Int) (y1_0 : Int) (y1_1 : List Int), impl_MulMatrix_1.x0 k x0 x1 x7 x10 x11 y0_0 y0_1 y1_0 y1_1 = (impl_MulMatrix_1.l0 k x0 x1 x7 x10 x11 y0_0 y0_1 y1_0 y1_1).map (impl_MulMatrix_1.en y0_0 y0_1 y1_0 y1_1))
  | 0 => fun _ _ _ _ _ _ _ _ _ => by simp only [impl_MulMatrix_1.l0, R.map_none]; rfl
  | k + 1 => by
    have ih0 := impl_MulMatrix_1.link k
    · intro x0 x1 x7 x10 x11 y0_0 y0_1 y1_0 y1_1
      rw [impl_MulMatrix_1.e0]
      simp only [impl_MulMatrix_1.l0, R.map_ite, R.map_bind, R.map_none, R.map_some, ← ih0]
theorem impl_MulMatrix_1.sf (k : Nat) (a0 : Int) (a1 : Int) (a4_0 : Int) (l4_1 : List Int) (a5_0 : Int) (l5_1 : List Int) : R.start Try.prog xhn impl_MulMatrix_1.O 2 Try.f159 impl_MulMatrix_1.fh k [.int .i64 a0, .int .i64 a1, .ptr 0 0, .ptr 1 0] [.box true [.int .i64 a4_0, .imm (.I .i64 l4_1)], .box true [.int .i64 a5_0, .imm (.I .i64 l5_1)]] = (impl_MulMatrix_1.f k a0 a1 a4_0 l4_1 a5_0 l5_1).map (impl_MulMatrix_1.en a4_0 l4_1 a5_0 l5_1) := by
  have ih0 := impl_MulMatrix_1.link k
  rw [impl_MulMatrix_1.ef]
  simp only [impl_MulMatrix_1.f, R.map_ite, R.map_bind, R.map_none, R.map_some, ← ih0]
theorem impl_MulMatrix_1.ok (k : Nat) : impl_MulMatrix_1.tw.Ok Try.prog k := by
  intro a r h
  refine fn_ok (H := xhn) (fh := impl_MulMatrix_1.fh) (O := impl_MulMatrix_1.O) (k := k) Try.func159 (by kernel_rfl) (by kernel_rfl) (fun j _ => (Tw.orc_sound impl_Matrix_at.dok (impl_Matrix_at.ok j) (Tw.orc_sound impl_AddCost.dok (impl_AddCost.ok j) noO_sound))) (by kernel_rfl) (m := 2) rfl ?_
  refine (impl_MulMatrix_1.sf k a.1 a.2.1 a.2.2.1 a.2.2.2.1 a.2.2.2.2.1 a.2.2.2.2.2).trans ?_
  exact congrArg (Option.map _) h
mutual
def impl_filled_c.l0 : Nat → Int → Int → Int → Int → (List Int) → Int → (List Int) → Int → (List Int) → Option (Int × (List Int))
  | 0, _, _, _, _, _, _, _, _, _ => none
  | k + 1, x0, x10, x11, y0_0, y0_1, y1_0, y1_1, y3_0, y5 => (if x11 < x10 then (impl_filled_c.l1 k x0 x11 x10 x11 x0 0 y0_0 y0_1 y1_0 y1_1 y3_0 y5) else (some (y3_0, y5)))
def impl_filled_c.l1 : Nat → Int → Int → Int → Int → Int → Int → Int → (List Int) → Int → (List Int) → Int → (List Int) → Option (Int × (List Int))
  | 0, _, _, _, _, _, _, _, _, _, _, _, _ => none
  | k + 1, x0, x6, x10, x11, x14, x15, y0_0, y0_1, y1_0, y1_1, y3_0, y5 => (if x15 < x14 then ((impl_MulMatrix_1.f k x6 x15 y0_0 y0_1 y1_0 y1_1).bind fun t1 => (if y5.length < 17592186044416 then (impl_filled_c.l1 k x0 x6 x10 x11 x14 (wrap64 (x15 + 1)) y0_0 y0_1 y1_0 y1_1 y3_0 (y5 ++ [t1])) else none)) else (impl_filled_c.l0 k x0 x10 (wrap64 (x11 + 1)) y0_0 y0_1 y1_0 y1_1 y3_0 y5))
end
def impl_filled_c.f (k : Nat) (a0 : Int) (a2_0 : Int) (l2_1 : List Int) (a3_0 : Int) (l3_1 : List Int) : Option (Int × (List Int)) := (impl_filled_c.l0 k a0 a0 0 a2_0 l2_1 a3_0 l3_1 a0 ([] : List Int))
def impl_filled_c.en (a2_0 : Int) (l2_1 : List Int) (a3_0 : Int) (l3_1 : List Int) (r : Int × (List Int)) : Res := (.agg [.int .i64 r.1, .sl 2 0], [.box true [.int .i64 a2_0, .imm (.I .i64 l2_1)], .box true [.int .i64 a3_0, .imm (.I .i64 l3_1)], .arr 3 0 (.I .i64 r.2) false])
def impl_filled_c.dec : List AV → List R.Obj → Option (Int × Int × (List Int) × Int × (List Int))
  | [.int .i64 a0, .clo 159 [.ptr 0 0, .ptr 1 0]], [.box true [.int .i64 a2_0, .imm (.I .i64 l2_1)], .box true [.int .i64 a3_0, .imm (.I .i64 l3_1)]] => some (a0, a2_0, l2_1, a3_0, l3_1)
  | _, _ => none
def impl_filled_c.tw : Tw := ⟨107, Int × Int × (List Int) × Int × (List Int), Int × (List Int), impl_filled_c.dec, fun a => [.int .i64 a.1, .clo 159 [.ptr 0 0, .ptr 1 0]], fun a => [.box true [.int .i64 a.2.1, .imm (.I .i64 a.2.2.1)], .box true [.int .i64 a.2.2.2.1, .imm (.I .i64 a.2.2.2.2)]], fun k a => impl_filled_c.f k a.1 a.2.1 a.2.2.1 a.2.2.2.1 a.2.2.2.2, fun a r => impl_filled_c.en a.2.1 a.2.2.1 a.2.2.2.1 a.2.2.2.2 r⟩
theorem impl_filled_c.dok : impl_filled_c.tw.DecOk := by
  intro args hc a h
  have h : impl_filled_c.dec args hc = some a := h
  unfold impl_filled_c.dec at h
  split at h
  · cases h; exact ⟨rfl, rfl⟩
  · cases h
noncomputable def impl_filled_c.O (k : Nat) : Oracle := (impl_MulMatrix_1.tw.orc k noO)
def impl_filled_c.fh : FH := ⟨fun i => match i with | 3 => some [(0, 0), (1, 0), (4, 0), (5, 0), (10, 0), (11, 0)] | 6 => some [(0, 0), (1, 0), (4, 0), (5, 0), (6, 0), (10, 0), (11, 0), (14, 0), (15, 0)] | _ => none, [(true, 3)], false⟩
noncomputable def impl_filled_c.x0 (k : Nat) (x0 : Int) (x10 : Int) (x11 : Int) (y0_0 : Int) (y0_1 : List Int) (y1_0 : Int) (y1_1 : List Int) (y3_0 : Int) (y5 : List Int) : Option Res := R.exec Try.prog xhn impl_filled_c.O 2 Try.f107 impl_filled_c.fh k (R.point Try.f107 3) ⟨[(0, .int .i64 x0), (1, .clo 159 [.ptr 0 0, .ptr 1 0]), (4, .ptr 2 0), (5, .ptr 3 0), (10, .int .i64 x10), (11, .int .i64 x11)], [(0, .box true [.int .i64 y0_0, .imm (.I .i64 y0_1)]), (1, .box true [.int .i64 y1_0, .imm (.I .i64 y1_1)]), (2, .box false [.int .i64 0, .sl 4 0]), (3, .box false [.int .i64 y3_0, .sl 5 0]), (4, .arr 3 0 (.I .i64 ([] : List Int)) false), (5, .arr 3 0 (.I .i64 y5) false)], 8⟩
noncomputable def impl_filled_c.x1 (k : Nat) (x0 : Int) (x6 : Int) (x10 : Int) (x11 : Int) (x14 : Int) (x15 : Int) (y0_0 : Int) (y0_1 : List Int) (y1_0 : Int) (y1_1 : List Int) (y3_0 : Int) (y5 : List Int) : Option Res := R.exec Try.prog xhn impl_filled_c.O 2 Try.f107 impl_filled_c.fh k (R.point Try.f107 6) ⟨[(0, .int .i64 x0), (1, .clo 159 [.ptr 0 0, .ptr 1 0]), (4, .ptr 2 0), (5, .ptr 3 0), (6, .int .i64 x6), (10, .int .i64 x10), (11, .int .i64 x11), (14, .int .i64 x14), (15, .int .i64 x15)], [(0, .box true [.int .i64 y0_0, .imm (.I .i64 y0_1)]), (1, .box true [.int .i64 y1_0, .imm (.I .i64 y1_1)]), (2, .box false [.int .i64 0, .sl 4 0]), (3, .box false [.int .i64 y3_0, .sl 5 0]), (4, .arr 3 0 (.I .i64 ([] : List Int)) false), (5, .arr 3 0 (.I .i64 y5) false)], 8⟩
set_option maxRecDepth 100000 in
theorem impl_filled_c.e0 (k : Nat) (x0 : Int) (x10 : Int) (x11 : Int) (y0_0 : Int) (y0_1 : List Int) (y1_0 : Int) (y1_1 : List Int) (y3_0 : Int) (y5 : List Int) : impl_filled_c.x0 (k + 1) x0 x10 x11 y0_0 y0_1 y1_0 y1_1 y3_0 y5 = (if x11 < x10 then (impl_filled_c.x1 k x0 x11 x10 x11 x0 0 y0_0 y0_1 y1_0 y1_1 y3_0 y5) else (some (impl_filled_c.en y0_0 y0_1 y1_0 y1_1 (y3_0, y5)))) := by kernel_rfl
set_option maxRecDepth 100000 in
theorem impl_filled_c.e1 (k : Nat) (x0 : Int) (x6 : Int) (x10 : Int) (x11 : Int) (x14 : Int) (x15 : Int) (y0_0 : Int) (y0_1 : List Int) (y1_0 : Int) (y1_1 : List Int) (y3_0 : Int) (y5 : List Int) : impl_filled_c.x1 (k + 1) x0 x6 x10 x11 x14 x15 y0_0 y0_1 y1_0 y1_1 y3_0 y5 = (if x15 < x14 then ((impl_MulMatrix_1.f k x6 x15 y0_0 y0_1 y1_0 y1_1).bind fun t1 => (if y5.length < 17592186044416 then (impl_filled_c.x1 k x0 x6 x10 x11 x14 (wrap64 (x15 + 1)) y0_0 y0_1 y1_0 y1_1 y3_0 (y5 ++ [t1])) else none)) else (impl_filled_c.x0 k x0 x10 (wrap64 (x11 + 1)) y0_0 y0_1 y1_0 y1_1 y3_0 y5)) := by kernel_rfl
set_option maxRecDepth 100000 in
theorem impl_filled_c.ef (k : Nat) (a0 : Int) (a2_0 : Int) (l2_1 : List Int) (a3_0 : Int) (l3_1 : List Int) : R.start Try.prog xhn impl_filled_c.O 2 Try.f107 impl_filled_c.fh k [.int .i64 a0, .clo 159 [.ptr 0 0, .ptr 1 0]] [.box true [.int .i64 a2_0, .imm (.I .i64 l2_1)], .box true [.int .i64 a3_0, .imm (.I .i64 l3_1)]] = (impl_filled_c.x0 k a0 a0 0 a2_0 l2_1 a3_0 l3_1 a0 ([] : List Int)) := by kernel_rfl
theorem impl_filled_c.link : ∀ k, (∀ (x0 : Int) (x10 : Int) (x11 : Int) (y0_0 : Int) (y0_1 : List Int) (y1_0 : Int) (y1_1 : List Int) (y3_0 : Int) (y5 : List Int), impl_filled_c.x0 k x0 x10 x11 y0_0 y0_1 y1_0 y1_1 y3_0 y5 = (impl_filled_c.l0 k x0 x10 x11 y0_0 y0_1 y1_0 y1_1 y3_0 y5).map (impl_filled_c.en y0_0 y0_1 y1_0 y1_1)) ∧ (∀ (x0 : Int) (x6 : Int) (x10 : Int) (x11 : Int) (x14 : Int) (x15 : Int) (y0_0 : Int) (y0_1 : List Int) (y1_0 : Int) (y1_1 : List Int) (y3_0 : Int) (y5 : List Int), impl_filled_c.x1 k x0 x6 x10 x11 x14 x15 y0_0 y0_1 y1_0 y1_1 y3_0 y5 = (impl_filled_c.l1 k x0 x6 x10 x11 x14 x15 y0_0 y0_1 y1_0 y1_1 y3_0 y5).map (impl_filled_c.en y0_0 y0_1 y1_0 y1_1))
  | 0 => ⟨fun _ _ _ _ _ _ _ _ _ => by simp only [impl_filled_c.l0, R.map_none]; rfl, fun _ _ _ _ _ _ _ _ _ _ _ _ => by simp only [impl_filled_c.l1, R.map_none]; rfl⟩
  | k + 1 => by
    obtain ⟨ih0, ih1⟩ := impl_filled_c.link k
    refine ⟨?_, ?_⟩
    · intro x0 x10 x11 y0_0 y0_1 y1_0 y1_1 y3_0 y5
      rw [impl_filled_c.e0]
      simp only [impl_filled_c.l0, R.map_ite, R.map_bind, R.map_none, R.map_some, ← ih0, ← ih1]
    · intro x0 x6 x10 x11 x14 x15 y0_0 y0_1 y1_0 y1_1 y3_0 y5
      rw [impl_filled_c.e1]
      simp only [impl_filled_c.l1, R.map_ite, R.map_bind, R.map_none, R.map_some, ← ih0, ← ih1]
theorem impl_filled_c.sf (k : Nat) (a0 : Int) (a2_0 : Int) (l2_1 : List Int) (a3_0 : Int) (l3_1 : List Int) : R.start Try.prog xhn impl_filled_c.O 2 Try.f107 impl_filled_c.fh k [.int .i64 a0, .clo 159 [.ptr 0 0, .ptr 1 0]] [.box true [.int .i64 a2_0, .imm (.I .i64 l2_1)], .box true [.int .i64 a3_0, .imm (.I .i64 l3_1)]] = (impl_filled_c.f k a0 a2_0 l2_1 a3_0 l3_1).map (impl_filled_c.en a2_0 l2_1 a3_0 l3_1) := by
  obtain ⟨ih0, ih1⟩ := impl_filled_c.link k
  rw [impl_filled_c.ef]
  simp only [impl_filled_c.f, R.map_ite, R.map_bind, R.map_none, R.map_some, ← ih0, ← ih1]
theorem impl_filled_c.ok (k : Nat) : impl_filled_c.tw.Ok Try.prog k := by
  intro a r h
  refine fn_ok (H := xhn) (fh := impl_filled_c.fh) (O := impl_filled_c.O) (k := k) Try.func107 (by kernel_rfl) (by kernel_rfl) (fun j _ => (Tw.orc_sound impl_MulMatrix_1.dok (impl_MulMatrix_1.ok j) noO_sound)) (by kernel_rfl) (m := 2) rfl ?_
  refine (impl_filled_c.sf k a.1 a.2.1 a.2.2.1 a.2.2.2.1 a.2.2.2.2).trans ?_
  exact congrArg (Option.map _) h
def impl_MulMatrix.f (k : Nat) (a0_0 : Int) (l0_1 : List Int) (a1_0 : Int) (l1_1 : List Int) : Option (Int × (List Int) × Bool) := ((impl_alike.f k a0_0 l0_1 a1_0 l1_1).bind fun t1 => (if t1 = true then ((impl_filled_c.f k a0_0 a0_0 l0_1 a1_0 l1_1).bind fun t2 => (some (t2.1, t2.2, true))) else (some (0, ([] : List Int), false))))
def impl_MulMatrix.en (r : Int × (List Int) × Bool) : Res := (.tup [.agg [.int .i64 r.1, .sl 0 0], .lit r.2.2], [.arr 3 0 (.I .i64 r.2.1) false])
def impl_MulMatrix.dec : List AV → List R.Obj → Option (Int × (List Int) × Int × (List Int))
  | [.agg [.int .i64 a0_0, .imm (.I .i64 l0_1)], .agg [.int .i64 a1_0, .imm (.I .i64 l1_1)]], [] => some (a0_0, l0_1, a1_0, l1_1)
  | _, _ => none
def impl_MulMatrix.tw : Tw := ⟨104, Int × (List Int) × Int × (List Int), Int × (List Int) × Bool, impl_MulMatrix.dec, fun a => [.agg [.int .i64 a.1, .imm (.I .i64 a.2.1)], .agg [.int .i64 a.2.2.1, .imm (.I .i64 a.2.2.2)]], fun a => [], fun k a => impl_MulMatrix.f k a.1 a.2.1 a.2.2.1 a.2.2.2, fun a r => impl_MulMatrix.en r⟩
theorem impl_MulMatrix.dok : impl_MulMatrix.tw.DecOk := by
  intro args hc a h
  have h : impl_MulMatrix.dec args hc = some a := h
  unfold impl_MulMatrix.dec at h
  split at h
  · cases h; exact ⟨rfl, rfl⟩
  · cases h
noncomputable def impl_MulMatrix.O (k : Nat) : Oracle := (impl_alike.tw.orc k (impl_filled_c.tw.orc k noO))
def impl_MulMatrix.fh : FH := ⟨fun i => match i with | _ => none, [(true, 3)], false⟩
set_option maxRecDepth 100000 in
theorem impl_MulMatrix.ef (k : Nat) (a0_0 : Int) (l0_1 : List Int) (a1_0 : Int) (l1_1 : List Int) : R.start Try.prog xhn impl_MulMatrix.O 0 Try.f104 impl_MulMatrix.fh k [.agg [.int .i64 a0_0, .imm (.I .i64 l0_1)], .agg [.int .i64 a1_0, .imm (.I .i64 l1_1)]] [] = ((impl_alike.f k a0_0 l0_1 a1_0 l1_1).bind fun t1 => (if t1 = true then ((impl_filled_c.f k a0_0 a0_0 l0_1 a1_0 l1_1).bind fun t2 => (some (impl_MulMatrix.en (t2.1, t2.2, true)))) else (some (impl_MulMatrix.en (0, ([] : List Int), false))))) := by kernel_rfl
theorem impl_MulMatrix.sf (k : Nat) (a0_0 : Int) (l0_1 : List Int) (a1_0 : Int) (l1_1 : List Int) : R.start Try.prog xhn impl_MulMatrix.O 0 Try.f104 impl_MulMatrix.fh k [.agg [.int .i64 a0_0, .imm (.I .i64 l0_1)], .agg [.int .i64 a1_0, .imm (.I .i64 l1_1)]] [] = (impl_MulMatrix.f k a0_0 l0_1 a1_0 l1_1).map (impl_MulMatrix.en) := by
  rw [impl_MulMatrix.ef]
  simp only [impl_MulMatrix.f, R.map_ite, R.map_bind, R.map_none, R.map_some]
theorem impl_MulMatrix.ok (k : Nat) : impl_MulMatrix.tw.Ok Try.prog k := by
  intro a r h
  refine fn_ok (H := xhn) (fh := impl_MulMatrix.fh) (O := impl_MulMatrix.O) (k := k) Try.func104 (by kernel_rfl) (by kernel_rfl) (fun j _ => (Tw.orc_sound impl_alike.dok (impl_alike.ok j) (Tw.orc_sound impl_filled_c.dok (impl_filled_c.ok j) noO_sound))) (by kernel_rfl) (m := 0) rfl ?_
  refine (impl_MulMatrix.sf k a.1 a.2.1 a.2.2.1 a.2.2.2).trans ?_
  exact congrArg (Option.map _) h
def impl_WordMatrix.l0 : Nat → ByteArray → Int → Int → Int → (List Int) → (List Int) → (List Stp) → Int → (List Int) → Option (Int × (List Int) × Bool)
  | 0, _, _, _, _, _, _, _, _, _ => none
  | k + 1, x1, x27, x28, y0_0, y0_1, y0_2, y0_3, y2_0, y4 => (if x28 < x27 then (if 0 ≤ x28 then (if x28 ≤ (wrap64 (x28 + 1)) then (if (wrap64 (x28 + 1)) ≤ (x1.size : Int) then ((impl_StepMatrix.f k y0_0 y0_1 y0_2 y0_3 (x1.extract x28.toNat (wrap64 (x28 + 1)).toNat)).bind fun t4 => ((impl_MulMatrix.f k y2_0 y4 t4.1 t4.2.1).bind fun t5 => (impl_WordMatrix.l0 k x1 x27 (wrap64 (x28 + 1)) y0_0 y0_1 y0_2 y0_3 t5.1 t5.2.1))) else none) else none) else none) else (some (y2_0, y4, true)))
def impl_WordMatrix.f (k : Nat) (a0_0 : Int) (l0_1 : List Int) (l0_2 : List Int) (l0_3 : List Stp) (a1 : ByteArray) : Option (Int × (List Int) × Bool) := ((impl_AutomatonValid.f k a0_0 l0_1 l0_2 l0_3).bind fun t1 => (if t1 = true then ((impl_WordValid.f k a1).bind fun t2 => (if t2 = true then ((impl_UnitMatrix.f k a0_0).bind fun t3 => (impl_WordMatrix.l0 k a1 (a1.size : Int) 0 a0_0 l0_1 l0_2 l0_3 t3.1 t3.2.1)) else (some (0, ([] : List Int), false)))) else (some (0, ([] : List Int), false))))
def impl_WordMatrix.en (r : Int × (List Int) × Bool) : Res := (.tup [.agg [.int .i64 r.1, .sl 0 0], .lit r.2.2], [.arr 3 0 (.I .i64 r.2.1) false])
def impl_WordMatrix.dec : List AV → List R.Obj → Option (Int × (List Int) × (List Int) × (List Stp) × ByteArray)
  | [.agg [.int .i64 a0_0, .imm (.I .i64 l0_1), .imm (.I .i64 l0_2), .imm (.T l0_3)], .str a1], [] => some (a0_0, l0_1, l0_2, l0_3, a1)
  | _, _ => none
def impl_WordMatrix.tw : Tw := ⟨38, Int × (List Int) × (List Int) × (List Stp) × ByteArray, Int × (List Int) × Bool, impl_WordMatrix.dec, fun a => [.agg [.int .i64 a.1, .imm (.I .i64 a.2.1), .imm (.I .i64 a.2.2.1), .imm (.T a.2.2.2.1)], .str a.2.2.2.2], fun a => [], fun k a => impl_WordMatrix.f k a.1 a.2.1 a.2.2.1 a.2.2.2.1 a.2.2.2.2, fun a r => impl_WordMatrix.en r⟩
theorem impl_WordMatrix.dok : impl_WordMatrix.tw.DecOk := by
  intro args hc a h
  have h : impl_WordMatrix.dec args hc = some a := h
  unfold impl_WordMatrix.dec at h
  split at h
  · cases h; exact ⟨rfl, rfl⟩
  · cases h
noncomputable def impl_WordMatrix.O (k : Nat) : Oracle := (impl_AutomatonValid.tw.orc k (impl_WordValid.tw.orc k (impl_UnitMatrix.tw.orc k (impl_StepMatrix.tw.orc k (impl_MulMatrix.tw.orc k noO)))))
def impl_WordMatrix.fh : FH := ⟨fun i => match i with | 5 => some [(1, 0), (2, 0), (4, 0), (6, 0), (27, 0), (28, 0)] | _ => none, [(true, 3)], false⟩
noncomputable def impl_WordMatrix.x0 (k : Nat) (x1 : ByteArray) (x27 : Int) (x28 : Int) (y0_0 : Int) (y0_1 : List Int) (y0_2 : List Int) (y0_3 : List Stp) (y2_0 : Int) (y4 : List Int) : Option Res := R.exec Try.prog xhn impl_WordMatrix.O 0 Try.f38 impl_WordMatrix.fh k (R.point Try.f38 5) ⟨[(1, .str x1), (2, .ptr 0 0), (4, .ptr 1 0), (6, .ptr 2 0), (27, .int .i64 x27), (28, .int .i64 x28)], [(0, .box false [.int .i64 y0_0, .imm (.I .i64 y0_1), .imm (.I .i64 y0_2), .imm (.T y0_3)]), (1, .box false [.int .i64 0, .sl 3 0]), (2, .box false [.int .i64 y2_0, .sl 4 0]), (3, .arr 3 0 (.I .i64 ([] : List Int)) false), (4, .arr 3 0 (.I .i64 y4) false)], 7⟩
set_option maxRecDepth 100000 in
theorem impl_WordMatrix.e0 (k : Nat) (x1 : ByteArray) (x27 : Int) (x28 : Int) (y0_0 : Int) (y0_1 : List Int) (y0_2 : List Int) (y0_3 : List Stp) (y2_0 : Int) (y4 : List Int) : impl_WordMatrix.x0 (k + 1) x1 x27 x28 y0_0 y0_1 y0_2 y0_3 y2_0 y4 = (if x28 < x27 then (if 0 ≤ x28 then (if x28 ≤ (wrap64 (x28 + 1)) then (if (wrap64 (x28 + 1)) ≤ (x1.size : Int) then ((impl_StepMatrix.f k y0_0 y0_1 y0_2 y0_3 (x1.extract x28.toNat (wrap64 (x28 + 1)).toNat)).bind fun t4 => ((impl_MulMatrix.f k y2_0 y4 t4.1 t4.2.1).bind fun t5 => (impl_WordMatrix.x0 k x1 x27 (wrap64 (x28 + 1)) y0_0 y0_1 y0_2 y0_3 t5.1 t5.2.1))) else none) else none) else none) else (some (impl_WordMatrix.en (y2_0, y4, true)))) := by kernel_rfl
set_option maxRecDepth 100000 in
theorem impl_WordMatrix.ef (k : Nat) (a0_0 : Int) (l0_1 : List Int) (l0_2 : List Int) (l0_3 : List Stp) (a1 : ByteArray) : R.start Try.prog xhn impl_WordMatrix.O 0 Try.f38 impl_WordMatrix.fh k [.agg [.int .i64 a0_0, .imm (.I .i64 l0_1), .imm (.I .i64 l0_2), .imm (.T l0_3)], .str a1] [] = ((impl_AutomatonValid.f k a0_0 l0_1 l0_2 l0_3).bind fun t1 => (if t1 = true then ((impl_WordValid.f k a1).bind fun t2 => (if t2 = true then ((impl_UnitMatrix.f k a0_0).bind fun t3 => (impl_WordMatrix.x0 k a1 (a1.size : Int) 0 a0_0 l0_1 l0_2 l0_3 t3.1 t3.2.1)) else (some (impl_WordMatrix.en (0, ([] : List Int), false))))) else (some (impl_WordMatrix.en (0, ([] : List Int), false))))) := by kernel_rfl
theorem impl_WordMatrix.link : ∀ k, (∀ (x1 : ByteArray) (x27 : Int) (x28 : Int) (y0_0 : Int) (y0_1 : List Int) (y0_2 : List Int) (y0_3 : List Stp) (y2_0 : Int) (y4 : List Int), impl_WordMatrix.x0 k x1 x27 x28 y0_0 y0_1 y0_2 y0_3 y2_0 y4 = (impl_WordMatrix.l0 k x1 x27 x28 y0_0 y0_1 y0_2 y0_3 y2_0 y4).map (impl_WordMatrix.en))
  | 0 => fun _ _ _ _ _ _ _ _ _ => by simp only [impl_WordMatrix.l0, R.map_none]; rfl
  | k + 1 => by
    have ih0 := impl_WordMatrix.link k
    · intro x1 x27 x28 y0_0 y0_1 y0_2 y0_3 y2_0 y4
      rw [impl_WordMatrix.e0]
      simp only [impl_WordMatrix.l0, R.map_ite, R.map_bind, R.map_none, R.map_some, ← ih0]
theorem impl_WordMatrix.sf (k : Nat) (a0_0 : Int) (l0_1 : List Int) (l0_2 : List Int) (l0_3 : List Stp) (a1 : ByteArray) : R.start Try.prog xhn impl_WordMatrix.O 0 Try.f38 impl_WordMatrix.fh k [.agg [.int .i64 a0_0, .imm (.I .i64 l0_1), .imm (.I .i64 l0_2), .imm (.T l0_3)], .str a1] [] = (impl_WordMatrix.f k a0_0 l0_1 l0_2 l0_3 a1).map (impl_WordMatrix.en) := by
  have ih0 := impl_WordMatrix.link k
  rw [impl_WordMatrix.ef]
  simp only [impl_WordMatrix.f, R.map_ite, R.map_bind, R.map_none, R.map_some, ← ih0]
theorem impl_WordMatrix.ok (k : Nat) : impl_WordMatrix.tw.Ok Try.prog k := by
  intro a r h
  refine fn_ok (H := xhn) (fh := impl_WordMatrix.fh) (O := impl_WordMatrix.O) (k := k) Try.func38 (by kernel_rfl) (by kernel_rfl) (fun j _ => (Tw.orc_sound impl_AutomatonValid.dok (impl_AutomatonValid.ok j) (Tw.orc_sound impl_WordValid.dok (impl_WordValid.ok j) (Tw.orc_sound impl_UnitMatrix.dok (impl_UnitMatrix.ok j) (Tw.orc_sound impl_StepMatrix.dok (impl_StepMatrix.ok j) (Tw.orc_sound impl_MulMatrix.dok (impl_MulMatrix.ok j) noO_sound)))))) (by kernel_rfl) (m := 0) rfl ?_
  refine (impl_WordMatrix.sf k a.1 a.2.1 a.2.2.1 a.2.2.2.1 a.2.2.2.2).trans ?_
  exact congrArg (Option.map _) h
def spec_WordValid.l0 : Nat → ByteArray → Int → Int → Option (Bool)
  | 0, _, _, _ => none
  | k + 1, x0, x5, x6 => (if x6 < x5 then (if 0 ≤ x6 then (if x6 < (x0.size : Int) then (if (btI x0 x6) = 97 then (spec_WordValid.l0 k x0 x5 (wrap64 (x6 + 1))) else (if (btI x0 x6) = 98 then (spec_WordValid.l0 k x0 x5 (wrap64 (x6 + 1))) else (some false))) else none) else none) else (some (decide ((x0.size : Int) ≤ 1000))))
def spec_WordValid.f (k : Nat) (a0 : ByteArray) : Option (Bool) := (spec_WordValid.l0 k a0 (a0.size : Int) 0)
def spec_WordValid.en (r : Bool) : Res := (.lit r, [])
def spec_WordValid.dec : List AV → List R.Obj → Option (ByteArray)
  | [.str a0], [] => some a0
  | _, _ => none
def spec_WordValid.tw : Tw := ⟨141, ByteArray, Bool, spec_WordValid.dec, fun a => [.str a], fun a => [], fun k a => spec_WordValid.f k a, fun a r => spec_WordValid.en r⟩
theorem spec_WordValid.dok : spec_WordValid.tw.DecOk := by
  intro args hc a h
  have h : spec_WordValid.dec args hc = some a := h
  unfold spec_WordValid.dec at h
  split at h
  · cases h; exact ⟨rfl, rfl⟩
  · cases h
noncomputable def spec_WordValid.O (k : Nat) : Oracle := noO
def spec_WordValid.fh : FH := ⟨fun i => match i with | 2 => some [(0, 0), (5, 0), (6, 0)] | _ => none, [], false⟩
noncomputable def spec_WordValid.x0 (k : Nat) (x0 : ByteArray) (x5 : Int) (x6 : Int) : Option Res := R.exec Try.prog xhn spec_WordValid.O 0 Try.f141 spec_WordValid.fh k (R.point Try.f141 2) ⟨[(0, .str x0), (5, .int .i64 x5), (6, .int .i64 x6)], [], 2⟩
set_option maxRecDepth 100000 in
theorem spec_WordValid.e0 (k : Nat) (x0 : ByteArray) (x5 : Int) (x6 : Int) : spec_WordValid.x0 (k + 1) x0 x5 x6 = (if x6 < x5 then (if 0 ≤ x6 then (if x6 < (x0.size : Int) then (if (btI x0 x6) = 97 then (spec_WordValid.x0 k x0 x5 (wrap64 (x6 + 1))) else (if (btI x0 x6) = 98 then (spec_WordValid.x0 k x0 x5 (wrap64 (x6 + 1))) else (some (spec_WordValid.en false)))) else none) else none) else (some (spec_WordValid.en (decide ((x0.size : Int) ≤ 1000))))) := by
  refine Eq.trans ?_ (R.icong (fun h0 => (R.icong (fun h1 => (R.icong (fun h2 => (R.icong (fun h3 => rfl) (fun h3 => (R.idropT (p := 0 ≤ x6) (z := none) h1 (R.idropT (p := x6 < (x0.size : Int)) (z := none) h2 rfl))))) (fun h2 => rfl))) (fun h1 => rfl))) (fun h0 => rfl))
  kernel_rfl
set_option maxRecDepth 100000 in
theorem spec_WordValid.ef (k : Nat) (a0 : ByteArray) : R.start Try.prog xhn spec_WordValid.O 0 Try.f141 spec_WordValid.fh k [.str a0] [] = (spec_WordValid.x0 k a0 (a0.size : Int) 0) := by kernel_rfl
theorem spec_WordValid.link : ∀ k, (∀ (x0 : ByteArray) (x5 : Int) (x6 : Int), spec_WordValid.x0 k x0 x5 x6 = (spec_WordValid.l0 k x0 x5 x6).map (spec_WordValid.en))
  | 0 => fun _ _ _ => by simp only [spec_WordValid.l0, R.map_none]; rfl
  | k + 1 => by
    have ih0 := spec_WordValid.link k
    · intro x0 x5 x6
      rw [spec_WordValid.e0]
      simp only [spec_WordValid.l0, R.map_ite, R.map_bind, R.map_none, R.map_some, ← ih0]
theorem spec_WordValid.sf (k : Nat) (a0 : ByteArray) : R.start Try.prog xhn spec_WordValid.O 0 Try.f141 spec_WordValid.fh k [.str a0] [] = (spec_WordValid.f k a0).map (spec_WordValid.en) := by
  have ih0 := spec_WordValid.link k
  rw [spec_WordValid.ef]
  simp only [spec_WordValid.f, R.map_ite, R.map_bind, R.map_none, R.map_some, ← ih0]
theorem spec_WordValid.ok (k : Nat) : spec_WordValid.tw.Ok Try.prog k := by
  intro a r h
  refine fn_ok (H := xhn) (fh := spec_WordValid.fh) (O := spec_WordValid.O) (k := k) Try.func141 (by kernel_rfl) (by kernel_rfl) (fun j _ => noO_sound) (by kernel_rfl) (m := 0) rfl ?_
  refine (spec_WordValid.sf k a).trans ?_
  exact congrArg (Option.map _) h
def spec_l4Asked.f (k : Nat) (a0_0 : Int) (l0_1 : List Int) (l0_2 : List Int) (l0_3 : List Stp) (a1 : ByteArray) : Option (Bool) := ((spec_AutomatonValid.f k a0_0 l0_1 l0_2 l0_3).bind fun t1 => (if t1 = true then ((spec_WordValid.f k a1).bind fun t2 => (some t2)) else (some false)))
def spec_l4Asked.en (r : Bool) : Res := (.lit r, [])
def spec_l4Asked.dec : List AV → List R.Obj → Option (Int × (List Int) × (List Int) × (List Stp) × ByteArray)
  | [.agg [.int .i64 a0_0, .imm (.I .i64 l0_1), .imm (.I .i64 l0_2), .imm (.T l0_3)], .str a1], [] => some (a0_0, l0_1, l0_2, l0_3, a1)
  | _, _ => none
def spec_l4Asked.tw : Tw := ⟨77, Int × (List Int) × (List Int) × (List Stp) × ByteArray, Bool, spec_l4Asked.dec, fun a => [.agg [.int .i64 a.1, .imm (.I .i64 a.2.1), .imm (.I .i64 a.2.2.1), .imm (.T a.2.2.2.1)], .str a.2.2.2.2], fun a => [], fun k a => spec_l4Asked.f k a.1 a.2.1 a.2.2.1 a.2.2.2.1 a.2.2.2.2, fun a r => spec_l4Asked.en r⟩
theorem spec_l4Asked.dok : spec_l4Asked.tw.DecOk := by
  intro args hc a h
  have h : spec_l4Asked.dec args hc = some a := h
  unfold spec_l4Asked.dec at h
  split at h
  · cases h; exact ⟨rfl, rfl⟩
  · cases h
noncomputable def spec_l4Asked.O (k : Nat) : Oracle := (spec_AutomatonValid.tw.orc k (spec_WordValid.tw.orc k noO))
def spec_l4Asked.fh : FH := ⟨fun i => match i with | _ => none, [], false⟩
set_option maxRecDepth 100000 in
theorem spec_l4Asked.ef (k : Nat) (a0_0 : Int) (l0_1 : List Int) (l0_2 : List Int) (l0_3 : List Stp) (a1 : ByteArray) : R.start Try.prog xhn spec_l4Asked.O 0 Try.f77 spec_l4Asked.fh k [.agg [.int .i64 a0_0, .imm (.I .i64 l0_1), .imm (.I .i64 l0_2), .imm (.T l0_3)], .str a1] [] = ((spec_AutomatonValid.f k a0_0 l0_1 l0_2 l0_3).bind fun t1 => (if t1 = true then ((spec_WordValid.f k a1).bind fun t2 => (some (spec_l4Asked.en t2))) else (some (spec_l4Asked.en false)))) := by kernel_rfl
theorem spec_l4Asked.sf (k : Nat) (a0_0 : Int) (l0_1 : List Int) (l0_2 : List Int) (l0_3 : List Stp) (a1 : ByteArray) : R.start Try.prog xhn spec_l4Asked.O 0 Try.f77 spec_l4Asked.fh k [.agg [.int .i64 a0_0, .imm (.I .i64 l0_1), .imm (.I .i64 l0_2), .imm (.T l0_3)], .str a1] [] = (spec_l4Asked.f k a0_0 l0_1 l0_2 l0_3 a1).map (spec_l4Asked.en) := by
  rw [spec_l4Asked.ef]
  simp only [spec_l4Asked.f, R.map_ite, R.map_bind, R.map_none, R.map_some]
theorem spec_l4Asked.ok (k : Nat) : spec_l4Asked.tw.Ok Try.prog k := by
  intro a r h
  refine fn_ok (H := xhn) (fh := spec_l4Asked.fh) (O := spec_l4Asked.O) (k := k) Try.func77 (by kernel_rfl) (by kernel_rfl) (fun j _ => (Tw.orc_sound spec_AutomatonValid.dok (spec_AutomatonValid.ok j) (Tw.orc_sound spec_WordValid.dok (spec_WordValid.ok j) noO_sound))) (by kernel_rfl) (m := 0) rfl ?_
  refine (spec_l4Asked.sf k a.1 a.2.1 a.2.2.1 a.2.2.2.1 a.2.2.2.2).trans ?_
  exact congrArg (Option.map _) h
def spec_l2Unit.l0 : Nat → Int → Int → Int → Int → (List Int) → Option (Int × (List Int))
  | 0, _, _, _, _, _ => none
  | k + 1, x0, x9, x10, y1_0, y3 => (if x10 < x9 then (if x0 = 0 then none else (if (wrap64 (x10.tdiv x0)) = (x10.tmod x0) then (if y3.length < 17592186044416 then (spec_l2Unit.l0 k x0 x9 (wrap64 (x10 + 1)) y1_0 (y3 ++ [0])) else none) else (if y3.length < 17592186044416 then (spec_l2Unit.l0 k x0 x9 (wrap64 (x10 + 1)) y1_0 (y3 ++ [1000000])) else none))) else (some (y1_0, y3)))
def spec_l2Unit.f (k : Nat) (a0 : Int) : Option (Int × (List Int)) := (spec_l2Unit.l0 k a0 (wrap64 (a0 * a0)) 0 a0 ([] : List Int))
def spec_l2Unit.en (r : Int × (List Int)) : Res := (.agg [.int .i64 r.1, .sl 0 0], [.arr 3 0 (.I .i64 r.2) false])
def spec_l2Unit.dec : List AV → List R.Obj → Option (Int)
  | [.int .i64 a0], [] => some a0
  | _, _ => none
def spec_l2Unit.tw : Tw := ⟨160, Int, Int × (List Int), spec_l2Unit.dec, fun a => [.int .i64 a], fun a => [], fun k a => spec_l2Unit.f k a, fun a r => spec_l2Unit.en r⟩
theorem spec_l2Unit.dok : spec_l2Unit.tw.DecOk := by
  intro args hc a h
  have h : spec_l2Unit.dec args hc = some a := h
  unfold spec_l2Unit.dec at h
  split at h
  · cases h; exact ⟨rfl, rfl⟩
  · cases h
noncomputable def spec_l2Unit.O (k : Nat) : Oracle := noO
def spec_l2Unit.fh : FH := ⟨fun i => match i with | 3 => some [(0, 0), (2, 0), (3, 0), (9, 0), (10, 0)] | _ => none, [(true, 3)], false⟩
noncomputable def spec_l2Unit.x0 (k : Nat) (x0 : Int) (x9 : Int) (x10 : Int) (y1_0 : Int) (y3 : List Int) : Option Res := R.exec Try.prog xhn spec_l2Unit.O 0 Try.f160 spec_l2Unit.fh k (R.point Try.f160 3) ⟨[(0, .int .i64 x0), (2, .ptr 0 0), (3, .ptr 1 0), (9, .int .i64 x9), (10, .int .i64 x10)], [(0, .box false [.int .i64 0, .sl 2 0]), (1, .box false [.int .i64 y1_0, .sl 3 0]), (2, .arr 3 0 (.I .i64 ([] : List Int)) false), (3, .arr 3 0 (.I .i64 y3) false)], 6⟩
set_option maxRecDepth 100000 in
theorem spec_l2Unit.e0 (k : Nat) (x0 : Int) (x9 : Int) (x10 : Int) (y1_0 : Int) (y3 : List Int) : spec_l2Unit.x0 (k + 1) x0 x9 x10 y1_0 y3 = (if x10 < x9 then (if x0 = 0 then none else (if (wrap64 (x10.tdiv x0)) = (x10.tmod x0) then (if y3.length < 17592186044416 then (spec_l2Unit.x0 k x0 x9 (wrap64 (x10 + 1)) y1_0 (y3 ++ [0])) else none) else (if y3.length < 17592186044416 then (spec_l2Unit.x0 k x0 x9 (wrap64 (x10 + 1)) y1_0 (y3 ++ [1000000])) else none))) else (some (spec_l2Unit.en (y1_0, y3)))) := by
  refine Eq.trans ?_ (R.icong (fun h0 => (R.icong (fun h1 => rfl) (fun h1 => (R.idropF (p := x0 = 0) (z := none) h1 rfl)))) (fun h0 => rfl))
  kernel_rfl
set_option maxRecDepth 100000 in
theorem spec_l2Unit.ef (k : Nat) (a0 : Int) : R.start Try.prog xhn spec_l2Unit.O 0 Try.f160 spec_l2Unit.fh k [.int .i64 a0] [] = (spec_l2Unit.x0 k a0 (wrap64 (a0 * a0)) 0 a0 ([] : List Int)) := by kernel_rfl
theorem spec_l2Unit.link : ∀ k, (∀ (x0 : Int) (x9 : Int) (x10 : Int) (y1_0 : Int) (y3 : List Int), spec_l2Unit.x0 k x0 x9 x10 y1_0 y3 = (spec_l2Unit.l0 k x0 x9 x10 y1_0 y3).map (spec_l2Unit.en))
  | 0 => fun _ _ _ _ _ => by simp only [spec_l2Unit.l0, R.map_none]; rfl
  | k + 1 => by
    have ih0 := spec_l2Unit.link k
    · intro x0 x9 x10 y1_0 y3
      rw [spec_l2Unit.e0]
      simp only [spec_l2Unit.l0, R.map_ite, R.map_bind, R.map_none, R.map_some, ← ih0]
theorem spec_l2Unit.sf (k : Nat) (a0 : Int) : R.start Try.prog xhn spec_l2Unit.O 0 Try.f160 spec_l2Unit.fh k [.int .i64 a0] [] = (spec_l2Unit.f k a0).map (spec_l2Unit.en) := by
  have ih0 := spec_l2Unit.link k
  rw [spec_l2Unit.ef]
  simp only [spec_l2Unit.f, R.map_ite, R.map_bind, R.map_none, R.map_some, ← ih0]
theorem spec_l2Unit.ok (k : Nat) : spec_l2Unit.tw.Ok Try.prog k := by
  intro a r h
  refine fn_ok (H := xhn) (fh := spec_l2Unit.fh) (O := spec_l2Unit.O) (k := k) Try.func160 (by kernel_rfl) (by kernel_rfl) (fun j _ => noO_sound) (by kernel_rfl) (m := 0) rfl ?_
  refine (spec_l2Unit.sf k a).trans ?_
  exact congrArg (Option.map _) h
mutual
def spec_l3Matrix.l0 : Nat → ByteArray → Int → Int → Int → (List Int) → (List Int) → (List Stp) → Int → (List Int) → Option (Int × (List Int))
  | 0, _, _, _, _, _, _, _, _, _ => none
  | k + 1, x1, x15, x16, y0_0, y0_1, y0_2, y0_3, y2_0, y4 => (if x16 < x15 then (if y4.length < 17592186044416 then (spec_l3Matrix.l0 k x1 x15 (wrap64 (x16 + 1)) y0_0 y0_1 y0_2 y0_3 y2_0 (y4 ++ [1000000])) else none) else (spec_l3Matrix.l1 k x1 y0_3 (y0_3.length : Int) 0 y0_0 y0_1 y0_2 y0_3 y2_0 y4))
def spec_l3Matrix.l1 : Nat → ByteArray → (List Stp) → Int → Int → Int → (List Int) → (List Int) → (List Stp) → Int → (List Int) → Option (Int × (List Int))
  | 0, _, _, _, _, _, _, _, _, _, _ => none
  | k + 1, x1, x25, x26, x27, y0_0, y0_1, y0_2, y0_3, y2_0, y4 => (if x27 < x26 then (if 0 ≤ x27 then (if x27 < (x25.length : Int) then (if (rdT x25 x27).f1.toList = x1.toList then (if 0 ≤ (wrap64 ((wrap64 ((rdT x25 x27).f0 * y0_0)) + (rdT x25 x27).f2)) then (if (wrap64 ((wrap64 ((rdT x25 x27).f0 * y0_0)) + (rdT x25 x27).f2)) < (y4.length : Int) then (spec_l3Matrix.l1 k x1 x25 x26 (wrap64 (x27 + 1)) y0_0 y0_1 y0_2 y0_3 y2_0 (y4.set (wrap64 ((wrap64 ((rdT x25 x27).f0 * y0_0)) + (rdT x25 x27).f2)).toNat (rdT x25 x27).f3)) else none) else none) else (spec_l3Matrix.l1 k x1 x25 x26 (wrap64 (x27 + 1)) y0_0 y0_1 y0_2 y0_3 y2_0 y4)) else none) else none) else (some (y2_0, y4)))
end
def spec_l3Matrix.f (k : Nat) (a0_0 : Int) (l0_1 : List Int) (l0_2 : List Int) (l0_3 : List Stp) (a1 : ByteArray) : Option (Int × (List Int)) := (spec_l3Matrix.l0 k a1 (wrap64 (a0_0 * a0_0)) 0 a0_0 l0_1 l0_2 l0_3 a0_0 ([] : List Int))
def spec_l3Matrix.en (r : Int × (List Int)) : Res := (.agg [.int .i64 r.1, .sl 0 0], [.arr 3 0 (.I .i64 r.2) false])
def spec_l3Matrix.dec : List AV → List R.Obj → Option (Int × (List Int) × (List Int) × (List Stp) × ByteArray)
  | [.agg [.int .i64 a0_0, .imm (.I .i64 l0_1), .imm (.I .i64 l0_2), .imm (.T l0_3)], .str a1], [] => some (a0_0, l0_1, l0_2, l0_3, a1)
  | _, _ => none
def spec_l3Matrix.tw : Tw := ⟨161, Int × (List Int) × (List Int) × (List Stp) × ByteArray, Int × (List Int), spec_l3Matrix.dec, fun a => [.agg [.int .i64 a.1, .imm (.I .i64 a.2.1), .imm (.I .i64 a.2.2.1), .imm (.T a.2.2.2.1)], .str a.2.2.2.2], fun a => [], fun k a => spec_l3Matrix.f k a.1 a.2.1 a.2.2.1 a.2.2.2.1 a.2.2.2.2, fun a r => spec_l3Matrix.en r⟩
theorem spec_l3Matrix.dok : spec_l3Matrix.tw.DecOk := by
  intro args hc a h
  have h : spec_l3Matrix.dec args hc = some a := h
  unfold spec_l3Matrix.dec at h
  split at h
  · cases h; exact ⟨rfl, rfl⟩
  · cases h
noncomputable def spec_l3Matrix.O (k : Nat) : Oracle := noO
def spec_l3Matrix.fh : FH := ⟨fun i => match i with | 3 => some [(1, 0), (2, 0), (4, 0), (5, 0), (15, 0), (16, 0)] | 7 => some [(1, 0), (2, 0), (4, 0), (5, 0), (25, 0), (26, 0), (27, 0)] | _ => none, [(true, 3)], false⟩
noncomputable def spec_l3Matrix.x0 (k : Nat) (x1 : ByteArray) (x15 : Int) (x16 : Int) (y0_0 : Int) (y0_1 : List Int) (y0_2 : List Int) (y0_3 : List Stp) (y2_0 : Int) (y4 : List Int) : Option Res := R.exec Try.prog xhn spec_l3Matrix.O 0 Try.f161 spec_l3Matrix.fh k (R.point Try.f161 3) ⟨[(1, .str x1), (2, .ptr 0 0), (4, .ptr 1 0), (5, .ptr 2 0), (15, .int .i64 x15), (16, .int .i64 x16)], [(0, .box false [.int .i64 y0_0, .imm (.I .i64 y0_1), .imm (.I .i64 y0_2), .imm (.T y0_3)]), (1, .box false [.int .i64 0, .sl 3 0]), (2, .box false [.int .i64 y2_0, .sl 4 0]), (3, .arr 3 0 (.I .i64 ([] : List Int)) false), (4, .arr 3 0 (.I .i64 y4) false)], 7⟩
noncomputable def spec_l3Matrix.x1 (k : Nat) (x1 : ByteArray) (x25 : List Stp) (x26 : Int) (x27 : Int) (y0_0 : Int) (y0_1 : List Int) (y0_2 : List Int) (y0_3 : List Stp) (y2_0 : Int) (y4 : List Int) : Option Res := R.exec Try.prog xhn spec_l3Matrix.O 0 Try.f161 spec_l3Matrix.fh k (R.point Try.f161 7) ⟨[(1, .str x1), (2, .ptr 0 0), (4, .ptr 1 0), (5, .ptr 2 0), (25, .imm (.T x25)), (26, .int .i64 x26), (27, .int .i64 x27)], [(0, .box false [.int .i64 y0_0, .imm (.I .i64 y0_1), .imm (.I .i64 y0_2), .imm (.T y0_3)]), (1, .box false [.int .i64 0, .sl 3 0]), (2, .box false [.int .i64 y2_0, .sl 4 0]), (3, .arr 3 0 (.I .i64 ([] : List Int)) false), (4, .arr 3 0 (.I .i64 y4) false)], 7⟩
set_option maxRecDepth 100000 in
theorem spec_l3Matrix.e0 (k : Nat) (x1 : ByteArray) (x15 : Int) (x16 : Int) (y0_0 : Int) (y0_1 : List Int) (y0_2 : List Int) (y0_3 : List Stp) (y2_0 : Int) (y4 : List Int) : spec_l3Matrix.x0 (k + 1) x1 x15 x16 y0_0 y0_1 y0_2 y0_3 y2_0 y4 = (if x16 < x15 then (if y4.length < 17592186044416 then (spec_l3Matrix.x0 k x1 x15 (wrap64 (x16 + 1)) y0_0 y0_1 y0_2 y0_3 y2_0 (y4 ++ [1000000])) else none) else (spec_l3Matrix.x1 k x1 y0_3 (y0_3.length : Int) 0 y0_0 y0_1 y0_2 y0_3 y2_0 y4)) := by kernel_rfl
set_option maxRecDepth 100000 in
theorem spec_l3Matrix.e1 (k : Nat) (x1 : ByteArray) (x25 : List Stp) (x26 : Int) (x27 : Int) (y0_0 : Int) (y0_1 : List Int) (y0_2 : List Int) (y0_3 : List Stp) (y2_0 : Int) (y4 : List Int) : spec_l3Matrix.x1 (k + 1) x1 x25 x26 x27 y0_0 y0_1 y0_2 y0_3 y2_0 y4 = (if x27 < x26 then (if 0 ≤ x27 then (if x27 < (x25.length : Int) then (if (rdT x25 x27).f1.toList = x1.toList then (if 0 ≤ (wrap64 ((wrap64 ((rdT x25 x27).f0 * y0_0)) + (rdT x25 x27).f2)) then (if (wrap64 ((wrap64 ((rdT x25 x27).f0 * y0_0)) + (rdT x25 x27).f2)) < (y4.length : Int) then (spec_l3Matrix.x1 k x1 x25 x26 (wrap64 (x27 + 1)) y0_0 y0_1 y0_2 y0_3 y2_0 (y4.set (wrap64 ((wrap64 ((rdT x25 x27).f0 * y0_0)) + (rdT x25 x27).f2)).toNat (rdT x25 x27).f3)) else none) else none) else (spec_l3Matrix.x1 k x1 x25 x26 (wrap64 (x27 + 1)) y0_0 y0_1 y0_2 y0_3 y2_0 y4)) else none) else none) else (some (spec_l3Matrix.en (y2_0, y4)))) := by kernel_rfl
set_option maxRecDepth 100000 in
theorem spec_l3Matrix.ef (k : Nat) (a0_0 : Int) (l0_1 : List Int) (l0_2 : List Int) (l0_3 : List Stp) (a1 : ByteArray) : R.start Try.prog xhn spec_l3Matrix.O 0 Try.f161 spec_l3Matrix.fh k [.agg [.int .i64 a0_0, .imm (.I .i64 l0_1), .imm (.I .i64 l0_2), .imm (.T l0_3)], .str a1] [] = (spec_l3Matrix.x0 k a1 (wrap64 (a0_0 * a0_0)) 0 a0_0 l0_1 l0_2 l0_3 a0_0 ([] : List Int)) := by kernel_rfl
theorem spec_l3Matrix.link : ∀ k, (∀ (x1 : ByteArray) (x15 : Int) (x16 : Int) (y0_0 : Int) (y0_1 : List Int) (y0_2 : List Int) (y0_3 : List Stp) (y2_0 : Int) (y4 : List Int), spec_l3Matrix.x0 k x1 x15 x16 y0_0 y0_1 y0_2 y0_3 y2_0 y4 = (spec_l3Matrix.l0 k x1 x15 x16 y0_0 y0_1 y0_2 y0_3 y2_0 y4).map (spec_l3Matrix.en)) ∧ (∀ (x1 : ByteArray) (x25 : List Stp) (x26 : Int) (x27 : Int) (y0_0 : Int) (y0_1 : List Int) (y0_2 : List Int) (y0_3 : List Stp) (y2_0 : Int) (y4 : List Int), spec_l3Matrix.x1 k x1 x25 x26 x27 y0_0 y0_1 y0_2 y0_3 y2_0 y4 = (spec_l3Matrix.l1 k x1 x25 x26 x27 y0_0 y0_1 y0_2 y0_3 y2_0 y4).map (spec_l3Matrix.en))
  | 0 => ⟨fun _ _ _ _ _ _ _ _ _ => by simp only [spec_l3Matrix.l0, R.map_none]; rfl, fun _ _ _ _ _ _ _ _ _ _ => by simp only [spec_l3Matrix.l1, R.map_none]; rfl⟩
  | k + 1 => by
    obtain ⟨ih0, ih1⟩ := spec_l3Matrix.link k
    refine ⟨?_, ?_⟩
    · intro x1 x15 x16 y0_0 y0_1 y0_2 y0_3 y2_0 y4
      rw [spec_l3Matrix.e0]
      simp only [spec_l3Matrix.l0, R.map_ite, R.map_bind, R.map_none, R.map_some, ← ih0, ← ih1]
    · intro x1 x25 x26 x27 y0_0 y0_1 y0_2 y0_3 y2_0 y4
      rw [spec_l3Matrix.e1]
      simp only [spec_l3Matrix.l1, R.map_ite, R.map_bind, R.map_none, R.map_some, ← ih0, ← ih1]
theorem spec_l3Matrix.sf (k : Nat) (a0_0 : Int) (l0_1 : List Int) (l0_2 : List Int) (l0_3 : List Stp) (a1 : ByteArray) : R.start Try.prog xhn spec_l3Matrix.O 0 Try.f161 spec_l3Matrix.fh k [.agg [.int .i64 a0_0, .imm (.I .i64 l0_1), .imm (.I .i64 l0_2), .imm (.T l0_3)], .str a1] [] = (spec_l3Matrix.f k a0_0 l0_1 l0_2 l0_3 a1).map (spec_l3Matrix.en) := by
  obtain ⟨ih0, ih1⟩ := spec_l3Matrix.link k
  rw [spec_l3Matrix.ef]
  simp only [spec_l3Matrix.f, R.map_ite, R.map_bind, R.map_none, R.map_some, ← ih0, ← ih1]
theorem spec_l3Matrix.ok (k : Nat) : spec_l3Matrix.tw.Ok Try.prog k := by
  intro a r h
  refine fn_ok (H := xhn) (fh := spec_l3Matrix.fh) (O := spec_l3Matrix.O) (k := k) Try.func161 (by kernel_rfl) (by kernel_rfl) (fun j _ => noO_sound) (by kernel_rfl) (m := 0) rfl ?_
  refine (spec_l3Matrix.sf k a.1 a.2.1 a.2.2.1 a.2.2.2.1 a.2.2.2.2).trans ?_
  exact congrArg (Option.map _) h
def spec_l1Add.f (a0 : Int) (a1 : Int) : Option (Int) := (some (mn (wrap64 (a0 + a1)) 1000000))
def spec_l1Add.en (r : Int) : Res := (.int .i64 r, [])
def spec_l1Add.dec : List AV → List R.Obj → Option (Int × Int)
  | [.int .i64 a0, .int .i64 a1], [] => some (a0, a1)
  | _, _ => none
def spec_l1Add.tw : Tw := ⟨187, Int × Int, Int, spec_l1Add.dec, fun a => [.int .i64 a.1, .int .i64 a.2], fun a => [], fun k a => spec_l1Add.f a.1 a.2, fun a r => spec_l1Add.en r⟩
theorem spec_l1Add.dok : spec_l1Add.tw.DecOk := by
  intro args hc a h
  have h : spec_l1Add.dec args hc = some a := h
  unfold spec_l1Add.dec at h
  split at h
  · cases h; exact ⟨rfl, rfl⟩
  · cases h
noncomputable def spec_l1Add.O (k : Nat) : Oracle := noO
def spec_l1Add.fh : FH := ⟨fun i => match i with | _ => none, [], false⟩
set_option maxRecDepth 100000 in
theorem spec_l1Add.ef (k : Nat) (a0 : Int) (a1 : Int) : R.start Try.prog xhn spec_l1Add.O 0 Try.f187 spec_l1Add.fh k [.int .i64 a0, .int .i64 a1] [] = (some (spec_l1Add.en (mn (wrap64 (a0 + a1)) 1000000))) := by kernel_rfl
theorem spec_l1Add.sf (k : Nat) (a0 : Int) (a1 : Int) : R.start Try.prog xhn spec_l1Add.O 0 Try.f187 spec_l1Add.fh k [.int .i64 a0, .int .i64 a1] [] = (spec_l1Add.f a0 a1).map (spec_l1Add.en) := by
  rw [spec_l1Add.ef]
  simp only [spec_l1Add.f, R.map_ite, R.map_bind, R.map_none, R.map_some]
theorem spec_l1Add.ok (k : Nat) : spec_l1Add.tw.Ok Try.prog k := by
  intro a r h
  refine fn_ok (H := xhn) (fh := spec_l1Add.fh) (O := spec_l1Add.O) (k := k) Try.func187 (by kernel_rfl) (by kernel_rfl) (fun j _ => noO_sound) (by kernel_rfl) (m := 0) rfl ?_
  refine (spec_l1Add.sf k a.1 a.2).trans ?_
  exact congrArg (Option.map _) h
mutual
def spec_l2Mul.l0 : Nat → Int → Int → Int → (List Int) → Int → (List Int) → Int → (List Int) → Option (Int × (List Int))
  | 0, _, _, _, _, _, _, _, _ => none
  | k + 1, x18, x19, y0_0, y0_1, y1_0, y1_1, y3_0, y5 => (if x19 < x18 then (if y0_0 = 0 then none else (spec_l2Mul.l1 k (wrap64 (x19.tdiv y0_0)) (x19.tmod y0_0) 1000000 x18 x19 y0_0 0 y0_0 y0_1 y1_0 y1_1 y3_0 y5)) else (some (y3_0, y5)))
def spec_l2Mul.l1 : Nat → Int → Int → Int → Int → Int → Int → Int → Int → (List Int) → Int → (List Int) → Int → (List Int) → Option (Int × (List Int))
  | 0, _, _, _, _, _, _, _, _, _, _, _, _, _ => none
  | k + 1, x7, x8, x9, x18, x19, x31, x32, y0_0, y0_1, y1_0, y1_1, y3_0, y5 => (if x32 < x31 then (if 0 ≤ (wrap64 ((wrap64 (x7 * y0_0)) + x32)) then (if (wrap64 ((wrap64 (x7 * y0_0)) + x32)) < (y0_1.length : Int) then (if 0 ≤ (wrap64 ((wrap64 (x32 * y0_0)) + x8)) then (if (wrap64 ((wrap64 (x32 * y0_0)) + x8)) < (y1_1.length : Int) then ((spec_l1Add.f (rdI y0_1 (wrap64 ((wrap64 (x7 * y0_0)) + x32))) (rdI y1_1 (wrap64 ((wrap64 (x32 * y0_0)) + x8)))).bind fun t1 => (spec_l2Mul.l1 k x7 x8 (mn x9 t1) x18 x19 x31 (wrap64 (x32 + 1)) y0_0 y0_1 y1_0 y1_1 y3_0 y5)) else none) else none) else none) else none) else (if y5.length < 17592186044416 then (spec_l2Mul.l0 k x18 (wrap64 (x19 + 1)) y0_0 y0_1 y1_0 y1_1 y3_0 (y5 ++ [x9])) else none))
end
def spec_l2Mul.f (k : Nat) (a0_0 : Int) (l0_1 : List Int) (a1_0 : Int) (l1_1 : List Int) : Option (Int × (List Int)) := (spec_l2Mul.l0 k (wrap64 (a0_0 * a0_0)) 0 a0_0 l0_1 a1_0 l1_1 a0_0 ([] : List Int))
def spec_l2Mul.en (r : Int × (List Int)) : Res := (.agg [.int .i64 r.1, .sl 0 0], [.arr 3 0 (.I .i64 r.2) false])
def spec_l2Mul.dec : List AV → List R.Obj → Option (Int × (List Int) × Int × (List Int))
  | [.agg [.int .i64 a0_0, .imm (.I .i64 l0_1)], .agg [.int .i64 a1_0, .imm (.I .i64 l1_1)]], [] => some (a0_0, l0_1, a1_0, l1_1)
  | _, _ => none
def spec_l2Mul.tw : Tw := ⟨162, Int × (List Int) × Int × (List Int), Int × (List Int), spec_l2Mul.dec, fun a => [.agg [.int .i64 a.1, .imm (.I .i64 a.2.1)], .agg [.int .i64 a.2.2.1, .imm (.I .i64 a.2.2.2)]], fun a => [], fun k a => spec_l2Mul.f k a.1 a.2.1 a.2.2.1 a.2.2.2, fun a r => spec_l2Mul.en r⟩
theorem spec_l2Mul.dok : spec_l2Mul.tw.DecOk := by
  intro args hc a h
  have h : spec_l2Mul.dec args hc = some a := h
  unfold spec_l2Mul.dec at h
  split at h
  · cases h; exact ⟨rfl, rfl⟩
  · cases h
noncomputable def spec_l2Mul.O (k : Nat) : Oracle := (spec_l1Add.tw.orc k noO)
def spec_l2Mul.fh : FH := ⟨fun i => match i with | 3 => some [(2, 0), (3, 0), (4, 0), (5, 0), (18, 0), (19, 0)] | 8 => some [(2, 0), (3, 0), (4, 0), (5, 0), (7, 0), (8, 0), (9, 0), (18, 0), (19, 0), (31, 0), (32, 0)] | _ => none, [(true, 3)], false⟩
noncomputable def spec_l2Mul.x0 (k : Nat) (x18 : Int) (x19 : Int) (y0_0 : Int) (y0_1 : List Int) (y1_0 : Int) (y1_1 : List Int) (y3_0 : Int) (y5 : List Int) : Option Res := R.exec Try.prog xhn spec_l2Mul.O 0 Try.f162 spec_l2Mul.fh k (R.point Try.f162 3) ⟨[(2, .ptr 0 0), (3, .ptr 1 0), (4, .ptr 2 0), (5, .ptr 3 0), (18, .int .i64 x18), (19, .int .i64 x19)], [(0, .box false [.int .i64 y0_0, .imm (.I .i64 y0_1)]), (1, .box false [.int .i64 y1_0, .imm (.I .i64 y1_1)]), (2, .box false [.int .i64 0, .sl 4 0]), (3, .box false [.int .i64 y3_0, .sl 5 0]), (4, .arr 3 0 (.I .i64 ([] : List Int)) false), (5, .arr 3 0 (.I .i64 y5) false)], 8⟩
noncomputable def spec_l2Mul.x1 (k : Nat) (x7 : Int) (x8 : Int) (x9 : Int) (x18 : Int) (x19 : Int) (x31 : Int) (x32 : Int) (y0_0 : Int) (y0_1 : List Int) (y1_0 : Int) (y1_1 : List Int) (y3_0 : Int) (y5 : List Int) : Option Res := R.exec Try.prog xhn spec_l2Mul.O 0 Try.f162 spec_l2Mul.fh k (R.point Try.f162 8) ⟨[(2, .ptr 0 0), (3, .ptr 1 0), (4, .ptr 2 0), (5, .ptr 3 0), (7, .int .i64 x7), (8, .int .i64 x8), (9, .int .i64 x9), (18, .int .i64 x18), (19, .int .i64 x19), (31, .int .i64 x31), (32, .int .i64 x32)], [(0, .box false [.int .i64 y0_0, .imm (.I .i64 y0_1)]), (1, .box false [.int .i64 y1_0, .imm (.I .i64 y1_1)]), (2, .box false [.int .i64 0, .sl 4 0]), (3, .box false [.int .i64 y3_0, .sl 5 0]), (4, .arr 3 0 (.I .i64 ([] : List Int)) false), (5, .arr 3 0 (.I .i64 y5) false)], 8⟩
set_option maxRecDepth 100000 in
theorem spec_l2Mul.e0 (k : Nat) (x18 : Int) (x19 : Int) (y0_0 : Int) (y0_1 : List Int) (y1_0 : Int) (y1_1 : List Int) (y3_0 : Int) (y5 : List Int) : spec_l2Mul.x0 (k + 1) x18 x19 y0_0 y0_1 y1_0 y1_1 y3_0 y5 = (if x19 < x18 then (if y0_0 = 0 then none else (spec_l2Mul.x1 k (wrap64 (x19.tdiv y0_0)) (x19.tmod y0_0) 1000000 x18 x19 y0_0 0 y0_0 y0_1 y1_0 y1_1 y3_0 y5)) else (some (spec_l2Mul.en (y3_0, y5)))) := by
  refine Eq.trans ?_ (R.icong (fun h0 => (R.icong (fun h1 => rfl) (fun h1 => (R.idropF (p := y0_0 = 0) (z := none) h1 rfl)))) (fun h0 => rfl))
  kernel_rfl
set_option maxRecDepth 100000 in
theorem spec_l2Mul.e1 (k : Nat) (x7 : Int) (x8 : Int) (x9 : Int) (x18 : Int) (x19 : Int) (x31 : Int) (x32 : Int) (y0_0 : Int) (y0_1 : List Int) (y1_0 : Int) (y1_1 : List Int) (y3_0 : Int) (y5 : List Int) : spec_l2Mul.x1 (k + 1) x7 x8 x9 x18 x19 x31 x32 y0_0 y0_1 y1_0 y1_1 y3_0 y5 = (if x32 < x31 then (if 0 ≤ (wrap64 ((wrap64 (x7 * y0_0)) + x32)) then (if (wrap64 ((wrap64 (x7 * y0_0)) + x32)) < (y0_1.length : Int) then (if 0 ≤ (wrap64 ((wrap64 (x32 * y0_0)) + x8)) then (if (wrap64 ((wrap64 (x32 * y0_0)) + x8)) < (y1_1.length : Int) then ((spec_l1Add.f (rdI y0_1 (wrap64 ((wrap64 (x7 * y0_0)) + x32))) (rdI y1_1 (wrap64 ((wrap64 (x32 * y0_0)) + x8)))).bind fun t1 => (spec_l2Mul.x1 k x7 x8 (mn x9 t1) x18 x19 x31 (wrap64 (x32 + 1)) y0_0 y0_1 y1_0 y1_1 y3_0 y5)) else none) else none) else none) else none) else (if y5.length < 17592186044416 then (spec_l2Mul.x0 k x18 (wrap64 (x19 + 1)) y0_0 y0_1 y1_0 y1_1 y3_0 (y5 ++ [x9])) else none)) := by kernel_rfl
set_option maxRecDepth 100000 in
theorem spec_l2Mul.ef (k : Nat) (a0_0 : Int) (l0_1 : List Int) (a1_0 : Int) (l1_1 : List Int) : R.start Try.prog xhn spec_l2Mul.O 0 Try.f162 spec_l2Mul.fh k [.agg [.int .i64 a0_0, .imm (.I .i64 l0_1)], .agg [.int .i64 a1_0, .imm (.I .i64 l1_1)]] [] = (spec_l2Mul.x0 k (wrap64 (a0_0 * a0_0)) 0 a0_0 l0_1 a1_0 l1_1 a0_0 ([] : List Int)) := by kernel_rfl
theorem spec_l2Mul.link : ∀ k, (∀ (x18 : Int) (x19 : Int) (y0_0 : Int) (y0_1 : List Int) (y1_0 : Int) (y1_1 : List Int) (y3_0 : Int) (y5 : List Int), spec_l2Mul.x0 k x18 x19 y0_0 y0_1 y1_0 y1_1 y3_0 y5 = (spec_l2Mul.l0 k x18 x19 y0_0 y0_1 y1_0 y1_1 y3_0 y5).map (spec_l2Mul.en)) ∧ (∀ (x7 : Int) (x8 : Int) (x9 : Int) (x18 : Int) (x19 : Int) (x31 : Int) (x32 : Int) (y0_0 : Int) (y0_1 : List Int) (y1_0 : Int) (y1_1 : List Int) (y3_0 : Int) (y5 : List Int), spec_l2Mul.x1 k x7 x8 x9 x18 x19 x31 x32 y0_0 y0_1 y1_0 y1_1 y3_0 y5 = (spec_l2Mul.l1 k x7 x8 x9 x18 x19 x31 x32 y0_0 y0_1 y1_0 y1_1 y3_0 y5).map (spec_l2Mul.en))
  | 0 => ⟨fun _ _ _ _ _ _ _ _ => by simp only [spec_l2Mul.l0, R.map_none]; rfl, fun _ _ _ _ _ _ _ _ _ _ _ _ _ => by simp only [spec_l2Mul.l1, R.map_none]; rfl⟩
  | k + 1 => by
    obtain ⟨ih0, ih1⟩ := spec_l2Mul.link k
    refine ⟨?_, ?_⟩
    · intro x18 x19 y0_0 y0_1 y1_0 y1_1 y3_0 y5
      rw [spec_l2Mul.e0]
      simp only [spec_l2Mul.l0, R.map_ite, R.map_bind, R.map_none, R.map_some, ← ih0, ← ih1]
    · intro x7 x8 x9 x18 x19 x31 x32 y0_0 y0_1 y1_0 y1_1 y3_0 y5
      rw [spec_l2Mul.e1]
      simp only [spec_l2Mul.l1, R.map_ite, R.map_bind, R.map_none, R.map_some, ← ih0, ← ih1]
theorem spec_l2Mul.sf (k : Nat) (a0_0 : Int) (l0_1 : List Int) (a1_0 : Int) (l1_1 : List Int) : R.start Try.prog xhn spec_l2Mul.O 0 Try.f162 spec_l2Mul.fh k [.agg [.int .i64 a0_0, .imm (.I .i64 l0_1)], .agg [.int .i64 a1_0, .imm (.I .i64 l1_1)]] [] = (spec_l2Mul.f k a0_0 l0_1 a1_0 l1_1).map (spec_l2Mul.en) := by
  obtain ⟨ih0, ih1⟩ := spec_l2Mul.link k
  rw [spec_l2Mul.ef]
  simp only [spec_l2Mul.f, R.map_ite, R.map_bind, R.map_none, R.map_some, ← ih0, ← ih1]
theorem spec_l2Mul.ok (k : Nat) : spec_l2Mul.tw.Ok Try.prog k := by
  intro a r h
  refine fn_ok (H := xhn) (fh := spec_l2Mul.fh) (O := spec_l2Mul.O) (k := k) Try.func162 (by kernel_rfl) (by kernel_rfl) (fun j _ => (Tw.orc_sound spec_l1Add.dok (spec_l1Add.ok j) noO_sound)) (by kernel_rfl) (m := 0) rfl ?_
  refine (spec_l2Mul.sf k a.1 a.2.1 a.2.2.1 a.2.2.2).trans ?_
  exact congrArg (Option.map _) h
def spec_l4Matrix.l0 : Nat → ByteArray → Int → Int → Int → (List Int) → Int → (List Int) → Int → (List Int) → Option (Int × (List Int))
  | 0, _, _, _, _, _, _, _, _, _ => none
  | k + 1, x1, x17, x18, y1_0, y5, y2_0, y6, y3_0, y7 => (if x18 < x17 then (if 0 ≤ x18 then (if x18 < (x1.size : Int) then (if (btI x1 x18) = 97 then ((spec_l2Mul.f k y1_0 y5 y2_0 y6).bind fun t4 => (spec_l4Matrix.l0 k x1 x17 (wrap64 (x18 + 1)) t4.1 t4.2 y2_0 y6 y3_0 y7)) else ((spec_l2Mul.f k y1_0 y5 y3_0 y7).bind fun t5 => (spec_l4Matrix.l0 k x1 x17 (wrap64 (x18 + 1)) t5.1 t5.2 y2_0 y6 y3_0 y7))) else none) else none) else (some (y1_0, y5)))
def spec_l4Matrix.f (k : Nat) (a0_0 : Int) (l0_1 : List Int) (l0_2 : List Int) (l0_3 : List Stp) (a1 : ByteArray) : Option (Int × (List Int)) := ((spec_l2Unit.f k a0_0).bind fun t1 => ((spec_l3Matrix.f k a0_0 l0_1 l0_2 l0_3 (⟨#[97]⟩ : ByteArray)).bind fun t2 => ((spec_l3Matrix.f k a0_0 l0_1 l0_2 l0_3 (⟨#[98]⟩ : ByteArray)).bind fun t3 => (spec_l4Matrix.l0 k a1 (a1.size : Int) 0 t1.1 t1.2 t2.1 t2.2 t3.1 t3.2))))
def spec_l4Matrix.en (r : Int × (List Int)) : Res := (.agg [.int .i64 r.1, .sl 0 0], [.arr 3 0 (.I .i64 r.2) false])
def spec_l4Matrix.dec : List AV → List R.Obj → Option (Int × (List Int) × (List Int) × (List Stp) × ByteArray)
  | [.agg [.int .i64 a0_0, .imm (.I .i64 l0_1), .imm (.I .i64 l0_2), .imm (.T l0_3)], .str a1], [] => some (a0_0, l0_1, l0_2, l0_3, a1)
  | _, _ => none
def spec_l4Matrix.tw : Tw := ⟨105, Int × (List Int) × (List Int) × (List Stp) × ByteArray, Int × (List Int), spec_l4Matrix.dec, fun a => [.agg [.int .i64 a.1, .imm (.I .i64 a.2.1), .imm (.I .i64 a.2.2.1), .imm (.T a.2.2.2.1)], .str a.2.2.2.2], fun a => [], fun k a => spec_l4Matrix.f k a.1 a.2.1 a.2.2.1 a.2.2.2.1 a.2.2.2.2, fun a r => spec_l4Matrix.en r⟩
theorem spec_l4Matrix.dok : spec_l4Matrix.tw.DecOk := by
  intro args hc a h
  have h : spec_l4Matrix.dec args hc = some a := h
  unfold spec_l4Matrix.dec at h
  split at h
  · cases h; exact ⟨rfl, rfl⟩
  · cases h
noncomputable def spec_l4Matrix.O (k : Nat) : Oracle := (spec_l2Unit.tw.orc k (spec_l3Matrix.tw.orc k (spec_l2Mul.tw.orc k noO)))
def spec_l4Matrix.fh : FH := ⟨fun i => match i with | 4 => some [(1, 0), (4, 0), (5, 0), (6, 0), (7, 0), (17, 0), (18, 0)] | _ => none, [(true, 3)], false⟩
noncomputable def spec_l4Matrix.x0 (k : Nat) (x1 : ByteArray) (x17 : Int) (x18 : Int) (y1_0 : Int) (y5 : List Int) (y2_0 : Int) (y6 : List Int) (y3_0 : Int) (y7 : List Int) : Option Res := R.exec Try.prog xhn spec_l4Matrix.O 0 Try.f105 spec_l4Matrix.fh k (R.point Try.f105 4) ⟨[(1, .str x1), (4, .ptr 0 0), (5, .ptr 1 0), (6, .ptr 2 0), (7, .ptr 3 0), (17, .int .i64 x17), (18, .int .i64 x18)], [(0, .box false [.int .i64 0, .sl 4 0]), (1, .box false [.int .i64 y1_0, .sl 5 0]), (2, .box false [.int .i64 y2_0, .sl 6 0]), (3, .box false [.int .i64 y3_0, .sl 7 0]), (4, .arr 3 0 (.I .i64 ([] : List Int)) false), (5, .arr 3 0 (.I .i64 y5) false), (6, .arr 3 0 (.I .i64 y6) false), (7, .arr 3 0 (.I .i64 y7) false)], 10⟩
set_option maxRecDepth 100000 in
theorem spec_l4Matrix.e0 (k : Nat) (x1 : ByteArray) (x17 : Int) (x18 : Int) (y1_0 : Int) (y5 : List Int) (y2_0 : Int) (y6 : List Int) (y3_0 : Int) (y7 : List Int) : spec_l4Matrix.x0 (k + 1) x1 x17 x18 y1_0 y5 y2_0 y6 y3_0 y7 = (if x18 < x17 then (if 0 ≤ x18 then (if x18 < (x1.size : Int) then (if (btI x1 x18) = 97 then ((spec_l2Mul.f k y1_0 y5 y2_0 y6).bind fun t4 => (spec_l4Matrix.x0 k x1 x17 (wrap64 (x18 + 1)) t4.1 t4.2 y2_0 y6 y3_0 y7)) else ((spec_l2Mul.f k y1_0 y5 y3_0 y7).bind fun t5 => (spec_l4Matrix.x0 k x1 x17 (wrap64 (x18 + 1)) t5.1 t5.2 y2_0 y6 y3_0 y7))) else none) else none) else (some (spec_l4Matrix.en (y1_0, y5)))) := by kernel_rfl
set_option maxRecDepth 100000 in
theorem spec_l4Matrix.ef (k : Nat) (a0_0 : Int) (l0_1 : List Int) (l0_2 : List Int) (l0_3 : List Stp) (a1 : ByteArray) : R.start Try.prog xhn spec_l4Matrix.O 0 Try.f105 spec_l4Matrix.fh k [.agg [.int .i64 a0_0, .imm (.I .i64 l0_1), .imm (.I .i64 l0_2), .imm (.T l0_3)], .str a1] [] = ((spec_l2Unit.f k a0_0).bind fun t1 => ((spec_l3Matrix.f k a0_0 l0_1 l0_2 l0_3 (⟨#[97]⟩ : ByteArray)).bind fun t2 => ((spec_l3Matrix.f k a0_0 l0_1 l0_2 l0_3 (⟨#[98]⟩ : ByteArray)).bind fun t3 => (spec_l4Matrix.x0 k a1 (a1.size : Int) 0 t1.1 t1.2 t2.1 t2.2 t3.1 t3.2)))) := by kernel_rfl
theorem spec_l4Matrix.link : ∀ k, (∀ (x1 : ByteArray) (x17 : Int) (x18 : Int) (y1_0 : Int) (y5 : List Int) (y2_0 : Int) (y6 : List Int) (y3_0 : Int) (y7 : List Int), spec_l4Matrix.x0 k x1 x17 x18 y1_0 y5 y2_0 y6 y3_0 y7 = (spec_l4Matrix.l0 k x1 x17 x18 y1_0 y5 y2_0 y6 y3_0 y7).map (spec_l4Matrix.en))
  | 0 => fun _ _ _ _ _ _ _ _ _ => by simp only [spec_l4Matrix.l0, R.map_none]; rfl
  | k + 1 => by
    have ih0 := spec_l4Matrix.link k
    · intro x1 x17 x18 y1_0 y5 y2_0 y6 y3_0 y7
      rw [spec_l4Matrix.e0]
      simp only [spec_l4Matrix.l0, R.map_ite, R.map_bind, R.map_none, R.map_some, ← ih0]
theorem spec_l4Matrix.sf (k : Nat) (a0_0 : Int) (l0_1 : List Int) (l0_2 : List Int) (l0_3 : List Stp) (a1 : ByteArray) : R.start Try.prog xhn spec_l4Matrix.O 0 Try.f105 spec_l4Matrix.fh k [.agg [.int .i64 a0_0, .imm (.I .i64 l0_1), .imm (.I .i64 l0_2), .imm (.T l0_3)], .str a1] [] = (spec_l4Matrix.f k a0_0 l0_1 l0_2 l0_3 a1).map (spec_l4Matrix.en) := by
  have ih0 := spec_l4Matrix.link k
  rw [spec_l4Matrix.ef]
  simp only [spec_l4Matrix.f, R.map_ite, R.map_bind, R.map_none, R.map_some, ← ih0]
theorem spec_l4Matrix.ok (k : Nat) : spec_l4Matrix.tw.Ok Try.prog k := by
  intro a r h
  refine fn_ok (H := xhn) (fh := spec_l4Matrix.fh) (O := spec_l4Matrix.O) (k := k) Try.func105 (by kernel_rfl) (by kernel_rfl) (fun j _ => (Tw.orc_sound spec_l2Unit.dok (spec_l2Unit.ok j) (Tw.orc_sound spec_l3Matrix.dok (spec_l3Matrix.ok j) (Tw.orc_sound spec_l2Mul.dok (spec_l2Mul.ok j) noO_sound)))) (by kernel_rfl) (m := 0) rfl ?_
  refine (spec_l4Matrix.sf k a.1 a.2.1 a.2.2.1 a.2.2.2.1 a.2.2.2.2).trans ?_
  exact congrArg (Option.map _) h
def spec_WordMatrix.f (k : Nat) (a0_0 : Int) (l0_1 : List Int) (l0_2 : List Int) (l0_3 : List Stp) (a1 : ByteArray) : Option (Int × (List Int) × Bool) := ((spec_l4Asked.f k a0_0 l0_1 l0_2 l0_3 a1).bind fun t1 => (if t1 = true then ((spec_l4Matrix.f k a0_0 l0_1 l0_2 l0_3 a1).bind fun t2 => (some (t2.1, t2.2, true))) else (some (0, ([] : List Int), false))))
def spec_WordMatrix.en (r : Int × (List Int) × Bool) : Res := (.tup [.agg [.int .i64 r.1, .sl 0 0], .lit r.2.2], [.arr 3 0 (.I .i64 r.2.1) false])
def spec_WordMatrix.dec : List AV → List R.Obj → Option (Int × (List Int) × (List Int) × (List Stp) × ByteArray)
  | [.agg [.int .i64 a0_0, .imm (.I .i64 l0_1), .imm (.I .i64 l0_2), .imm (.T l0_3)], .str a1], [] => some (a0_0, l0_1, l0_2, l0_3, a1)
  | _, _ => none
def spec_WordMatrix.tw : Tw := ⟨39, Int × (List Int) × (List Int) × (List Stp) × ByteArray, Int × (List Int) × Bool, spec_WordMatrix.dec, fun a => [.agg [.int .i64 a.1, .imm (.I .i64 a.2.1), .imm (.I .i64 a.2.2.1), .imm (.T a.2.2.2.1)], .str a.2.2.2.2], fun a => [], fun k a => spec_WordMatrix.f k a.1 a.2.1 a.2.2.1 a.2.2.2.1 a.2.2.2.2, fun a r => spec_WordMatrix.en r⟩
theorem spec_WordMatrix.dok : spec_WordMatrix.tw.DecOk := by
  intro args hc a h
  have h : spec_WordMatrix.dec args hc = some a := h
  unfold spec_WordMatrix.dec at h
  split at h
  · cases h; exact ⟨rfl, rfl⟩
  · cases h
noncomputable def spec_WordMatrix.O (k : Nat) : Oracle := (spec_l4Asked.tw.orc k (spec_l4Matrix.tw.orc k noO))
def spec_WordMatrix.fh : FH := ⟨fun i => match i with | _ => none, [(true, 3)], false⟩
set_option maxRecDepth 100000 in
theorem spec_WordMatrix.ef (k : Nat) (a0_0 : Int) (l0_1 : List Int) (l0_2 : List Int) (l0_3 : List Stp) (a1 : ByteArray) : R.start Try.prog xhn spec_WordMatrix.O 0 Try.f39 spec_WordMatrix.fh k [.agg [.int .i64 a0_0, .imm (.I .i64 l0_1), .imm (.I .i64 l0_2), .imm (.T l0_3)], .str a1] [] = ((spec_l4Asked.f k a0_0 l0_1 l0_2 l0_3 a1).bind fun t1 => (if t1 = true then ((spec_l4Matrix.f k a0_0 l0_1 l0_2 l0_3 a1).bind fun t2 => (some (spec_WordMatrix.en (t2.1, t2.2, true)))) else (some (spec_WordMatrix.en (0, ([] : List Int), false))))) := by kernel_rfl
theorem spec_WordMatrix.sf (k : Nat) (a0_0 : Int) (l0_1 : List Int) (l0_2 : List Int) (l0_3 : List Stp) (a1 : ByteArray) : R.start Try.prog xhn spec_WordMatrix.O 0 Try.f39 spec_WordMatrix.fh k [.agg [.int .i64 a0_0, .imm (.I .i64 l0_1), .imm (.I .i64 l0_2), .imm (.T l0_3)], .str a1] [] = (spec_WordMatrix.f k a0_0 l0_1 l0_2 l0_3 a1).map (spec_WordMatrix.en) := by
  rw [spec_WordMatrix.ef]
  simp only [spec_WordMatrix.f, R.map_ite, R.map_bind, R.map_none, R.map_some]
theorem spec_WordMatrix.ok (k : Nat) : spec_WordMatrix.tw.Ok Try.prog k := by
  intro a r h
  refine fn_ok (H := xhn) (fh := spec_WordMatrix.fh) (O := spec_WordMatrix.O) (k := k) Try.func39 (by kernel_rfl) (by kernel_rfl) (fun j _ => (Tw.orc_sound spec_l4Asked.dok (spec_l4Asked.ok j) (Tw.orc_sound spec_l4Matrix.dok (spec_l4Matrix.ok j) noO_sound))) (by kernel_rfl) (m := 0) rfl ?_
  refine (spec_WordMatrix.sf k a.1 a.2.1 a.2.2.1 a.2.2.2.1 a.2.2.2.2).trans ?_
  exact congrArg (Option.map _) h
def laws_daSame.l0 : Nat → (List Int) → (List Int) → Int → Int → Option (Bool)
  | 0, _, _, _, _ => none
  | k + 1, x0, x1, x10, x11 => (if x11 < x10 then (if 0 ≤ x11 then (if x11 < (x0.length : Int) then (if x11 < (x1.length : Int) then (if (rdI x0 x11) = (rdI x1 x11) then (laws_daSame.l0 k x0 x1 x10 (wrap64 (x11 + 1))) else (some false)) else none) else none) else none) else (some (decide ((x0.length : Int) = (x1.length : Int)))))
def laws_daSame.f (k : Nat) (l0 : List Int) (l1 : List Int) : Option (Bool) := (laws_daSame.l0 k l0 l1 (mn (l0.length : Int) (l1.length : Int)) 0)
def laws_daSame.en (r : Bool) : Res := (.lit r, [])
def laws_daSame.dec : List AV → List R.Obj → Option ((List Int) × (List Int))
  | [.imm (.I .i64 l0), .imm (.I .i64 l1)], [] => some (l0, l1)
  | _, _ => none
def laws_daSame.tw : Tw := ⟨33, (List Int) × (List Int), Bool, laws_daSame.dec, fun a => [.imm (.I .i64 a.1), .imm (.I .i64 a.2)], fun a => [], fun k a => laws_daSame.f k a.1 a.2, fun a r => laws_daSame.en r⟩
theorem laws_daSame.dok : laws_daSame.tw.DecOk := by
  intro args hc a h
  have h : laws_daSame.dec args hc = some a := h
  unfold laws_daSame.dec at h
  split at h
  · cases h; exact ⟨rfl, rfl⟩
  · cases h
noncomputable def laws_daSame.O (k : Nat) : Oracle := noO
def laws_daSame.fh : FH := ⟨fun i => match i with | 2 => some [(0, 0), (1, 0), (10, 0), (11, 0)] | _ => none, [], false⟩
noncomputable def laws_daSame.x0 (k : Nat) (x0 : List Int) (x1 : List Int) (x10 : Int) (x11 : Int) : Option Res := R.exec Try.prog xhn laws_daSame.O 0 Try.f33 laws_daSame.fh k (R.point Try.f33 2) ⟨[(0, .imm (.I .i64 x0)), (1, .imm (.I .i64 x1)), (10, .int .i64 x10), (11, .int .i64 x11)], [], 2⟩
set_option maxRecDepth 100000 in
theorem laws_daSame.e0 (k : Nat) (x0 : List Int) (x1 : List Int) (x10 : Int) (x11 : Int) : laws_daSame.x0 (k + 1) x0 x1 x10 x11 = (if x11 < x10 then (if 0 ≤ x11 then (if x11 < (x0.length : Int) then (if x11 < (x1.length : Int) then (if (rdI x0 x11) = (rdI x1 x11) then (laws_daSame.x0 k x0 x1 x10 (wrap64 (x11 + 1))) else (some (laws_daSame.en false))) else none) else none) else none) else (some (laws_daSame.en (decide ((x0.length : Int) = (x1.length : Int)))))) := by
  refine Eq.trans ?_ (R.icong (fun h0 => (R.icong (fun h1 => (R.icong (fun h2 => (R.idropT (p := 0 ≤ x11) (z := none) h1 rfl)) (fun h2 => rfl))) (fun h1 => rfl))) (fun h0 => rfl))
  kernel_rfl
set_option maxRecDepth 100000 in
theorem laws_daSame.ef (k : Nat) (l0 : List Int) (l1 : List Int) : R.start Try.prog xhn laws_daSame.O 0 Try.f33 laws_daSame.fh k [.imm (.I .i64 l0), .imm (.I .i64 l1)] [] = (laws_daSame.x0 k l0 l1 (mn (l0.length : Int) (l1.length : Int)) 0) := by kernel_rfl
theorem laws_daSame.link : ∀ k, (∀ (x0 : List Int) (x1 : List Int) (x10 : Int) (x11 : Int), laws_daSame.x0 k x0 x1 x10 x11 = (laws_daSame.l0 k x0 x1 x10 x11).map (laws_daSame.en))
  | 0 => fun _ _ _ _ => by simp only [laws_daSame.l0, R.map_none]; rfl
  | k + 1 => by
    have ih0 := laws_daSame.link k
    · intro x0 x1 x10 x11
      rw [laws_daSame.e0]
      simp only [laws_daSame.l0, R.map_ite, R.map_bind, R.map_none, R.map_some, ← ih0]
theorem laws_daSame.sf (k : Nat) (l0 : List Int) (l1 : List Int) : R.start Try.prog xhn laws_daSame.O 0 Try.f33 laws_daSame.fh k [.imm (.I .i64 l0), .imm (.I .i64 l1)] [] = (laws_daSame.f k l0 l1).map (laws_daSame.en) := by
  have ih0 := laws_daSame.link k
  rw [laws_daSame.ef]
  simp only [laws_daSame.f, R.map_ite, R.map_bind, R.map_none, R.map_some, ← ih0]
theorem laws_daSame.ok (k : Nat) : laws_daSame.tw.Ok Try.prog k := by
  intro a r h
  refine fn_ok (H := xhn) (fh := laws_daSame.fh) (O := laws_daSame.O) (k := k) Try.func33 (by kernel_rfl) (by kernel_rfl) (fun j _ => noO_sound) (by kernel_rfl) (m := 0) rfl ?_
  refine (laws_daSame.sf k a.1 a.2).trans ?_
  exact congrArg (Option.map _) h
def laws_daMatrix.f (k : Nat) (a0_0 : Int) (l0_1 : List Int) (a1_0 : Int) (l1_1 : List Int) : Option (Bool) := (if a0_0 = a1_0 then ((laws_daSame.f k l0_1 l1_1).bind fun t1 => (some t1)) else (some false))
def laws_daMatrix.en (r : Bool) : Res := (.lit r, [])
def laws_daMatrix.dec : List AV → List R.Obj → Option (Int × (List Int) × Int × (List Int))
  | [.agg [.int .i64 a0_0, .imm (.I .i64 l0_1)], .agg [.int .i64 a1_0, .imm (.I .i64 l1_1)]], [] => some (a0_0, l0_1, a1_0, l1_1)
  | _, _ => none
def laws_daMatrix.tw : Tw := ⟨40, Int × (List Int) × Int × (List Int), Bool, laws_daMatrix.dec, fun a => [.agg [.int .i64 a.1, .imm (.I .i64 a.2.1)], .agg [.int .i64 a.2.2.1, .imm (.I .i64 a.2.2.2)]], fun a => [], fun k a => laws_daMatrix.f k a.1 a.2.1 a.2.2.1 a.2.2.2, fun a r => laws_daMatrix.en r⟩
theorem laws_daMatrix.dok : laws_daMatrix.tw.DecOk := by
  intro args hc a h
  have h : laws_daMatrix.dec args hc = some a := h
  unfold laws_daMatrix.dec at h
  split at h
  · cases h; exact ⟨rfl, rfl⟩
  · cases h
noncomputable def laws_daMatrix.O (k : Nat) : Oracle := (laws_daSame.tw.orc k noO)
def laws_daMatrix.fh : FH := ⟨fun i => match i with | _ => none, [], false⟩
set_option maxRecDepth 100000 in
theorem laws_daMatrix.ef (k : Nat) (a0_0 : Int) (l0_1 : List Int) (a1_0 : Int) (l1_1 : List Int) : R.start Try.prog xhn laws_daMatrix.O 0 Try.f40 laws_daMatrix.fh k [.agg [.int .i64 a0_0, .imm (.I .i64 l0_1)], .agg [.int .i64 a1_0, .imm (.I .i64 l1_1)]] [] = (if a0_0 = a1_0 then ((laws_daSame.f k l0_1 l1_1).bind fun t1 => (some (laws_daMatrix.en t1))) else (some (laws_daMatrix.en false))) := by kernel_rfl
theorem laws_daMatrix.sf (k : Nat) (a0_0 : Int) (l0_1 : List Int) (a1_0 : Int) (l1_1 : List Int) : R.start Try.prog xhn laws_daMatrix.O 0 Try.f40 laws_daMatrix.fh k [.agg [.int .i64 a0_0, .imm (.I .i64 l0_1)], .agg [.int .i64 a1_0, .imm (.I .i64 l1_1)]] [] = (laws_daMatrix.f k a0_0 l0_1 a1_0 l1_1).map (laws_daMatrix.en) := by
  rw [laws_daMatrix.ef]
  simp only [laws_daMatrix.f, R.map_ite, R.map_bind, R.map_none, R.map_some]
theorem laws_daMatrix.ok (k : Nat) : laws_daMatrix.tw.Ok Try.prog k := by
  intro a r h
  refine fn_ok (H := xhn) (fh := laws_daMatrix.fh) (O := laws_daMatrix.O) (k := k) Try.func40 (by kernel_rfl) (by kernel_rfl) (fun j _ => (Tw.orc_sound laws_daSame.dok (laws_daSame.ok j) noO_sound)) (by kernel_rfl) (m := 0) rfl ?_
  refine (laws_daMatrix.sf k a.1 a.2.1 a.2.2.1 a.2.2.2).trans ?_
  exact congrArg (Option.map _) h
def impl_GradesOf_1.f (a0 : Int) (a1 : Int) (a3_0 : Int) (l3_1 : List Int) : Option (Int) := ((impl_Matrix_at.f a3_0 l3_1 a0 a1).bind fun t1 => (if t1 = 0 then (some 0) else (if t1 = 1000000 then (some 3) else (some 1))))
def impl_GradesOf_1.en (a3_0 : Int) (l3_1 : List Int) (r : Int) : Res := (.int .i64 r, [.box true [.int .i64 a3_0, .imm (.I .i64 l3_1)]])
def impl_GradesOf_1.dec : List AV → List R.Obj → Option (Int × Int × Int × (List Int))
  | [.int .i64 a0, .int .i64 a1, .ptr 0 0], [.box true [.int .i64 a3_0, .imm (.I .i64 l3_1)]] => some (a0, a1, a3_0, l3_1)
  | _, _ => none
def impl_GradesOf_1.tw : Tw := ⟨108, Int × Int × Int × (List Int), Int, impl_GradesOf_1.dec, fun a => [.int .i64 a.1, .int .i64 a.2.1, .ptr 0 0], fun a => [.box true [.int .i64 a.2.2.1, .imm (.I .i64 a.2.2.2)]], fun k a => impl_GradesOf_1.f a.1 a.2.1 a.2.2.1 a.2.2.2, fun a r => impl_GradesOf_1.en a.2.2.1 a.2.2.2 r⟩
theorem impl_GradesOf_1.dok : impl_GradesOf_1.tw.DecOk := by
  intro args hc a h
  have h : impl_GradesOf_1.dec args hc = some a := h
  unfold impl_GradesOf_1.dec at h
  split at h
  · cases h; exact ⟨rfl, rfl⟩
  · cases h
noncomputable def impl_GradesOf_1.O (k : Nat) : Oracle := (impl_Matrix_at.tw.orc k noO)
def impl_GradesOf_1.fh : FH := ⟨fun i => match i with | _ => none, [], false⟩
set_option maxRecDepth 100000 in
theorem impl_GradesOf_1.ef (k : Nat) (a0 : Int) (a1 : Int) (a3_0 : Int) (l3_1 : List Int) : R.start Try.prog xhn impl_GradesOf_1.O 1 Try.f108 impl_GradesOf_1.fh k [.int .i64 a0, .int .i64 a1, .ptr 0 0] [.box true [.int .i64 a3_0, .imm (.I .i64 l3_1)]] = ((impl_Matrix_at.f a3_0 l3_1 a0 a1).bind fun t1 => (if t1 = 0 then (some (impl_GradesOf_1.en a3_0 l3_1 0)) else (if t1 = 1000000 then (some (impl_GradesOf_1.en a3_0 l3_1 3)) else (some (impl_GradesOf_1.en a3_0 l3_1 1))))) := by kernel_rfl
theorem impl_GradesOf_1.sf (k : Nat) (a0 : Int) (a1 : Int) (a3_0 : Int) (l3_1 : List Int) : R.start Try.prog xhn impl_GradesOf_1.O 1 Try.f108 impl_GradesOf_1.fh k [.int .i64 a0, .int .i64 a1, .ptr 0 0] [.box true [.int .i64 a3_0, .imm (.I .i64 l3_1)]] = (impl_GradesOf_1.f a0 a1 a3_0 l3_1).map (impl_GradesOf_1.en a3_0 l3_1) := by
  rw [impl_GradesOf_1.ef]
  simp only [impl_GradesOf_1.f, R.map_ite, R.map_bind, R.map_none, R.map_some]
theorem impl_GradesOf_1.ok (k : Nat) : impl_GradesOf_1.tw.Ok Try.prog k := by
  intro a r h
  refine fn_ok (H := xhn) (fh := impl_GradesOf_1.fh) (O := impl_GradesOf_1.O) (k := k) Try.func108 (by kernel_rfl) (by kernel_rfl) (fun j _ => (Tw.orc_sound impl_Matrix_at.dok (impl_Matrix_at.ok j) noO_sound)) (by kernel_rfl) (m := 1) rfl ?_
  refine (impl_GradesOf_1.sf k a.1 a.2.1 a.2.2.1 a.2.2.2).trans ?_
  exact congrArg (Option.map _) h
mutual
def impl_filled_d.l0 : Nat → Int → Int → Int → Int → (List Int) → Int → (List Int) → Option (Int × (List Int))
  | 0, _, _, _, _, _, _, _ => none
  | k + 1, x0, x10, x11, y0_0, y0_1, y2_0, y4 => (if x11 < x10 then (impl_filled_d.l1 k x0 x11 x10 x11 x0 0 y0_0 y0_1 y2_0 y4) else (some (y2_0, y4)))
def impl_filled_d.l1 : Nat → Int → Int → Int → Int → Int → Int → Int → (List Int) → Int → (List Int) → Option (Int × (List Int))
  | 0, _, _, _, _, _, _, _, _, _, _ => none
  | k + 1, x0, x6, x10, x11, x14, x15, y0_0, y0_1, y2_0, y4 => (if x15 < x14 then ((impl_GradesOf_1.f x6 x15 y0_0 y0_1).bind fun t1 => (if y4.length < 17592186044416 then (impl_filled_d.l1 k x0 x6 x10 x11 x14 (wrap64 (x15 + 1)) y0_0 y0_1 y2_0 (y4 ++ [t1])) else none)) else (impl_filled_d.l0 k x0 x10 (wrap64 (x11 + 1)) y0_0 y0_1 y2_0 y4))
end
def impl_filled_d.f (k : Nat) (a0 : Int) (a2_0 : Int) (l2_1 : List Int) : Option (Int × (List Int)) := (impl_filled_d.l0 k a0 a0 0 a2_0 l2_1 a0 ([] : List Int))
def impl_filled_d.en (a2_0 : Int) (l2_1 : List Int) (r : Int × (List Int)) : Res := (.agg [.int .i64 r.1, .sl 1 0], [.box true [.int .i64 a2_0, .imm (.I .i64 l2_1)], .arr 3 0 (.I .i64 r.2) false])
def impl_filled_d.dec : List AV → List R.Obj → Option (Int × Int × (List Int))
  | [.int .i64 a0, .clo 108 [.ptr 0 0]], [.box true [.int .i64 a2_0, .imm (.I .i64 l2_1)]] => some (a0, a2_0, l2_1)
  | _, _ => none
def impl_filled_d.tw : Tw := ⟨107, Int × Int × (List Int), Int × (List Int), impl_filled_d.dec, fun a => [.int .i64 a.1, .clo 108 [.ptr 0 0]], fun a => [.box true [.int .i64 a.2.1, .imm (.I .i64 a.2.2)]], fun k a => impl_filled_d.f k a.1 a.2.1 a.2.2, fun a r => impl_filled_d.en a.2.1 a.2.2 r⟩
theorem impl_filled_d.dok : impl_filled_d.tw.DecOk := by
  intro args hc a h
  have h : impl_filled_d.dec args hc = some a := h
  unfold impl_filled_d.dec at h
  split at h
  · cases h; exact ⟨rfl, rfl⟩
  · cases h
noncomputable def impl_filled_d.O (k : Nat) : Oracle := (impl_GradesOf_1.tw.orc k noO)
def impl_filled_d.fh : FH := ⟨fun i => match i with | 3 => some [(0, 0), (1, 0), (4, 0), (5, 0), (10, 0), (11, 0)] | 6 => some [(0, 0), (1, 0), (4, 0), (5, 0), (6, 0), (10, 0), (11, 0), (14, 0), (15, 0)] | _ => none, [(true, 3)], false⟩
noncomputable def impl_filled_d.x0 (k : Nat) (x0 : Int) (x10 : Int) (x11 : Int) (y0_0 : Int) (y0_1 : List Int) (y2_0 : Int) (y4 : List Int) : Option Res := R.exec Try.prog xhn impl_filled_d.O 1 Try.f107 impl_filled_d.fh k (R.point Try.f107 3) ⟨[(0, .int .i64 x0), (1, .clo 108 [.ptr 0 0]), (4, .ptr 1 0), (5, .ptr 2 0), (10, .int .i64 x10), (11, .int .i64 x11)], [(0, .box true [.int .i64 y0_0, .imm (.I .i64 y0_1)]), (1, .box false [.int .i64 0, .sl 3 0]), (2, .box false [.int .i64 y2_0, .sl 4 0]), (3, .arr 3 0 (.I .i64 ([] : List Int)) false), (4, .arr 3 0 (.I .i64 y4) false)], 7⟩
noncomputable def impl_filled_d.x1 (k : Nat) (x0 : Int) (x6 : Int) (x10 : Int) (x11 : Int) (x14 : Int) (x15 : Int) (y0_0 : Int) (y0_1 : List Int) (y2_0 : Int) (y4 : List Int) : Option Res := R.exec Try.prog xhn impl_filled_d.O 1 Try.f107 impl_filled_d.fh k (R.point Try.f107 6) ⟨[(0, .int .i64 x0), (1, .clo 108 [.ptr 0 0]), (4, .ptr 1 0), (5, .ptr 2 0), (6, .int .i64 x6), (10, .int .i64 x10), (11, .int .i64 x11), (14, .int .i64 x14), (15, .int .i64 x15)], [(0, .box true [.int .i64 y0_0, .imm (.I .i64 y0_1)]), (1, .box false [.int .i64 0, .sl 3 0]), (2, .box false [.int .i64 y2_0, .sl 4 0]), (3, .arr 3 0 (.I .i64 ([] : List Int)) false), (4, .arr 3 0 (.I .i64 y4) false)], 7⟩
set_option maxRecDepth 100000 in
theorem impl_filled_d.e0 (k : Nat) (x0 : Int) (x10 : Int) (x11 : Int) (y0_0 : Int) (y0_1 : List Int) (y2_0 : Int) (y4 : List Int) : impl_filled_d.x0 (k + 1) x0 x10 x11 y0_0 y0_1 y2_0 y4 = (if x11 < x10 then (impl_filled_d.x1 k x0 x11 x10 x11 x0 0 y0_0 y0_1 y2_0 y4) else (some (impl_filled_d.en y0_0 y0_1 (y2_0, y4)))) := by kernel_rfl
set_option maxRecDepth 100000 in
theorem impl_filled_d.e1 (k : Nat) (x0 : Int) (x6 : Int) (x10 : Int) (x11 : Int) (x14 : Int) (x15 : Int) (y0_0 : Int) (y0_1 : List Int) (y2_0 : Int) (y4 : List Int) : impl_filled_d.x1 (k + 1) x0 x6 x10 x11 x14 x15 y0_0 y0_1 y2_0 y4 = (if x15 < x14 then ((impl_GradesOf_1.f x6 x15 y0_0 y0_1).bind fun t1 => (if y4.length < 17592186044416 then (impl_filled_d.x1 k x0 x6 x10 x11 x14 (wrap64 (x15 + 1)) y0_0 y0_1 y2_0 (y4 ++ [t1])) else none)) else (impl_filled_d.x0 k x0 x10 (wrap64 (x11 + 1)) y0_0 y0_1 y2_0 y4)) := by kernel_rfl
set_option maxRecDepth 100000 in
theorem impl_filled_d.ef (k : Nat) (a0 : Int) (a2_0 : Int) (l2_1 : List Int) : R.start Try.prog xhn impl_filled_d.O 1 Try.f107 impl_filled_d.fh k [.int .i64 a0, .clo 108 [.ptr 0 0]] [.box true [.int .i64 a2_0, .imm (.I .i64 l2_1)]] = (impl_filled_d.x0 k a0 a0 0 a2_0 l2_1 a0 ([] : List Int)) := by kernel_rfl
theorem impl_filled_d.link : ∀ k, (∀ (x0 : Int) (x10 : Int) (x11 : Int) (y0_0 : Int) (y0_1 : List Int) (y2_0 : Int) (y4 : List Int), impl_filled_d.x0 k x0 x10 x11 y0_0 y0_1 y2_0 y4 = (impl_filled_d.l0 k x0 x10 x11 y0_0 y0_1 y2_0 y4).map (impl_filled_d.en y0_0 y0_1)) ∧ (∀ (x0 : Int) (x6 : Int) (x10 : Int) (x11 : Int) (x14 : Int) (x15 : Int) (y0_0 : Int) (y0_1 : List Int) (y2_0 : Int) (y4 : List Int), impl_filled_d.x1 k x0 x6 x10 x11 x14 x15 y0_0 y0_1 y2_0 y4 = (impl_filled_d.l1 k x0 x6 x10 x11 x14 x15 y0_0 y0_1 y2_0 y4).map (impl_filled_d.en y0_0 y0_1))
  | 0 => ⟨fun _ _ _ _ _ _ _ => by simp only [impl_filled_d.l0, R.map_none]; rfl, fun _ _ _ _ _ _ _ _ _ _ => by simp only [impl_filled_d.l1, R.map_none]; rfl⟩
  | k + 1 => by
    obtain ⟨ih0, ih1⟩ := impl_filled_d.link k
    refine ⟨?_, ?_⟩
    · intro x0 x10 x11 y0_0 y0_1 y2_0 y4
      rw [impl_filled_d.e0]
      simp only [impl_filled_d.l0, R.map_ite, R.map_bind, R.map_none, R.map_some, ← ih0, ← ih1]
    · intro x0 x6 x10 x11 x14 x15 y0_0 y0_1 y2_0 y4
      rw [impl_filled_d.e1]
      simp only [impl_filled_d.l1, R.map_ite, R.map_bind, R.map_none, R.map_some, ← ih0, ← ih1]
theorem impl_filled_d.sf (k : Nat) (a0 : Int) (a2_0 : Int) (l2_1 : List Int) : R.start Try.prog xhn impl_filled_d.O 1 Try.f107 impl_filled_d.fh k [.int .i64 a0, .clo 108 [.ptr 0 0]] [.box true [.int .i64 a2_0, .imm (.I .i64 l2_1)]] = (impl_filled_d.f k a0 a2_0 l2_1).map (impl_filled_d.en a2_0 l2_1) := by
  obtain ⟨ih0, ih1⟩ := impl_filled_d.link k
  rw [impl_filled_d.ef]
  simp only [impl_filled_d.f, R.map_ite, R.map_bind, R.map_none, R.map_some, ← ih0, ← ih1]
theorem impl_filled_d.ok (k : Nat) : impl_filled_d.tw.Ok Try.prog k := by
  intro a r h
  refine fn_ok (H := xhn) (fh := impl_filled_d.fh) (O := impl_filled_d.O) (k := k) Try.func107 (by kernel_rfl) (by kernel_rfl) (fun j _ => (Tw.orc_sound impl_GradesOf_1.dok (impl_GradesOf_1.ok j) noO_sound)) (by kernel_rfl) (m := 1) rfl ?_
  refine (impl_filled_d.sf k a.1 a.2.1 a.2.2).trans ?_
  exact congrArg (Option.map _) h
def impl_GradesOf.f (k : Nat) (a0_0 : Int) (l0_1 : List Int) : Option (Int × (List Int) × Bool) := ((impl_MatrixValid.f k a0_0 l0_1).bind fun t1 => (if t1 = true then ((impl_filled_d.f k a0_0 a0_0 l0_1).bind fun t2 => (some (t2.1, t2.2, true))) else (some (0, ([] : List Int), false))))
def impl_GradesOf.en (r : Int × (List Int) × Bool) : Res := (.tup [.agg [.int .i64 r.1, .sl 0 0], .lit r.2.2], [.arr 3 0 (.I .i64 r.2.1) false])
def impl_GradesOf.dec : List AV → List R.Obj → Option (Int × (List Int))
  | [.agg [.int .i64 a0_0, .imm (.I .i64 l0_1)]], [] => some (a0_0, l0_1)
  | _, _ => none
def impl_GradesOf.tw : Tw := ⟨41, Int × (List Int), Int × (List Int) × Bool, impl_GradesOf.dec, fun a => [.agg [.int .i64 a.1, .imm (.I .i64 a.2)]], fun a => [], fun k a => impl_GradesOf.f k a.1 a.2, fun a r => impl_GradesOf.en r⟩
theorem impl_GradesOf.dok : impl_GradesOf.tw.DecOk := by
  intro args hc a h
  have h : impl_GradesOf.dec args hc = some a := h
  unfold impl_GradesOf.dec at h
  split at h
  · cases h; exact ⟨rfl, rfl⟩
  · cases h
noncomputable def impl_GradesOf.O (k : Nat) : Oracle := (impl_MatrixValid.tw.orc k (impl_filled_d.tw.orc k noO))
def impl_GradesOf.fh : FH := ⟨fun i => match i with | _ => none, [(true, 3)], false⟩
set_option maxRecDepth 100000 in
theorem impl_GradesOf.ef (k : Nat) (a0_0 : Int) (l0_1 : List Int) : R.start Try.prog xhn impl_GradesOf.O 0 Try.f41 impl_GradesOf.fh k [.agg [.int .i64 a0_0, .imm (.I .i64 l0_1)]] [] = ((impl_MatrixValid.f k a0_0 l0_1).bind fun t1 => (if t1 = true then ((impl_filled_d.f k a0_0 a0_0 l0_1).bind fun t2 => (some (impl_GradesOf.en (t2.1, t2.2, true)))) else (some (impl_GradesOf.en (0, ([] : List Int), false))))) := by kernel_rfl
theorem impl_GradesOf.sf (k : Nat) (a0_0 : Int) (l0_1 : List Int) : R.start Try.prog xhn impl_GradesOf.O 0 Try.f41 impl_GradesOf.fh k [.agg [.int .i64 a0_0, .imm (.I .i64 l0_1)]] [] = (impl_GradesOf.f k a0_0 l0_1).map (impl_GradesOf.en) := by
  rw [impl_GradesOf.ef]
  simp only [impl_GradesOf.f, R.map_ite, R.map_bind, R.map_none, R.map_some]
theorem impl_GradesOf.ok (k : Nat) : impl_GradesOf.tw.Ok Try.prog k := by
  intro a r h
  refine fn_ok (H := xhn) (fh := impl_GradesOf.fh) (O := impl_GradesOf.O) (k := k) Try.func41 (by kernel_rfl) (by kernel_rfl) (fun j _ => (Tw.orc_sound impl_MatrixValid.dok (impl_MatrixValid.ok j) (Tw.orc_sound impl_filled_d.dok (impl_filled_d.ok j) noO_sound))) (by kernel_rfl) (m := 0) rfl ?_
  refine (impl_GradesOf.sf k a.1 a.2).trans ?_
  exact congrArg (Option.map _) h
def impl_GradesValid_1.f (a0 : Int) : Option (Bool) := (some (decide (a0 > 3)))
def impl_GradesValid_1.en (r : Bool) : Res := (.lit r, [])
def impl_GradesValid_1.dec : List AV → List R.Obj → Option (Int)
  | [.int .i64 a0], [] => some a0
  | _, _ => none
def impl_GradesValid_1.tw : Tw := ⟨114, Int, Bool, impl_GradesValid_1.dec, fun a => [.int .i64 a], fun a => [], fun k a => impl_GradesValid_1.f a, fun a r => impl_GradesValid_1.en r⟩
theorem impl_GradesValid_1.dok : impl_GradesValid_1.tw.DecOk := by
  intro args hc a h
  have h : impl_GradesValid_1.dec args hc = some a := h
  unfold impl_GradesValid_1.dec at h
  split at h
  · cases h; exact ⟨rfl, rfl⟩
  · cases h
noncomputable def impl_GradesValid_1.O (k : Nat) : Oracle := noO
def impl_GradesValid_1.fh : FH := ⟨fun i => match i with | _ => none, [], false⟩
set_option maxRecDepth 100000 in
theorem impl_GradesValid_1.ef (k : Nat) (a0 : Int) : R.start Try.prog xhn impl_GradesValid_1.O 0 Try.f114 impl_GradesValid_1.fh k [.int .i64 a0] [] = (some (impl_GradesValid_1.en (decide (a0 > 3)))) := by kernel_rfl
theorem impl_GradesValid_1.sf (k : Nat) (a0 : Int) : R.start Try.prog xhn impl_GradesValid_1.O 0 Try.f114 impl_GradesValid_1.fh k [.int .i64 a0] [] = (impl_GradesValid_1.f a0).map (impl_GradesValid_1.en) := by
  rw [impl_GradesValid_1.ef]
  simp only [impl_GradesValid_1.f, R.map_ite, R.map_bind, R.map_none, R.map_some]
theorem impl_GradesValid_1.ok (k : Nat) : impl_GradesValid_1.tw.Ok Try.prog k := by
  intro a r h
  refine fn_ok (H := xhn) (fh := impl_GradesValid_1.fh) (O := impl_GradesValid_1.O) (k := k) Try.func114 (by kernel_rfl) (by kernel_rfl) (fun j _ => noO_sound) (by kernel_rfl) (m := 0) rfl ?_
  refine (impl_GradesValid_1.sf k a).trans ?_
  exact congrArg (Option.map _) h
def slices_IndexFunc_int_int_b.l0 : Nat → (List Int) → Int → Int → Option (Int)
  | 0, _, _, _ => none
  | k + 1, x0, x7, x8 => (if x8 < x7 then (if 0 ≤ x8 then (if x8 < (x0.length : Int) then ((impl_GradesValid_1.f (rdI x0 x8)).bind fun t1 => (if t1 = true then (some x8) else (slices_IndexFunc_int_int_b.l0 k x0 x7 (wrap64 (x8 + 1))))) else none) else none) else (some (-1)))
def slices_IndexFunc_int_int_b.f (k : Nat) (l0 : List Int) : Option (Int) := (slices_IndexFunc_int_int_b.l0 k l0 (l0.length : Int) 0)
def slices_IndexFunc_int_int_b.en (r : Int) : Res := (.int .i64 r, [])
def slices_IndexFunc_int_int_b.dec : List AV → List R.Obj → Option (List Int)
  | [.imm (.I .i64 l0), .clo 114 []], [] => some l0
  | _, _ => none
def slices_IndexFunc_int_int_b.tw : Tw := ⟨164, List Int, Int, slices_IndexFunc_int_int_b.dec, fun a => [.imm (.I .i64 a), .clo 114 []], fun a => [], fun k a => slices_IndexFunc_int_int_b.f k a, fun a r => slices_IndexFunc_int_int_b.en r⟩
theorem slices_IndexFunc_int_int_b.dok : slices_IndexFunc_int_int_b.tw.DecOk := by
  intro args hc a h
  have h : slices_IndexFunc_int_int_b.dec args hc = some a := h
  unfold slices_IndexFunc_int_int_b.dec at h
  split at h
  · cases h; exact ⟨rfl, rfl⟩
  · cases h
noncomputable def slices_IndexFunc_int_int_b.O (k : Nat) : Oracle := (impl_GradesValid_1.tw.orc k noO)
def slices_IndexFunc_int_int_b.fh : FH := ⟨fun i => match i with | 2 => some [(0, 0), (1, 0), (7, 0), (8, 0)] | _ => none, [], false⟩
noncomputable def slices_IndexFunc_int_int_b.x0 (k : Nat) (x0 : List Int) (x7 : Int) (x8 : Int) : Option Res := R.exec Try.prog xhn slices_IndexFunc_int_int_b.O 0 Try.f164 slices_IndexFunc_int_int_b.fh k (R.point Try.f164 2) ⟨[(0, .imm (.I .i64 x0)), (1, .clo 114 []), (7, .int .i64 x7), (8, .int .i64 x8)], [], 2⟩
set_option maxRecDepth 100000 in
theorem slices_IndexFunc_int_int_b.e0 (k : Nat) (x0 : List Int) (x7 : Int) (x8 : Int) : slices_IndexFunc_int_int_b.x0 (k + 1) x0 x7 x8 = (if x8 < x7 then (if 0 ≤ x8 then (if x8 < (x0.length : Int) then ((impl_GradesValid_1.f (rdI x0 x8)).bind fun t1 => (if t1 = true then (some (slices_IndexFunc_int_int_b.en x8)) else (slices_IndexFunc_int_int_b.x0 k x0 x7 (wrap64 (x8 + 1))))) else none) else none) else (some (slices_IndexFunc_int_int_b.en (-1)))) := by kernel_rfl
set_option maxRecDepth 100000 in
theorem slices_IndexFunc_int_int_b.ef (k : Nat) (l0 : List Int) : R.start Try.prog xhn slices_IndexFunc_int_int_b.O 0 Try.f164 slices_IndexFunc_int_int_b.fh k [.imm (.I .i64 l0), .clo 114 []] [] = (slices_IndexFunc_int_int_b.x0 k l0 (l0.length : Int) 0) := by kernel_rfl
theorem slices_IndexFunc_int_int_b.link : ∀ k, (∀ (x0 : List Int) (x7 : Int) (x8 : Int), slices_IndexFunc_int_int_b.x0 k x0 x7 x8 = (slices_IndexFunc_int_int_b.l0 k x0 x7 x8).map (slices_IndexFunc_int_int_b.en))
  | 0 => fun _ _ _ => by simp only [slices_IndexFunc_int_int_b.l0, R.map_none]; rfl
  | k + 1 => by
    have ih0 := slices_IndexFunc_int_int_b.link k
    · intro x0 x7 x8
      rw [slices_IndexFunc_int_int_b.e0]
      simp only [slices_IndexFunc_int_int_b.l0, R.map_ite, R.map_bind, R.map_none, R.map_some, ← ih0]
theorem slices_IndexFunc_int_int_b.sf (k : Nat) (l0 : List Int) : R.start Try.prog xhn slices_IndexFunc_int_int_b.O 0 Try.f164 slices_IndexFunc_int_int_b.fh k [.imm (.I .i64 l0), .clo 114 []] [] = (slices_IndexFunc_int_int_b.f k l0).map (slices_IndexFunc_int_int_b.en) := by
  have ih0 := slices_IndexFunc_int_int_b.link k
  rw [slices_IndexFunc_int_int_b.ef]
  simp only [slices_IndexFunc_int_int_b.f, R.map_ite, R.map_bind, R.map_none, R.map_some, ← ih0]
theorem slices_IndexFunc_int_int_b.ok (k : Nat) : slices_IndexFunc_int_int_b.tw.Ok Try.prog k := by
  intro a r h
  refine fn_ok (H := xhn) (fh := slices_IndexFunc_int_int_b.fh) (O := slices_IndexFunc_int_int_b.O) (k := k) Try.func164 (by kernel_rfl) (by kernel_rfl) (fun j _ => (Tw.orc_sound impl_GradesValid_1.dok (impl_GradesValid_1.ok j) noO_sound)) (by kernel_rfl) (m := 0) rfl ?_
  refine (slices_IndexFunc_int_int_b.sf k a).trans ?_
  exact congrArg (Option.map _) h
def slices_ContainsFunc_int_int_b.f (k : Nat) (l0 : List Int) : Option (Bool) := ((slices_IndexFunc_int_int_b.f k l0).bind fun t1 => (some (decide (t1 ≥ 0))))
def slices_ContainsFunc_int_int_b.en (r : Bool) : Res := (.lit r, [])
def slices_ContainsFunc_int_int_b.dec : List AV → List R.Obj → Option (List Int)
  | [.imm (.I .i64 l0), .clo 114 []], [] => some l0
  | _, _ => none
def slices_ContainsFunc_int_int_b.tw : Tw := ⟨113, List Int, Bool, slices_ContainsFunc_int_int_b.dec, fun a => [.imm (.I .i64 a), .clo 114 []], fun a => [], fun k a => slices_ContainsFunc_int_int_b.f k a, fun a r => slices_ContainsFunc_int_int_b.en r⟩
theorem slices_ContainsFunc_int_int_b.dok : slices_ContainsFunc_int_int_b.tw.DecOk := by
  intro args hc a h
  have h : slices_ContainsFunc_int_int_b.dec args hc = some a := h
  unfold slices_ContainsFunc_int_int_b.dec at h
  split at h
  · cases h; exact ⟨rfl, rfl⟩
  · cases h
noncomputable def slices_ContainsFunc_int_int_b.O (k : Nat) : Oracle := (slices_IndexFunc_int_int_b.tw.orc k noO)
def slices_ContainsFunc_int_int_b.fh : FH := ⟨fun i => match i with | _ => none, [], false⟩
set_option maxRecDepth 100000 in
theorem slices_ContainsFunc_int_int_b.ef (k : Nat) (l0 : List Int) : R.start Try.prog xhn slices_ContainsFunc_int_int_b.O 0 Try.f113 slices_ContainsFunc_int_int_b.fh k [.imm (.I .i64 l0), .clo 114 []] [] = ((slices_IndexFunc_int_int_b.f k l0).bind fun t1 => (some (slices_ContainsFunc_int_int_b.en (decide (t1 ≥ 0))))) := by kernel_rfl
theorem slices_ContainsFunc_int_int_b.sf (k : Nat) (l0 : List Int) : R.start Try.prog xhn slices_ContainsFunc_int_int_b.O 0 Try.f113 slices_ContainsFunc_int_int_b.fh k [.imm (.I .i64 l0), .clo 114 []] [] = (slices_ContainsFunc_int_int_b.f k l0).map (slices_ContainsFunc_int_int_b.en) := by
  rw [slices_ContainsFunc_int_int_b.ef]
  simp only [slices_ContainsFunc_int_int_b.f, R.map_ite, R.map_bind, R.map_none, R.map_some]
theorem slices_ContainsFunc_int_int_b.ok (k : Nat) : slices_ContainsFunc_int_int_b.tw.Ok Try.prog k := by
  intro a r h
  refine fn_ok (H := xhn) (fh := slices_ContainsFunc_int_int_b.fh) (O := slices_ContainsFunc_int_int_b.O) (k := k) Try.func113 (by kernel_rfl) (by kernel_rfl) (fun j _ => (Tw.orc_sound slices_IndexFunc_int_int_b.dok (slices_IndexFunc_int_int_b.ok j) noO_sound)) (by kernel_rfl) (m := 0) rfl ?_
  refine (slices_ContainsFunc_int_int_b.sf k a).trans ?_
  exact congrArg (Option.map _) h
def impl_GradesValid.f (k : Nat) (a0_0 : Int) (l0_1 : List Int) : Option (Bool) := ((impl_MatrixValid.f k a0_0 l0_1).bind fun t1 => (if t1 = true then ((slices_ContainsFunc_int_int_b.f k l0_1).bind fun t2 => (some (!decide (t2 = true)))) else (some false)))
def impl_GradesValid.en (r : Bool) : Res := (.lit r, [])
def impl_GradesValid.dec : List AV → List R.Obj → Option (Int × (List Int))
  | [.agg [.int .i64 a0_0, .imm (.I .i64 l0_1)]], [] => some (a0_0, l0_1)
  | _, _ => none
def impl_GradesValid.tw : Tw := ⟨46, Int × (List Int), Bool, impl_GradesValid.dec, fun a => [.agg [.int .i64 a.1, .imm (.I .i64 a.2)]], fun a => [], fun k a => impl_GradesValid.f k a.1 a.2, fun a r => impl_GradesValid.en r⟩
theorem impl_GradesValid.dok : impl_GradesValid.tw.DecOk := by
  intro args hc a h
  have h : impl_GradesValid.dec args hc = some a := h
  unfold impl_GradesValid.dec at h
  split at h
  · cases h; exact ⟨rfl, rfl⟩
  · cases h
noncomputable def impl_GradesValid.O (k : Nat) : Oracle := (impl_MatrixValid.tw.orc k (slices_ContainsFunc_int_int_b.tw.orc k noO))
def impl_GradesValid.fh : FH := ⟨fun i => match i with | _ => none, [], false⟩
set_option maxRecDepth 100000 in
theorem impl_GradesValid.ef (k : Nat) (a0_0 : Int) (l0_1 : List Int) : R.start Try.prog xhn impl_GradesValid.O 0 Try.f46 impl_GradesValid.fh k [.agg [.int .i64 a0_0, .imm (.I .i64 l0_1)]] [] = ((impl_MatrixValid.f k a0_0 l0_1).bind fun t1 => (if t1 = true then ((slices_ContainsFunc_int_int_b.f k l0_1).bind fun t2 => (some (impl_GradesValid.en (!decide (t2 = true))))) else (some (impl_GradesValid.en false)))) := by kernel_rfl
theorem impl_GradesValid.sf (k : Nat) (a0_0 : Int) (l0_1 : List Int) : R.start Try.prog xhn impl_GradesValid.O 0 Try.f46 impl_GradesValid.fh k [.agg [.int .i64 a0_0, .imm (.I .i64 l0_1)]] [] = (impl_GradesValid.f k a0_0 l0_1).map (impl_GradesValid.en) := by
  rw [impl_GradesValid.ef]
  simp only [impl_GradesValid.f, R.map_ite, R.map_bind, R.map_none, R.map_some]
theorem impl_GradesValid.ok (k : Nat) : impl_GradesValid.tw.Ok Try.prog k := by
  intro a r h
  refine fn_ok (H := xhn) (fh := impl_GradesValid.fh) (O := impl_GradesValid.O) (k := k) Try.func46 (by kernel_rfl) (by kernel_rfl) (fun j _ => (Tw.orc_sound impl_MatrixValid.dok (impl_MatrixValid.ok j) (Tw.orc_sound slices_ContainsFunc_int_int_b.dok (slices_ContainsFunc_int_int_b.ok j) noO_sound))) (by kernel_rfl) (m := 0) rfl ?_
  refine (impl_GradesValid.sf k a.1 a.2).trans ?_
  exact congrArg (Option.map _) h
def impl_MulGrades_1.l0 : Nat → Int → Int → Int → Int → Int → Int → (List Int) → Int → (List Int) → Option (Int)
  | 0, _, _, _, _, _, _, _, _, _ => none
  | k + 1, x0, x1, x7, x10, x11, y0_0, y0_1, y1_0, y1_1 => (if x11 < x10 then ((impl_Matrix_at.f y0_0 y0_1 x0 x11).bind fun t1 => ((impl_Matrix_at.f y1_0 y1_1 x11 x1).bind fun t2 => (impl_MulGrades_1.l0 k x0 x1 (mn x7 (mx t1 t2)) x10 (wrap64 (x11 + 1)) y0_0 y0_1 y1_0 y1_1))) else (some x7))
def impl_MulGrades_1.f (k : Nat) (a0 : Int) (a1 : Int) (a4_0 : Int) (l4_1 : List Int) (a5_0 : Int) (l5_1 : List Int) : Option (Int) := (impl_MulGrades_1.l0 k a0 a1 3 a4_0 0 a4_0 l4_1 a5_0 l5_1)
def impl_MulGrades_1.en (a4_0 : Int) (l4_1 : List Int) (a5_0 : Int) (l5_1 : List Int) (r : Int) : Res := (.int .i64 r, [.box true [.int .i64 a4_0, .imm (.I .i64 l4_1)], .box true [.int .i64 a5_0, .imm (.I .i64 l5_1)]])
def impl_MulGrades_1.dec : List AV → List R.Obj → Option (Int × Int × Int × (List Int) × Int × (List Int))
  | [.int .i64 a0, .int .i64 a1, .ptr 0 0, .ptr 1 0], [.box true [.int .i64 a4_0, .imm (.I .i64 l4_1)], .box true [.int .i64 a5_0, .imm (.I .i64 l5_1)]] => some (a0, a1, a4_0, l4_1, a5_0, l5_1)
  | _, _ => none
def impl_MulGrades_1.tw : Tw := ⟨112, Int × Int × Int × (List Int) × Int × (List Int), Int, impl_MulGrades_1.dec, fun a => [.int .i64 a.1, .int .i64 a.2.1, .ptr 0 0, .ptr 1 0], fun a => [.box true [.int .i64 a.2.2.1, .imm (.I .i64 a.2.2.2.1)], .box true [.int .i64 a.2.2.2.2.1, .imm (.I .i64 a.2.2.2.2.2)]], fun k a => impl_MulGrades_1.f k a.1 a.2.1 a.2.2.1 a.2.2.2.1 a.2.2.2.2.1 a.2.2.2.2.2, fun a r => impl_MulGrades_1.en a.2.2.1 a.2.2.2.1 a.2.2.2.2.1 a.2.2.2.2.2 r⟩
theorem impl_MulGrades_1.dok : impl_MulGrades_1.tw.DecOk := by
  intro args hc a h
  have h : impl_MulGrades_1.dec args hc = some a := h
  unfold impl_MulGrades_1.dec at h
  split at h
  · cases h; exact ⟨rfl, rfl⟩
  · cases h
noncomputable def impl_MulGrades_1.O (k : Nat) : Oracle := (impl_Matrix_at.tw.orc k noO)
def impl_MulGrades_1.fh : FH := ⟨fun i => match i with | 3 => some [(0, 0), (1, 0), (2, 0), (3, 0), (7, 0), (10, 0), (11, 0)] | _ => none, [], false⟩
noncomputable def impl_MulGrades_1.x0 (k : Nat) (x0 : Int) (x1 : Int) (x7 : Int) (x10 : Int) (x11 : Int) (y0_0 : Int) (y0_1 : List Int) (y1_0 : Int) (y1_1 : List Int) : Option Res := R.exec Try.prog xhn impl_MulGrades_1.O 2 Try.f112 impl_MulGrades_1.fh k (R.point Try.f112 3) ⟨[(0, .int .i64 x0), (1, .int .i64 x1), (2, .ptr 0 0), (3, .ptr 1 0), (7, .int .i64 x7), (10, .int .i64 x10), (11, .int .i64 x11)], [(0, .box true [.int .i64 y0_0, .imm (.I .i64 y0_1)]), (1, .box true [.int .i64 y1_0, .imm (.I .i64 y1_1)])], 4⟩
set_option maxRecDepth 100000 in
theorem impl_MulGrades_1.e0 (k : Nat) (x0 : Int) (x1 : Int) (x7 : Int) (x10 : Int) (x11 : Int) (y0_0 : Int) (y0_1 : List Int) (y1_0 : Int) (y1_1 : List Int) : impl_MulGrades_1.x0 (k + 1) x0 x1 x7 x10 x11 y0_0 y0_1 y1_0 y1_1 = (if x11 < x10 then ((impl_Matrix_at.f y0_0 y0_1 x0 x11).bind fun t1 => ((impl_Matrix_at.f y1_0 y1_1 x11 x1).bind fun t2 => (impl_MulGrades_1.x0 k x0 x1 (mn x7 (mx t1 t2)) x10 (wrap64 (x11 + 1)) y0_0 y0_1 y1_0 y1_1))) else (some (impl_MulGrades_1.en y0_0 y0_1 y1_0 y1_1 x7))) := by kernel_rfl
set_option maxRecDepth 100000 in
theorem impl_MulGrades_1.ef (k : Nat) (a0 : Int) (a1 : Int) (a4_0 : Int) (l4_1 : List Int) (a5_0 : Int) (l5_1 : List Int) : R.start Try.prog xhn impl_MulGrades_1.O 2 Try.f112 impl_MulGrades_1.fh k [.int .i64 a0, .int .i64 a1, .ptr 0 0, .ptr 1 0] [.box true [.int .i64 a4_0, .imm (.I .i64 l4_1)], .box true [.int .i64 a5_0, .imm (.I .i64 l5_1)]] = (impl_MulGrades_1.x0 k a0 a1 3 a4_0 0 a4_0 l4_1 a5_0 l5_1) := by kernel_rfl
theorem impl_MulGrades_1.link : ∀ k, (∀ (x0 : Int) (x1 : Int) (x7 : Int) (x10 : Int) (x11 : Int) (y0_0 : Int) (y0_1 : List Int) (y1_0 : Int) (y1_1 : List Int), impl_MulGrades_1.x0 k x0 x1 x7 x10 x11 y0_0 y0_1 y1_0 y1_1 = (impl_MulGrades_1.l0 k x0 x1 x7 x10 x11 y0_0 y0_1 y1_0 y1_1).map (impl_MulGrades_1.en y0_0 y0_1 y1_0 y1_1))
  | 0 => fun _ _ _ _ _ _ _ _ _ => by simp only [impl_MulGrades_1.l0, R.map_none]; rfl
  | k + 1 => by
    have ih0 := impl_MulGrades_1.link k
    · intro x0 x1 x7 x10 x11 y0_0 y0_1 y1_0 y1_1
      rw [impl_MulGrades_1.e0]
      simp only [impl_MulGrades_1.l0, R.map_ite, R.map_bind, R.map_none, R.map_some, ← ih0]
theorem impl_MulGrades_1.sf (k : Nat) (a0 : Int) (a1 : Int) (a4_0 : Int) (l4_1 : List Int) (a5_0 : Int) (l5_1 : List Int) : R.start Try.prog xhn impl_MulGrades_1.O 2 Try.f112 impl_MulGrades_1.fh k [.int .i64 a0, .int .i64 a1, .ptr 0 0, .ptr 1 0] [.box true [.int .i64 a4_0, .imm (.I .i64 l4_1)], .box true [.int .i64 a5_0, .imm (.I .i64 l5_1)]] = (impl_MulGrades_1.f k a0 a1 a4_0 l4_1 a5_0 l5_1).map (impl_MulGrades_1.en a4_0 l4_1 a5_0 l5_1) := by
  have ih0 := impl_MulGrades_1.link k
  rw [impl_MulGrades_1.ef]
  simp only [impl_MulGrades_1.f, R.map_ite, R.map_bind, R.map_none, R.map_some, ← ih0]
theorem impl_MulGrades_1.ok (k : Nat) : impl_MulGrades_1.tw.Ok Try.prog k := by
  intro a r h
  refine fn_ok (H := xhn) (fh := impl_MulGrades_1.fh) (O := impl_MulGrades_1.O) (k := k) Try.func112 (by kernel_rfl) (by kernel_rfl) (fun j _ => (Tw.orc_sound impl_Matrix_at.dok (impl_Matrix_at.ok j) noO_sound)) (by kernel_rfl) (m := 2) rfl ?_
  refine (impl_MulGrades_1.sf k a.1 a.2.1 a.2.2.1 a.2.2.2.1 a.2.2.2.2.1 a.2.2.2.2.2).trans ?_
  exact congrArg (Option.map _) h
mutual
def impl_filled_e.l0 : Nat → Int → Int → Int → Int → (List Int) → Int → (List Int) → Int → (List Int) → Option (Int × (List Int))
  | 0, _, _, _, _, _, _, _, _, _ => none
  | k + 1, x0, x10, x11, y0_0, y0_1, y1_0, y1_1, y3_0, y5 => (if x11 < x10 then (impl_filled_e.l1 k x0 x11 x10 x11 x0 0 y0_0 y0_1 y1_0 y1_1 y3_0 y5) else (some (y3_0, y5)))
def impl_filled_e.l1 : Nat → Int → Int → Int → Int → Int → Int → Int → (List Int) → Int → (List Int) → Int → (List Int) → Option (Int × (List Int))
  | 0, _, _, _, _, _, _, _, _, _, _, _, _ => none
  | k + 1, x0, x6, x10, x11, x14, x15, y0_0, y0_1, y1_0, y1_1, y3_0, y5 => (if x15 < x14 then ((impl_MulGrades_1.f k x6 x15 y0_0 y0_1 y1_0 y1_1).bind fun t1 => (if y5.length < 17592186044416 then (impl_filled_e.l1 k x0 x6 x10 x11 x14 (wrap64 (x15 + 1)) y0_0 y0_1 y1_0 y1_1 y3_0 (y5 ++ [t1])) else none)) else (impl_filled_e.l0 k x0 x10 (wrap64 (x11 + 1)) y0_0 y0_1 y1_0 y1_1 y3_0 y5))
end
def impl_filled_e.f (k : Nat) (a0 : Int) (a2_0 : Int) (l2_1 : List Int) (a3_0 : Int) (l3_1 : List Int) : Option (Int × (List Int)) := (impl_filled_e.l0 k a0 a0 0 a2_0 l2_1 a3_0 l3_1 a0 ([] : List Int))
def impl_filled_e.en (a2_0 : Int) (l2_1 : List Int) (a3_0 : Int) (l3_1 : List Int) (r : Int × (List Int)) : Res := (.agg [.int .i64 r.1, .sl 2 0], [.box true [.int .i64 a2_0, .imm (.I .i64 l2_1)], .box true [.int .i64 a3_0, .imm (.I .i64 l3_1)], .arr 3 0 (.I .i64 r.2) false])
def impl_filled_e.dec : List AV → List R.Obj → Option (Int × Int × (List Int) × Int × (List Int))
  | [.int .i64 a0, .clo 112 [.ptr 0 0, .ptr 1 0]], [.box true [.int .i64 a2_0, .imm (.I .i64 l2_1)], .box true [.int .i64 a3_0, .imm (.I .i64 l3_1)]] => some (a0, a2_0, l2_1, a3_0, l3_1)
  | _, _ => none
def impl_filled_e.tw : Tw := ⟨107, Int × Int × (List Int) × Int × (List Int), Int × (List Int), impl_filled_e.dec, fun a => [.int .i64 a.1, .clo 112 [.ptr 0 0, .ptr 1 0]], fun a => [.box true [.int .i64 a.2.1, .imm (.I .i64 a.2.2.1)], .box true [.int .i64 a.2.2.2.1, .imm (.I .i64 a.2.2.2.2)]], fun k a => impl_filled_e.f k a.1 a.2.1 a.2.2.1 a.2.2.2.1 a.2.2.2.2, fun a r => impl_filled_e.en a.2.1 a.2.2.1 a.2.2.2.1 a.2.2.2.2 r⟩
theorem impl_filled_e.dok : impl_filled_e.tw.DecOk := by
  intro args hc a h
  have h : impl_filled_e.dec args hc = some a := h
  unfold impl_filled_e.dec at h
  split at h
  · cases h; exact ⟨rfl, rfl⟩
  · cases h
noncomputable def impl_filled_e.O (k : Nat) : Oracle := (impl_MulGrades_1.tw.orc k noO)
def impl_filled_e.fh : FH := ⟨fun i => match i with | 3 => some [(0, 0), (1, 0), (4, 0), (5, 0), (10, 0), (11, 0)] | 6 => some [(0, 0), (1, 0), (4, 0), (5, 0), (6, 0), (10, 0), (11, 0), (14, 0), (15, 0)] | _ => none, [(true, 3)], false⟩
noncomputable def impl_filled_e.x0 (k : Nat) (x0 : Int) (x10 : Int) (x11 : Int) (y0_0 : Int) (y0_1 : List Int) (y1_0 : Int) (y1_1 : List Int) (y3_0 : Int) (y5 : List Int) : Option Res := R.exec Try.prog xhn impl_filled_e.O 2 Try.f107 impl_filled_e.fh k (R.point Try.f107 3) ⟨[(0, .int .i64 x0), (1, .clo 112 [.ptr 0 0, .ptr 1 0]), (4, .ptr 2 0), (5, .ptr 3 0), (10, .int .i64 x10), (11, .int .i64 x11)], [(0, .box true [.int .i64 y0_0, .imm (.I .i64 y0_1)]), (1, .box true [.int .i64 y1_0, .imm (.I .i64 y1_1)]), (2, .box false [.int .i64 0, .sl 4 0]), (3, .box false [.int .i64 y3_0, .sl 5 0]), (4, .arr 3 0 (.I .i64 ([] : List Int)) false), (5, .arr 3 0 (.I .i64 y5) false)], 8⟩
noncomputable def impl_filled_e.x1 (k : Nat) (x0 : Int) (x6 : Int) (x10 : Int) (x11 : Int) (x14 : Int) (x15 : Int) (y0_0 : Int) (y0_1 : List Int) (y1_0 : Int) (y1_1 : List Int) (y3_0 : Int) (y5 : List Int) : Option Res := R.exec Try.prog xhn impl_filled_e.O 2 Try.f107 impl_filled_e.fh k (R.point Try.f107 6) ⟨[(0, .int .i64 x0), (1, .clo 112 [.ptr 0 0, .ptr 1 0]), (4, .ptr 2 0), (5, .ptr 3 0), (6, .int .i64 x6), (10, .int .i64 x10), (11, .int .i64 x11), (14, .int .i64 x14), (15, .int .i64 x15)], [(0, .box true [.int .i64 y0_0, .imm (.I .i64 y0_1)]), (1, .box true [.int .i64 y1_0, .imm (.I .i64 y1_1)]), (2, .box false [.int .i64 0, .sl 4 0]), (3, .box false [.int .i64 y3_0, .sl 5 0]), (4, .arr 3 0 (.I .i64 ([] : List Int)) false), (5, .arr 3 0 (.I .i64 y5) false)], 8⟩
set_option maxRecDepth 100000 in
theorem impl_filled_e.e0 (k : Nat) (x0 : Int) (x10 : Int) (x11 : Int) (y0_0 : Int) (y0_1 : List Int) (y1_0 : Int) (y1_1 : List Int) (y3_0 : Int) (y5 : List Int) : impl_filled_e.x0 (k + 1) x0 x10 x11 y0_0 y0_1 y1_0 y1_1 y3_0 y5 = (if x11 < x10 then (impl_filled_e.x1 k x0 x11 x10 x11 x0 0 y0_0 y0_1 y1_0 y1_1 y3_0 y5) else (some (impl_filled_e.en y0_0 y0_1 y1_0 y1_1 (y3_0, y5)))) := by kernel_rfl
set_option maxRecDepth 100000 in
theorem impl_filled_e.e1 (k : Nat) (x0 : Int) (x6 : Int) (x10 : Int) (x11 : Int) (x14 : Int) (x15 : Int) (y0_0 : Int) (y0_1 : List Int) (y1_0 : Int) (y1_1 : List Int) (y3_0 : Int) (y5 : List Int) : impl_filled_e.x1 (k + 1) x0 x6 x10 x11 x14 x15 y0_0 y0_1 y1_0 y1_1 y3_0 y5 = (if x15 < x14 then ((impl_MulGrades_1.f k x6 x15 y0_0 y0_1 y1_0 y1_1).bind fun t1 => (if y5.length < 17592186044416 then (impl_filled_e.x1 k x0 x6 x10 x11 x14 (wrap64 (x15 + 1)) y0_0 y0_1 y1_0 y1_1 y3_0 (y5 ++ [t1])) else none)) else (impl_filled_e.x0 k x0 x10 (wrap64 (x11 + 1)) y0_0 y0_1 y1_0 y1_1 y3_0 y5)) := by kernel_rfl
set_option maxRecDepth 100000 in
theorem impl_filled_e.ef (k : Nat) (a0 : Int) (a2_0 : Int) (l2_1 : List Int) (a3_0 : Int) (l3_1 : List Int) : R.start Try.prog xhn impl_filled_e.O 2 Try.f107 impl_filled_e.fh k [.int .i64 a0, .clo 112 [.ptr 0 0, .ptr 1 0]] [.box true [.int .i64 a2_0, .imm (.I .i64 l2_1)], .box true [.int .i64 a3_0, .imm (.I .i64 l3_1)]] = (impl_filled_e.x0 k a0 a0 0 a2_0 l2_1 a3_0 l3_1 a0 ([] : List Int)) := by kernel_rfl
theorem impl_filled_e.link : ∀ k, (∀ (x0 : Int) (x10 : Int) (x11 : Int) (y0_0 : Int) (y0_1 : List Int) (y1_0 : Int) (y1_1 : List Int) (y3_0 : Int) (y5 : List Int), impl_filled_e.x0 k x0 x10 x11 y0_0 y0_1 y1_0 y1_1 y3_0 y5 = (impl_filled_e.l0 k x0 x10 x11 y0_0 y0_1 y1_0 y1_1 y3_0 y5).map (impl_filled_e.en y0_0 y0_1 y1_0 y1_1)) ∧ (∀ (x0 : Int) (x6 : Int) (x10 : Int) (x11 : Int) (x14 : Int) (x15 : Int) (y0_0 : Int) (y0_1 : List Int) (y1_0 : Int) (y1_1 : List Int) (y3_0 : Int) (y5 : List Int), impl_filled_e.x1 k x0 x6 x10 x11 x14 x15 y0_0 y0_1 y1_0 y1_1 y3_0 y5 = (impl_filled_e.l1 k x0 x6 x10 x11 x14 x15 y0_0 y0_1 y1_0 y1_1 y3_0 y5).map (impl_filled_e.en y0_0 y0_1 y1_0 y1_1))
  | 0 => ⟨fun _ _ _ _ _ _ _ _ _ => by simp only [impl_filled_e.l0, R.map_none]; rfl, fun _ _ _ _ _ _ _ _ _ _ _ _ => by simp only [impl_filled_e.l1, R.map_none]; rfl⟩
  | k + 1 => by
    obtain ⟨ih0, ih1⟩ := impl_filled_e.link k
    refine ⟨?_, ?_⟩
    · intro x0 x10 x11 y0_0 y0_1 y1_0 y1_1 y3_0 y5
      rw [impl_filled_e.e0]
      simp only [impl_filled_e.l0, R.map_ite, R.map_bind, R.map_none, R.map_some, ← ih0, ← ih1]
    · intro x0 x6 x10 x11 x14 x15 y0_0 y0_1 y1_0 y1_1 y3_0 y5
      rw [impl_filled_e.e1]
      simp only [impl_filled_e.l1, R.map_ite, R.map_bind, R.map_none, R.map_some, ← ih0, ← ih1]
theorem impl_filled_e.sf (k : Nat) (a0 : Int) (a2_0 : Int) (l2_1 : List Int) (a3_0 : Int) (l3_1 : List Int) : R.start Try.prog xhn impl_filled_e.O 2 Try.f107 impl_filled_e.fh k [.int .i64 a0, .clo 112 [.ptr 0 0, .ptr 1 0]] [.box true [.int .i64 a2_0, .imm (.I .i64 l2_1)], .box true [.int .i64 a3_0, .imm (.I .i64 l3_1)]] = (impl_filled_e.f k a0 a2_0 l2_1 a3_0 l3_1).map (impl_filled_e.en a2_0 l2_1 a3_0 l3_1) := by
  obtain ⟨ih0, ih1⟩ := impl_filled_e.link k
  rw [impl_filled_e.ef]
  simp only [impl_filled_e.f, R.map_ite, R.map_bind, R.map_none, R.map_some, ← ih0, ← ih1]
theorem impl_filled_e.ok (k : Nat) : impl_filled_e.tw.Ok Try.prog k := by
  intro a r h
  refine fn_ok (H := xhn) (fh := impl_filled_e.fh) (O := impl_filled_e.O) (k := k) Try.func107 (by kernel_rfl) (by kernel_rfl) (fun j _ => (Tw.orc_sound impl_MulGrades_1.dok (impl_MulGrades_1.ok j) noO_sound)) (by kernel_rfl) (m := 2) rfl ?_
  refine (impl_filled_e.sf k a.1 a.2.1 a.2.2.1 a.2.2.2.1 a.2.2.2.2).trans ?_
  exact congrArg (Option.map _) h
def impl_MulGrades.f (k : Nat) (a0_0 : Int) (l0_1 : List Int) (a1_0 : Int) (l1_1 : List Int) : Option (Int × (List Int) × Bool) := ((impl_GradesValid.f k a0_0 l0_1).bind fun t1 => (if t1 = true then ((impl_GradesValid.f k a1_0 l1_1).bind fun t2 => (if t2 = true then (if a0_0 = a1_0 then ((impl_filled_e.f k a0_0 a0_0 l0_1 a1_0 l1_1).bind fun t3 => (some (t3.1, t3.2, true))) else (some (0, ([] : List Int), false))) else (some (0, ([] : List Int), false)))) else (some (0, ([] : List Int), false))))
def impl_MulGrades.en (r : Int × (List Int) × Bool) : Res := (.tup [.agg [.int .i64 r.1, .sl 0 0], .lit r.2.2], [.arr 3 0 (.I .i64 r.2.1) false])
def impl_MulGrades.dec : List AV → List R.Obj → Option (Int × (List Int) × Int × (List Int))
  | [.agg [.int .i64 a0_0, .imm (.I .i64 l0_1)], .agg [.int .i64 a1_0, .imm (.I .i64 l1_1)]], [] => some (a0_0, l0_1, a1_0, l1_1)
  | _, _ => none
def impl_MulGrades.tw : Tw := ⟨44, Int × (List Int) × Int × (List Int), Int × (List Int) × Bool, impl_MulGrades.dec, fun a => [.agg [.int .i64 a.1, .imm (.I .i64 a.2.1)], .agg [.int .i64 a.2.2.1, .imm (.I .i64 a.2.2.2)]], fun a => [], fun k a => impl_MulGrades.f k a.1 a.2.1 a.2.2.1 a.2.2.2, fun a r => impl_MulGrades.en r⟩
theorem impl_MulGrades.dok : impl_MulGrades.tw.DecOk := by
  intro args hc a h
  have h : impl_MulGrades.dec args hc = some a := h
  unfold impl_MulGrades.dec at h
  split at h
  · cases h; exact ⟨rfl, rfl⟩
  · cases h
noncomputable def impl_MulGrades.O (k : Nat) : Oracle := (impl_GradesValid.tw.orc k (impl_filled_e.tw.orc k noO))
def impl_MulGrades.fh : FH := ⟨fun i => match i with | _ => none, [(true, 3)], false⟩
set_option maxRecDepth 100000 in
theorem impl_MulGrades.ef (k : Nat) (a0_0 : Int) (l0_1 : List Int) (a1_0 : Int) (l1_1 : List Int) : R.start Try.prog xhn impl_MulGrades.O 0 Try.f44 impl_MulGrades.fh k [.agg [.int .i64 a0_0, .imm (.I .i64 l0_1)], .agg [.int .i64 a1_0, .imm (.I .i64 l1_1)]] [] = ((impl_GradesValid.f k a0_0 l0_1).bind fun t1 => (if t1 = true then ((impl_GradesValid.f k a1_0 l1_1).bind fun t2 => (if t2 = true then (if a0_0 = a1_0 then ((impl_filled_e.f k a0_0 a0_0 l0_1 a1_0 l1_1).bind fun t3 => (some (impl_MulGrades.en (t3.1, t3.2, true)))) else (some (impl_MulGrades.en (0, ([] : List Int), false)))) else (some (impl_MulGrades.en (0, ([] : List Int), false))))) else (some (impl_MulGrades.en (0, ([] : List Int), false))))) := by kernel_rfl
theorem impl_MulGrades.sf (k : Nat) (a0_0 : Int) (l0_1 : List Int) (a1_0 : Int) (l1_1 : List Int) : R.start Try.prog xhn impl_MulGrades.O 0 Try.f44 impl_MulGrades.fh k [.agg [.int .i64 a0_0, .imm (.I .i64 l0_1)], .agg [.int .i64 a1_0, .imm (.I .i64 l1_1)]] [] = (impl_MulGrades.f k a0_0 l0_1 a1_0 l1_1).map (impl_MulGrades.en) := by
  rw [impl_MulGrades.ef]
  simp only [impl_MulGrades.f, R.map_ite, R.map_bind, R.map_none, R.map_some]
theorem impl_MulGrades.ok (k : Nat) : impl_MulGrades.tw.Ok Try.prog k := by
  intro a r h
  refine fn_ok (H := xhn) (fh := impl_MulGrades.fh) (O := impl_MulGrades.O) (k := k) Try.func44 (by kernel_rfl) (by kernel_rfl) (fun j _ => (Tw.orc_sound impl_GradesValid.dok (impl_GradesValid.ok j) (Tw.orc_sound impl_filled_e.dok (impl_filled_e.ok j) noO_sound))) (by kernel_rfl) (m := 0) rfl ?_
  refine (impl_MulGrades.sf k a.1 a.2.1 a.2.2.1 a.2.2.2).trans ?_
  exact congrArg (Option.map _) h
def slices_Repeat_int_int.f (l0 : List Int) (a1 : Int) : Option (List Int) := if l0.length = 1 ∧ 1 ≤ a1 ∧ a1 ≤ 4 then some (List.replicate a1.toNat (rdI l0 0)) else none
def slices_Repeat_int_int.dec : List AV → List R.Obj → Option (List Int × Int)
  | [.imm (.I .i64 l0), .int .i64 a1], [] => some (l0, a1)
  | _, _ => none
def slices_Repeat_int_int.tw : Tw := ⟨144, List Int × Int, List Int, slices_Repeat_int_int.dec, fun a => [.imm (.I .i64 a.1), .int .i64 a.2], fun a => [], fun k a => slices_Repeat_int_int.f a.1 a.2, fun a r => (.sl 0 0, [.arr 3 0 (.I .i64 r) false])⟩
theorem slices_Repeat_int_int.dok : slices_Repeat_int_int.tw.DecOk := by
  intro args hc a h
  have h : slices_Repeat_int_int.dec args hc = some a := h
  unfold slices_Repeat_int_int.dec at h
  split at h
  · cases h; exact ⟨rfl, rfl⟩
  · cases h
open Go.Proofs.YtaaajdlgmllhaaaW.PrintWords in
theorem slices_Repeat_int_int.ok (k : Nat) : slices_Repeat_int_int.tw.Ok Try.prog k := by
  rintro ⟨l0, a1⟩ r h
  have h : slices_Repeat_int_int.f l0 a1 = some r := h
  refine ⟨callable_of Try.func144 (by kernel_rfl) (by kernel_rfl), fun w M I vs E => ?_⟩
  obtain ⟨V0, hV0⟩ : ∃ V0, vs[0]? = some V0 := ⟨vs[0]'(by have := E.len; have : 2 = vs.size := this; omega), Array.getElem?_eq_getElem _⟩
  have e : vs = #[V0, .int .i64 a1] := two_of E.len (fun q => Option.some.inj (q.symm.trans hV0)) (fun q => (E.args 1 _ _ rfl q).int_inv)
  obtain ⟨A0, c0, hs, hc, ha, hcell⟩ := (E.args 0 _ _ rfl hV0).imm_inv.imm_at
  subst hs
  subst e
  have hl : l0.length = 1 := by
    unfold slices_Repeat_int_int.f at h
    split at h
    · rename_i g; exact g.1
    · cases h
  have hr0 : Kd.C (Kd.int .i64) w A0 l0.length l0 := by
    refine ⟨rfl, by omega, fun hp => ?_⟩
    obtain ⟨b, o, rfl⟩ := ha hp
    refine ⟨_, rfl, fun j p hj => ⟨[.int .i64 p], rfl, rfl, fun i u hi => ?_⟩⟩
    have hjl : j < l0.length := (List.getElem?_eq_some_iff.1 hj).1
    match i with
    | 0 =>
      simp only [List.getElem?_cons_zero, Option.some.injEq] at hi
      subst hi
      obtain ⟨v, q1, _, q2⟩ := hcell b o rfl j 0 hjl (by simp [Ct.sz])
      have e1 : (Ct.I .i64 l0).sz = 1 := rfl
      rw [e1, Nat.mul_one, Nat.add_zero] at q1
      have e2 := (VR.closed (M := M) q2).int_inv
      rw [R.add_at, show (Kd.int IntKind.i64).sz = 1 from rfl, Nat.mul_one, Nat.add_zero, q1, e2]
      have e3 : rdI l0 (j : Int) = p := by simp [rdI, hj]
      exact congrArg (fun z => some (Value.int .i64 z)) e3
    | i + 1 => simp at hi
  refine (X.slices_Repeat_int_int.calls A0 c0 l0 a1 r w hr0 hc h).mono fun e w' => ?_
  rintro ⟨v, rfl, hR, hB⟩
  exact ext_ints (Kd.own_of_R (enc := Value.int .i64) (h1 := fun _ => rfl) hR) hB
mutual
def impl_toEnd.l0 : Nat → ByteArray → (List Int) → (List Int) → Int → Int → Int → (List Int) → (List Int) → (List Stp) → Option (List (List Int))
  | 0, _, _, _, _, _, _, _, _, _ => none
  | k + 1, x1, y1, x18, x19, x20, y0_0, y0_1, y0_2, y0_3 => (if x20 < x19 then (if 0 ≤ x20 then (if x20 < (x18.length : Int) then (if 0 ≤ (rdI x18 x20) then (if (rdI x18 x20) < (y1.length : Int) then (impl_toEnd.l0 k x1 (y1.set (rdI x18 x20).toNat 0) x18 x19 (wrap64 (x20 + 1)) y0_0 y0_1 y0_2 y0_3) else none) else none) else none) else none) else (impl_toEnd.l1 k x1 y1 ([y1]) (wrap64 ((x1.size : Int) - 1)) y0_0 y0_1 y0_2 y0_3))
def impl_toEnd.l1 : Nat → ByteArray → (List Int) → (List (List Int)) → Int → Int → (List Int) → (List Int) → (List Stp) → Option (List (List Int))
  | 0, _, _, _, _, _, _, _, _ => none
  | k + 1, x1, y1, y2, x9, y0_0, y0_1, y0_2, y0_3 => (if x9 ≥ 0 then ((slices_Repeat_int_int.f ([1000000]) y0_0).bind fun t2 => (impl_toEnd.l2 k x1 y1 y2 x9 t2 y0_3 (y0_3.length : Int) 0 y0_0 y0_1 y0_2 y0_3)) else (some y2))
def impl_toEnd.l2 : Nat → ByteArray → (List Int) → (List (List Int)) → Int → (List Int) → (List Stp) → Int → Int → Int → (List Int) → (List Int) → (List Stp) → Option (List (List Int))
  | 0, _, _, _, _, _, _, _, _, _, _, _, _ => none
  | k + 1, x1, y1, y2, x9, y3, x42, x43, x44, y0_0, y0_1, y0_2, y0_3 => (if x44 < x43 then (if 0 ≤ x44 then (if x44 < (x42.length : Int) then (if 0 ≤ x9 then (if x9 ≤ (wrap64 (x9 + 1)) then (if (wrap64 (x9 + 1)) ≤ (x1.size : Int) then (if (rdT x42 x44).f1.toList = (x1.extract x9.toNat (wrap64 (x9 + 1)).toNat).toList then (if 0 ≤ (rdT x42 x44).f0 then (if (rdT x42 x44).f0 < (y3.length : Int) then (if 0 ≤ (rdT x42 x44).f2 then (if (rdT x42 x44).f2 < (y1.length : Int) then (impl_toEnd.l2 k x1 y1 y2 x9 (y3.set (rdT x42 x44).f0.toNat (mn (rdI y3 (rdT x42 x44).f0) (wrap64 ((rdT x42 x44).f3 + (rdI y1 (rdT x42 x44).f2))))) x42 x43 (wrap64 (x44 + 1)) y0_0 y0_1 y0_2 y0_3) else none) else none) else none) else none) else (impl_toEnd.l2 k x1 y1 y2 x9 y3 x42 x43 (wrap64 (x44 + 1)) y0_0 y0_1 y0_2 y0_3)) else none) else none) else none) else none) else none) else (if y2.length < 5864062014805 then (impl_toEnd.l1 k x1 y3 (y2 ++ [y3]) (wrap64 (x9 - 1)) y0_0 y0_1 y0_2 y0_3) else none))
end
def impl_toEnd.f (k : Nat) (a0_0 : Int) (l0_1 : List Int) (l0_2 : List Int) (l0_3 : List Stp) (a1 : ByteArray) : Option (List (List Int)) := ((slices_Repeat_int_int.f ([1000000]) a0_0).bind fun t1 => (impl_toEnd.l0 k a1 t1 l0_2 (l0_2.length : Int) 0 a0_0 l0_1 l0_2 l0_3))
def impl_toEnd.en (r : List (List Int)) : Res := (.sl 0 0, [.arr 22 0 (.L r) false])
def impl_toEnd.dec : List AV → List R.Obj → Option (Int × (List Int) × (List Int) × (List Stp) × ByteArray)
  | [.agg [.int .i64 a0_0, .imm (.I .i64 l0_1), .imm (.I .i64 l0_2), .imm (.T l0_3)], .str a1], [] => some (a0_0, l0_1, l0_2, l0_3, a1)
  | _, _ => none
def impl_toEnd.tw : Tw := ⟨82, Int × (List Int) × (List Int) × (List Stp) × ByteArray, List (List Int), impl_toEnd.dec, fun a => [.agg [.int .i64 a.1, .imm (.I .i64 a.2.1), .imm (.I .i64 a.2.2.1), .imm (.T a.2.2.2.1)], .str a.2.2.2.2], fun a => [], fun k a => impl_toEnd.f k a.1 a.2.1 a.2.2.1 a.2.2.2.1 a.2.2.2.2, fun a r => impl_toEnd.en r⟩
theorem impl_toEnd.dok : impl_toEnd.tw.DecOk := by
  intro args hc a h
  have h : impl_toEnd.dec args hc = some a := h
  unfold impl_toEnd.dec at h
  split at h
  · cases h; exact ⟨rfl, rfl⟩
  · cases h
noncomputable def impl_toEnd.O (k : Nat) : Oracle := (slices_Repeat_int_int.tw.orc k noO)
def impl_toEnd.fh : FH := ⟨fun i => match i with | 3 => some [(1, 0), (2, 0), (5, 0), (18, 0), (19, 0), (20, 0)] | 9 => some [(1, 0), (2, 0), (5, 0), (8, 0), (9, 0)] | 13 => some [(1, 0), (2, 0), (5, 0), (8, 0), (9, 0), (10, 0), (42, 0), (43, 0), (44, 0)] | _ => none, [(true, 22)], false⟩
noncomputable def impl_toEnd.x0 (k : Nat) (x1 : ByteArray) (y1 : List Int) (x18 : List Int) (x19 : Int) (x20 : Int) (y0_0 : Int) (y0_1 : List Int) (y0_2 : List Int) (y0_3 : List Stp) : Option Res := R.exec Try.prog xhn impl_toEnd.O 0 Try.f82 impl_toEnd.fh k (R.point Try.f82 3) ⟨[(1, .str x1), (2, .ptr 0 0), (5, .sl 1 0), (18, .imm (.I .i64 x18)), (19, .int .i64 x19), (20, .int .i64 x20)], [(0, .box false [.int .i64 y0_0, .imm (.I .i64 y0_1), .imm (.I .i64 y0_2), .imm (.T y0_3)]), (1, .arr 3 0 (.I .i64 y1) false)], 4⟩
noncomputable def impl_toEnd.x1 (k : Nat) (x1 : ByteArray) (y1 : List Int) (y2 : List (List Int)) (x9 : Int) (y0_0 : Int) (y0_1 : List Int) (y0_2 : List Int) (y0_3 : List Stp) : Option Res := R.exec Try.prog xhn impl_toEnd.O 0 Try.f82 impl_toEnd.fh k (R.point Try.f82 9) ⟨[(1, .str x1), (2, .ptr 0 0), (5, .sl 1 0), (8, .sl 2 0), (9, .int .i64 x9)], [(0, .box false [.int .i64 y0_0, .imm (.I .i64 y0_1), .imm (.I .i64 y0_2), .imm (.T y0_3)]), (1, .arr 3 0 (.I .i64 y1) true), (2, .arr 22 0 (.L y2) false)], 5⟩
noncomputable def impl_toEnd.x2 (k : Nat) (x1 : ByteArray) (y1 : List Int) (y2 : List (List Int)) (x9 : Int) (y3 : List Int) (x42 : List Stp) (x43 : Int) (x44 : Int) (y0_0 : Int) (y0_1 : List Int) (y0_2 : List Int) (y0_3 : List Stp) : Option Res := R.exec Try.prog xhn impl_toEnd.O 0 Try.f82 impl_toEnd.fh k (R.point Try.f82 13) ⟨[(1, .str x1), (2, .ptr 0 0), (5, .sl 1 0), (8, .sl 2 0), (9, .int .i64 x9), (10, .sl 3 0), (42, .imm (.T x42)), (43, .int .i64 x43), (44, .int .i64 x44)], [(0, .box false [.int .i64 y0_0, .imm (.I .i64 y0_1), .imm (.I .i64 y0_2), .imm (.T y0_3)]), (1, .arr 3 0 (.I .i64 y1) true), (2, .arr 22 0 (.L y2) false), (3, .arr 3 0 (.I .i64 y3) false)], 6⟩
set_option maxRecDepth 100000 in
theorem impl_toEnd.e0 (k : Nat) (x1 : ByteArray) (y1 : List Int) (x18 : List Int) (x19 : Int) (x20 : Int) (y0_0 : Int) (y0_1 : List Int) (y0_2 : List Int) (y0_3 : List Stp) : impl_toEnd.x0 (k + 1) x1 y1 x18 x19 x20 y0_0 y0_1 y0_2 y0_3 = (if x20 < x19 then (if 0 ≤ x20 then (if x20 < (x18.length : Int) then (if 0 ≤ (rdI x18 x20) then (if (rdI x18 x20) < (y1.length : Int) then (impl_toEnd.x0 k x1 (y1.set (rdI x18 x20).toNat 0) x18 x19 (wrap64 (x20 + 1)) y0_0 y0_1 y0_2 y0_3) else none) else none) else none) else none) else (impl_toEnd.x1 k x1 y1 ([y1]) (wrap64 ((x1.size : Int) - 1)) y0_0 y0_1 y0_2 y0_3)) := by kernel_rfl
set_option maxRecDepth 100000 in
theorem impl_toEnd.e1 (k : Nat) (x1 : ByteArray) (y1 : List Int) (y2 : List (List Int)) (x9 : Int) (y0_0 : Int) (y0_1 : List Int) (y0_2 : List Int) (y0_3 : List Stp) : impl_toEnd.x1 (k + 1) x1 y1 y2 x9 y0_0 y0_1 y0_2 y0_3 = (if x9 ≥ 0 then ((slices_Repeat_int_int.f ([1000000]) y0_0).bind fun t2 => (impl_toEnd.x2 k x1 y1 y2 x9 t2 y0_3 (y0_3.length : Int) 0 y0_0 y0_1 y0_2 y0_3)) else (some (impl_toEnd.en y2))) := by kernel_rfl
set_option maxRecDepth 100000 in
theorem impl_toEnd.e2 (k : Nat) (x1 : ByteArray) (y1 : List Int) (y2 : List (List Int)) (x9 : Int) (y3 : List Int) (x42 : List Stp) (x43 : Int) (x44 : Int) (y0_0 : Int) (y0_1 : List Int) (y0_2 : List Int) (y0_3 : List Stp) : impl_toEnd.x2 (k + 1) x1 y1 y2 x9 y3 x42 x43 x44 y0_0 y0_1 y0_2 y0_3 = (if x44 < x43 then (if 0 ≤ x44 then (if x44 < (x42.length : Int) then (if 0 ≤ x9 then (if x9 ≤ (wrap64 (x9 + 1)) then (if (wrap64 (x9 + 1)) ≤ (x1.size : Int) then (if (rdT x42 x44).f1.toList = (x1.extract x9.toNat (wrap64 (x9 + 1)).toNat).toList then (if 0 ≤ (rdT x42 x44).f0 then (if (rdT x42 x44).f0 < (y3.length : Int) then (if 0 ≤ (rdT x42 x44).f2 then (if (rdT x42 x44).f2 < (y1.length : Int) then (impl_toEnd.x2 k x1 y1 y2 x9 (y3.set (rdT x42 x44).f0.toNat (mn (rdI y3 (rdT x42 x44).f0) (wrap64 ((rdT x42 x44).f3 + (rdI y1 (rdT x42 x44).f2))))) x42 x43 (wrap64 (x44 + 1)) y0_0 y0_1 y0_2 y0_3) else none) else none) else none) else none) else (impl_toEnd.x2 k x1 y1 y2 x9 y3 x42 x43 (wrap64 (x44 + 1)) y0_0 y0_1 y0_2 y0_3)) else none) else none) else none) else none) else none) else (if y2.length < 5864062014805 then (impl_toEnd.x1 k x1 y3 (y2 ++ [y3]) (wrap64 (x9 - 1)) y0_0 y0_1 y0_2 y0_3) else none)) := by
  refine Eq.trans ?_ (R.icong (fun h0 => (R.icong (fun h1 => (R.icong (fun h2 => (R.icong (fun h3 => (R.icong (fun h4 => (R.icong (fun h5 => (R.icong (fun h6 => (R.icong (fun h7 => (R.icong (fun h8 => (R.icong (fun h9 => (R.icong (fun h10 => (R.idropT (p := 0 ≤ (rdT x42 x44).f0) (z := none) h7 (R.idropT (p := (rdT x42 x44).f0 < (y3.length : Int)) (z := none) h8 rfl))) (fun h10 => rfl))) (fun h9 => rfl))) (fun h8 => rfl))) (fun h7 => rfl))) (fun h6 => rfl))) (fun h5 => rfl))) (fun h4 => rfl))) (fun h3 => rfl))) (fun h2 => rfl))) (fun h1 => rfl))) (fun h0 => rfl))
  kernel_rfl
set_option maxRecDepth 100000 in
theorem impl_toEnd.ef (k : Nat) (a0_0 : Int) (l0_1 : List Int) (l0_2 : List Int) (l0_3 : List Stp) (a1 : ByteArray) : R.start Try.prog xhn impl_toEnd.O 0 Try.f82 impl_toEnd.fh k [.agg [.int .i64 a0_0, .imm (.I .i64 l0_1), .imm (.I .i64 l0_2), .imm (.T l0_3)], .str a1] [] = ((slices_Repeat_int_int.f ([1000000]) a0_0).bind fun t1 => (impl_toEnd.x0 k a1 t1 l0_2 (l0_2.length : Int) 0 a0_0 l0_1 l0_2 l0_3)) := by kernel_rfl
theorem impl_toEnd.link : ∀ k, (∀ (x1 : ByteArray) (y1 : List Int) (x18 : List Int) (x19 : Int) (x20 : Int) (y0_0 : Int) (y0_1 : List Int) (y0_2 : List Int) (y0_3 : List Stp), impl_toEnd.x0 k x1 y1 x18 x19 x20 y0_0 y0_1 y0_2 y0_3 = (impl_toEnd.l0 k x1 y1 x18 x19 x20 y0_0 y0_1 y0_2 y0_3).map (impl_toEnd.en)) ∧ (∀ (x1 : ByteArray) (y1 : List Int) (y2 : List (List Int)) (x9 : Int) (y0_0 : Int) (y0_1 : List Int) (y0_2 : List Int) (y0_3 : List Stp), impl_toEnd.x1 k x1 y1 y2 x9 y0_0 y0_1 y0_2 y0_3 = (impl_toEnd.l1 k x1 y1 y2 x9 y0_0 y0_1 y0_2 y0_3).map (impl_toEnd.en)) ∧ (∀ (x1 : ByteArray) (y1 : List Int) (y2 : List (List Int)) (x9 : Int) (y3 : List Int) (x42 : List Stp) (x43 : Int) (x44 : Int) (y0_0 : Int) (y0_1 : List Int) (y0_2 : List Int) (y0_3 : List Stp), impl_toEnd.x2 k x1 y1 y2 x9 y3 x42 x43 x44 y0_0 y0_1 y0_2 y0_3 = (impl_toEnd.l2 k x1 y1 y2 x9 y3 x42 x43 x44 y0_0 y0_1 y0_2 y0_3).map (impl_toEnd.en))
  | 0 => ⟨fun _ _ _ _ _ _ _ _ _ => by simp only [impl_toEnd.l0, R.map_none]; rfl, fun _ _ _ _ _ _ _ _ => by simp only [impl_toEnd.l1, R.map_none]; rfl, fun _ _ _ _ _ _ _ _ _ _ _ _ => by simp only [impl_toEnd.l2, R.map_none]; rfl⟩
  | k + 1 => by
    obtain ⟨ih0, ih1, ih2⟩ := impl_toEnd.link k
    refine ⟨?_, ?_, ?_⟩
    · intro x1 y1 x18 x19 x20 y0_0 y0_1 y0_2 y0_3
      rw [impl_toEnd.e0]
      simp only [impl_toEnd.l0, R.map_ite, R.map_bind, R.map_none, R.map_some, ← ih0, ← ih1, ← ih2]
    · intro x1 y1 y2 x9 y0_0 y0_1 y0_2 y0_3
      rw [impl_toEnd.e1]
      simp only [impl_toEnd.l1, R.map_ite, R.map_bind, R.map_none, R.map_some, ← ih0, ← ih1, ← ih2]
    · intro x1 y1 y2 x9 y3 x42 x43 x44 y0_0 y0_1 y0_2 y0_3
      rw [impl_toEnd.e2]
      simp only [impl_toEnd.l2, R.map_ite, R.map_bind, R.map_none, R.map_some, ← ih0, ← ih1, ← ih2]
theorem impl_toEnd.sf (k : Nat) (a0_0 : Int) (l0_1 : List Int) (l0_2 : List Int) (l0_3 : List Stp) (a1 : ByteArray) : R.start Try.prog xhn impl_toEnd.O 0 Try.f82 impl_toEnd.fh k [.agg [.int .i64 a0_0, .imm (.I .i64 l0_1), .imm (.I .i64 l0_2), .imm (.T l0_3)], .str a1] [] = (impl_toEnd.f k a0_0 l0_1 l0_2 l0_3 a1).map (impl_toEnd.en) := by
  obtain ⟨ih0, ih1, ih2⟩ := impl_toEnd.link k
  rw [impl_toEnd.ef]
  simp only [impl_toEnd.f, R.map_ite, R.map_bind, R.map_none, R.map_some, ← ih0, ← ih1, ← ih2]
theorem impl_toEnd.ok (k : Nat) : impl_toEnd.tw.Ok Try.prog k := by
  intro a r h
  refine fn_ok (H := xhn) (fh := impl_toEnd.fh) (O := impl_toEnd.O) (k := k) Try.func82 (by kernel_rfl) (by kernel_rfl) (fun j _ => (Tw.orc_sound slices_Repeat_int_int.dok (slices_Repeat_int_int.ok j) noO_sound)) (by kernel_rfl) (m := 0) rfl ?_
  refine (impl_toEnd.sf k a.1 a.2.1 a.2.2.1 a.2.2.2.1 a.2.2.2.2).trans ?_
  exact congrArg (Option.map _) h
def impl_CostOf.l0 : Nat → ByteArray → (List (List Int)) → Int → (List Int) → Int → Int → Option (Int)
  | 0, _, _, _, _, _, _ => none
  | k + 1, x1, y0, x6, x21, x22, x23 => (if x23 < x22 then (if 0 ≤ x23 then (if x23 < (x21.length : Int) then (if 0 ≤ (x1.size : Int) then (if (x1.size : Int) < (y0.length : Int) then (if 0 ≤ (rdI x21 x23) then (if (rdI x21 x23) < ((rdL y0 (x1.size : Int)).length : Int) then (impl_CostOf.l0 k x1 y0 (mn x6 (rdI (rdL y0 (x1.size : Int)) (rdI x21 x23))) x21 x22 (wrap64 (x23 + 1))) else none) else none) else none) else none) else none) else none) else (some x6))
def impl_CostOf.f (k : Nat) (a0_0 : Int) (l0_1 : List Int) (l0_2 : List Int) (l0_3 : List Stp) (a1 : ByteArray) : Option (Int) := ((impl_AutomatonValid.f k a0_0 l0_1 l0_2 l0_3).bind fun t1 => (if t1 = true then ((impl_WordValid.f k a1).bind fun t2 => (if t2 = true then ((impl_toEnd.f k a0_0 l0_1 l0_2 l0_3 a1).bind fun t3 => (impl_CostOf.l0 k a1 t3 1000000 l0_1 (l0_1.length : Int) 0)) else (some (-1)))) else (some (-1))))
def impl_CostOf.en (r : Int) : Res := (.int .i64 r, [])
def impl_CostOf.dec : List AV → List R.Obj → Option (Int × (List Int) × (List Int) × (List Stp) × ByteArray)
  | [.agg [.int .i64 a0_0, .imm (.I .i64 l0_1), .imm (.I .i64 l0_2), .imm (.T l0_3)], .str a1], [] => some (a0_0, l0_1, l0_2, l0_3, a1)
  | _, _ => none
def impl_CostOf.tw : Tw := ⟨31, Int × (List Int) × (List Int) × (List Stp) × ByteArray, Int, impl_CostOf.dec, fun a => [.agg [.int .i64 a.1, .imm (.I .i64 a.2.1), .imm (.I .i64 a.2.2.1), .imm (.T a.2.2.2.1)], .str a.2.2.2.2], fun a => [], fun k a => impl_CostOf.f k a.1 a.2.1 a.2.2.1 a.2.2.2.1 a.2.2.2.2, fun a r => impl_CostOf.en r⟩
theorem impl_CostOf.dok : impl_CostOf.tw.DecOk := by
  intro args hc a h
  have h : impl_CostOf.dec args hc = some a := h
  unfold impl_CostOf.dec at h
  split at h
  · cases h; exact ⟨rfl, rfl⟩
  · cases h
noncomputable def impl_CostOf.O (k : Nat) : Oracle := (impl_AutomatonValid.tw.orc k (impl_WordValid.tw.orc k (impl_toEnd.tw.orc k noO)))
def impl_CostOf.fh : FH := ⟨fun i => match i with | 6 => some [(1, 0), (5, 0), (6, 0), (21, 0), (22, 0), (23, 0)] | _ => none, [], false⟩
noncomputable def impl_CostOf.x0 (k : Nat) (x1 : ByteArray) (y0 : List (List Int)) (x6 : Int) (x21 : List Int) (x22 : Int) (x23 : Int) : Option Res := R.exec Try.prog xhn impl_CostOf.O 0 Try.f31 impl_CostOf.fh k (R.point Try.f31 6) ⟨[(1, .str x1), (5, .sl 0 0), (6, .int .i64 x6), (21, .imm (.I .i64 x21)), (22, .int .i64 x22), (23, .int .i64 x23)], [(0, .arr 22 0 (.L y0) false)], 3⟩
set_option maxRecDepth 100000 in
theorem impl_CostOf.e0 (k : Nat) (x1 : ByteArray) (y0 : List (List Int)) (x6 : Int) (x21 : List Int) (x22 : Int) (x23 : Int) : impl_CostOf.x0 (k + 1) x1 y0 x6 x21 x22 x23 = (if x23 < x22 then (if 0 ≤ x23 then (if x23 < (x21.length : Int) then (if 0 ≤ (x1.size : Int) then (if (x1.size : Int) < (y0.length : Int) then (if 0 ≤ (rdI x21 x23) then (if (rdI x21 x23) < ((rdL y0 (x1.size : Int)).length : Int) then (impl_CostOf.x0 k x1 y0 (mn x6 (rdI (rdL y0 (x1.size : Int)) (rdI x21 x23))) x21 x22 (wrap64 (x23 + 1))) else none) else none) else none) else none) else none) else none) else (some (impl_CostOf.en x6))) := by kernel_rfl
set_option maxRecDepth 100000 in
theorem impl_CostOf.ef (k : Nat) (a0_0 : Int) (l0_1 : List Int) (l0_2 : List Int) (l0_3 : List Stp) (a1 : ByteArray) : R.start Try.prog xhn impl_CostOf.O 0 Try.f31 impl_CostOf.fh k [.agg [.int .i64 a0_0, .imm (.I .i64 l0_1), .imm (.I .i64 l0_2), .imm (.T l0_3)], .str a1] [] = ((impl_AutomatonValid.f k a0_0 l0_1 l0_2 l0_3).bind fun t1 => (if t1 = true then ((impl_WordValid.f k a1).bind fun t2 => (if t2 = true then ((impl_toEnd.f k a0_0 l0_1 l0_2 l0_3 a1).bind fun t3 => (impl_CostOf.x0 k a1 t3 1000000 l0_1 (l0_1.length : Int) 0)) else (some (impl_CostOf.en (-1))))) else (some (impl_CostOf.en (-1))))) := by kernel_rfl
theorem impl_CostOf.link : ∀ k, (∀ (x1 : ByteArray) (y0 : List (List Int)) (x6 : Int) (x21 : List Int) (x22 : Int) (x23 : Int), impl_CostOf.x0 k x1 y0 x6 x21 x22 x23 = (impl_CostOf.l0 k x1 y0 x6 x21 x22 x23).map (impl_CostOf.en))
  | 0 => fun _ _ _ _ _ _ => by simp only [impl_CostOf.l0, R.map_none]; rfl
  | k + 1 => by
    have ih0 := impl_CostOf.link k
    · intro x1 y0 x6 x21 x22 x23
      rw [impl_CostOf.e0]
      simp only [impl_CostOf.l0, R.map_ite, R.map_bind, R.map_none, R.map_some, ← ih0]
theorem impl_CostOf.sf (k : Nat) (a0_0 : Int) (l0_1 : List Int) (l0_2 : List Int) (l0_3 : List Stp) (a1 : ByteArray) : R.start Try.prog xhn impl_CostOf.O 0 Try.f31 impl_CostOf.fh k [.agg [.int .i64 a0_0, .imm (.I .i64 l0_1), .imm (.I .i64 l0_2), .imm (.T l0_3)], .str a1] [] = (impl_CostOf.f k a0_0 l0_1 l0_2 l0_3 a1).map (impl_CostOf.en) := by
  have ih0 := impl_CostOf.link k
  rw [impl_CostOf.ef]
  simp only [impl_CostOf.f, R.map_ite, R.map_bind, R.map_none, R.map_some, ← ih0]
theorem impl_CostOf.ok (k : Nat) : impl_CostOf.tw.Ok Try.prog k := by
  intro a r h
  refine fn_ok (H := xhn) (fh := impl_CostOf.fh) (O := impl_CostOf.O) (k := k) Try.func31 (by kernel_rfl) (by kernel_rfl) (fun j _ => (Tw.orc_sound impl_AutomatonValid.dok (impl_AutomatonValid.ok j) (Tw.orc_sound impl_WordValid.dok (impl_WordValid.ok j) (Tw.orc_sound impl_toEnd.dok (impl_toEnd.ok j) noO_sound)))) (by kernel_rfl) (m := 0) rfl ?_
  refine (impl_CostOf.sf k a.1 a.2.1 a.2.2.1 a.2.2.2.1 a.2.2.2.2).trans ?_
  exact congrArg (Option.map _) h
mutual
def impl_GradeBetween.l0 : Nat → Int → (List Int) → Int → Int → Int → (List Int) → (List Int) → (List Stp) → Int → (List Int) → Option (Int)
  | 0, _, _, _, _, _, _, _, _, _, _ => none
  | k + 1, x5, x26, x27, x28, y0_0, y0_1, y0_2, y0_3, y1_0, y1_1 => (if x28 < x27 then (if 0 ≤ x28 then (if x28 < (x26.length : Int) then (impl_GradeBetween.l1 k x5 (rdI x26 x28) x26 x27 x28 y0_2 (y0_2.length : Int) 0 y0_0 y0_1 y0_2 y0_3 y1_0 y1_1) else none) else none) else (some x5))
def impl_GradeBetween.l1 : Nat → Int → Int → (List Int) → Int → Int → (List Int) → Int → Int → Int → (List Int) → (List Int) → (List Stp) → Int → (List Int) → Option (Int)
  | 0, _, _, _, _, _, _, _, _, _, _, _, _, _, _ => none
  | k + 1, x5, x7, x26, x27, x28, x33, x34, x35, y0_0, y0_1, y0_2, y0_3, y1_0, y1_1 => (if x35 < x34 then (if 0 ≤ x35 then (if x35 < (x33.length : Int) then ((impl_Matrix_at.f y1_0 y1_1 x7 (rdI x33 x35)).bind fun t3 => (impl_GradeBetween.l1 k (mn x5 t3) x7 x26 x27 x28 x33 x34 (wrap64 (x35 + 1)) y0_0 y0_1 y0_2 y0_3 y1_0 y1_1)) else none) else none) else (impl_GradeBetween.l0 k x5 x26 x27 (wrap64 (x28 + 1)) y0_0 y0_1 y0_2 y0_3 y1_0 y1_1))
end
def impl_GradeBetween.f (k : Nat) (a0_0 : Int) (l0_1 : List Int) (l0_2 : List Int) (l0_3 : List Stp) (a1_0 : Int) (l1_1 : List Int) : Option (Int) := ((impl_AutomatonValid.f k a0_0 l0_1 l0_2 l0_3).bind fun t1 => (if t1 = true then ((impl_GradesValid.f k a1_0 l1_1).bind fun t2 => (if t2 = true then (if a1_0 = a0_0 then (impl_GradeBetween.l0 k 3 l0_1 (l0_1.length : Int) 0 a0_0 l0_1 l0_2 l0_3 a1_0 l1_1) else (some (-1))) else (some (-1)))) else (some (-1))))
def impl_GradeBetween.en (r : Int) : Res := (.int .i64 r, [])
def impl_GradeBetween.dec : List AV → List R.Obj → Option (Int × (List Int) × (List Int) × (List Stp) × Int × (List Int))
  | [.agg [.int .i64 a0_0, .imm (.I .i64 l0_1), .imm (.I .i64 l0_2), .imm (.T l0_3)], .agg [.int .i64 a1_0, .imm (.I .i64 l1_1)]], [] => some (a0_0, l0_1, l0_2, l0_3, a1_0, l1_1)
  | _, _ => none
def impl_GradeBetween.tw : Tw := ⟨45, Int × (List Int) × (List Int) × (List Stp) × Int × (List Int), Int, impl_GradeBetween.dec, fun a => [.agg [.int .i64 a.1, .imm (.I .i64 a.2.1), .imm (.I .i64 a.2.2.1), .imm (.T a.2.2.2.1)], .agg [.int .i64 a.2.2.2.2.1, .imm (.I .i64 a.2.2.2.2.2)]], fun a => [], fun k a => impl_GradeBetween.f k a.1 a.2.1 a.2.2.1 a.2.2.2.1 a.2.2.2.2.1 a.2.2.2.2.2, fun a r => impl_GradeBetween.en r⟩
theorem impl_GradeBetween.dok : impl_GradeBetween.tw.DecOk := by
  intro args hc a h
  have h : impl_GradeBetween.dec args hc = some a := h
  unfold impl_GradeBetween.dec at h
  split at h
  · cases h; exact ⟨rfl, rfl⟩
  · cases h
noncomputable def impl_GradeBetween.O (k : Nat) : Oracle := (impl_AutomatonValid.tw.orc k (impl_GradesValid.tw.orc k (impl_Matrix_at.tw.orc k noO)))
def impl_GradeBetween.fh : FH := ⟨fun i => match i with | 5 => some [(2, 0), (3, 0), (5, 0), (26, 0), (27, 0), (28, 0)] | 8 => some [(2, 0), (3, 0), (5, 0), (7, 0), (26, 0), (27, 0), (28, 0), (33, 0), (34, 0), (35, 0)] | _ => none, [], false⟩
noncomputable def impl_GradeBetween.x0 (k : Nat) (x5 : Int) (x26 : List Int) (x27 : Int) (x28 : Int) (y0_0 : Int) (y0_1 : List Int) (y0_2 : List Int) (y0_3 : List Stp) (y1_0 : Int) (y1_1 : List Int) : Option Res := R.exec Try.prog xhn impl_GradeBetween.O 0 Try.f45 impl_GradeBetween.fh k (R.point Try.f45 5) ⟨[(2, .ptr 0 0), (3, .ptr 1 0), (5, .int .i64 x5), (26, .imm (.I .i64 x26)), (27, .int .i64 x27), (28, .int .i64 x28)], [(0, .box false [.int .i64 y0_0, .imm (.I .i64 y0_1), .imm (.I .i64 y0_2), .imm (.T y0_3)]), (1, .box false [.int .i64 y1_0, .imm (.I .i64 y1_1)])], 4⟩
noncomputable def impl_GradeBetween.x1 (k : Nat) (x5 : Int) (x7 : Int) (x26 : List Int) (x27 : Int) (x28 : Int) (x33 : List Int) (x34 : Int) (x35 : Int) (y0_0 : Int) (y0_1 : List Int) (y0_2 : List Int) (y0_3 : List Stp) (y1_0 : Int) (y1_1 : List Int) : Option Res := R.exec Try.prog xhn impl_GradeBetween.O 0 Try.f45 impl_GradeBetween.fh k (R.point Try.f45 8) ⟨[(2, .ptr 0 0), (3, .ptr 1 0), (5, .int .i64 x5), (7, .int .i64 x7), (26, .imm (.I .i64 x26)), (27, .int .i64 x27), (28, .int .i64 x28), (33, .imm (.I .i64 x33)), (34, .int .i64 x34), (35, .int .i64 x35)], [(0, .box false [.int .i64 y0_0, .imm (.I .i64 y0_1), .imm (.I .i64 y0_2), .imm (.T y0_3)]), (1, .box false [.int .i64 y1_0, .imm (.I .i64 y1_1)])], 4⟩
set_option maxRecDepth 100000 in
theorem impl_GradeBetween.e0 (k : Nat) (x5 : Int) (x26 : List Int) (x27 : Int) (x28 : Int) (y0_0 : Int) (y0_1 : List Int) (y0_2 : List Int) (y0_3 : List Stp) (y1_0 : Int) (y1_1 : List Int) : impl_GradeBetween.x0 (k + 1) x5 x26 x27 x28 y0_0 y0_1 y0_2 y0_3 y1_0 y1_1 = (if x28 < x27 then (if 0 ≤ x28 then (if x28 < (x26.length : Int) then (impl_GradeBetween.x1 k x5 (rdI x26 x28) x26 x27 x28 y0_2 (y0_2.length : Int) 0 y0_0 y0_1 y0_2 y0_3 y1_0 y1_1) else none) else none) else (some (impl_GradeBetween.en x5))) := by kernel_rfl
set_option maxRecDepth 100000 in
theorem impl_GradeBetween.e1 (k : Nat) (x5 : Int) (x7 : Int) (x26 : List Int) (x27 : Int) (x28 : Int) (x33 : List Int) (x34 : Int) (x35 : Int) (y0_0 : Int) (y0_1 : List Int) (y0_2 : List Int) (y0_3 : List Stp) (y1_0 : Int) (y1_1 : List Int) : impl_GradeBetween.x1 (k + 1) x5 x7 x26 x27 x28 x33 x34 x35 y0_0 y0_1 y0_2 y0_3 y1_0 y1_1 = (if x35 < x34 then (if 0 ≤ x35 then (if x35 < (x33.length : Int) then ((impl_Matrix_at.f y1_0 y1_1 x7 (rdI x33 x35)).bind fun t3 => (impl_GradeBetween.x1 k (mn x5 t3) x7 x26 x27 x28 x33 x34 (wrap64 (x35 + 1)) y0_0 y0_1 y0_2 y0_3 y1_0 y1_1)) else none) else none) else (impl_GradeBetween.x0 k x5 x26 x27 (wrap64 (x28 + 1)) y0_0 y0_1 y0_2 y0_3 y1_0 y1_1)) := by kernel_rfl
set_option maxRecDepth 100000 in
theorem impl_GradeBetween.ef (k : Nat) (a0_0 : Int) (l0_1 : List Int) (l0_2 : List Int) (l0_3 : List Stp) (a1_0 : Int) (l1_1 : List Int) : R.start Try.prog xhn impl_GradeBetween.O 0 Try.f45 impl_GradeBetween.fh k [.agg [.int .i64 a0_0, .imm (.I .i64 l0_1), .imm (.I .i64 l0_2), .imm (.T l0_3)], .agg [.int .i64 a1_0, .imm (.I .i64 l1_1)]] [] = ((impl_AutomatonValid.f k a0_0 l0_1 l0_2 l0_3).bind fun t1 => (if t1 = true then ((impl_GradesValid.f k a1_0 l1_1).bind fun t2 => (if t2 = true then (if a1_0 = a0_0 then (impl_GradeBetween.x0 k 3 l0_1 (l0_1.length : Int) 0 a0_0 l0_1 l0_2 l0_3 a1_0 l1_1) else (some (impl_GradeBetween.en (-1)))) else (some (impl_GradeBetween.en (-1))))) else (some (impl_GradeBetween.en (-1))))) := by kernel_rfl
theorem impl_GradeBetween.link : ∀ k, (∀ (x5 : Int) (x26 : List Int) (x27 : Int) (x28 : Int) (y0_0 : Int) (y0_1 : List Int) (y0_2 : List Int) (y0_3 : List Stp) (y1_0 : Int) (y1_1 : List Int), impl_GradeBetween.x0 k x5 x26 x27 x28 y0_0 y0_1 y0_2 y0_3 y1_0 y1_1 = (impl_GradeBetween.l0 k x5 x26 x27 x28 y0_0 y0_1 y0_2 y0_3 y1_0 y1_1).map (impl_GradeBetween.en)) ∧ (∀ (x5 : Int) (x7 : Int) (x26 : List Int) (x27 : Int) (x28 : Int) (x33 : List Int) (x34 : Int) (x35 : Int) (y0_0 : Int) (y0_1 : List Int) (y0_2 : List Int) (y0_3 : List Stp) (y1_0 : Int) (y1_1 : List Int), impl_GradeBetween.x1 k x5 x7 x26 x27 x28 x33 x34 x35 y0_0 y0_1 y0_2 y0_3 y1_0 y1_1 = (impl_GradeBetween.l1 k x5 x7 x26 x27 x28 x33 x34 x35 y0_0 y0_1 y0_2 y0_3 y1_0 y1_1).map (impl_GradeBetween.en))
  | 0 => ⟨fun _ _ _ _ _ _ _ _ _ _ => by simp only [impl_GradeBetween.l0, R.map_none]; rfl, fun _ _ _ _ _ _ _ _ _ _ _ _ _ _ => by simp only [impl_GradeBetween.l1, R.map_none]; rfl⟩
  | k + 1 => by
    obtain ⟨ih0, ih1⟩ := impl_GradeBetween.link k
    refine ⟨?_, ?_⟩
    · intro x5 x26 x27 x28 y0_0 y0_1 y0_2 y0_3 y1_0 y1_1
      rw [impl_GradeBetween.e0]
      simp only [impl_GradeBetween.l0, R.map_ite, R.map_bind, R.map_none, R.map_some, ← ih0, ← ih1]
    · intro x5 x7 x26 x27 x28 x33 x34 x35 y0_0 y0_1 y0_2 y0_3 y1_0 y1_1
      rw [impl_GradeBetween.e1]
      simp only [impl_GradeBetween.l1, R.map_ite, R.map_bind, R.map_none, R.map_some, ← ih0, ← ih1]
theorem impl_GradeBetween.sf (k : Nat) (a0_0 : Int) (l0_1 : List Int) (l0_2 : List Int) (l0_3 : List Stp) (a1_0 : Int) (l1_1 : List Int) : R.start Try.prog xhn impl_GradeBetween.O 0 Try.f45 impl_GradeBetween.fh k [.agg [.int .i64 a0_0, .imm (.I .i64 l0_1), .imm (.I .i64 l0_2), .imm (.T l0_3)], .agg [.int .i64 a1_0, .imm (.I .i64 l1_1)]] [] = (impl_GradeBetween.f k a0_0 l0_1 l0_2 l0_3 a1_0 l1_1).map (impl_GradeBetween.en) := by
  obtain ⟨ih0, ih1⟩ := impl_GradeBetween.link k
  rw [impl_GradeBetween.ef]
  simp only [impl_GradeBetween.f, R.map_ite, R.map_bind, R.map_none, R.map_some, ← ih0, ← ih1]
theorem impl_GradeBetween.ok (k : Nat) : impl_GradeBetween.tw.Ok Try.prog k := by
  intro a r h
  refine fn_ok (H := xhn) (fh := impl_GradeBetween.fh) (O := impl_GradeBetween.O) (k := k) Try.func45 (by kernel_rfl) (by kernel_rfl) (fun j _ => (Tw.orc_sound impl_AutomatonValid.dok (impl_AutomatonValid.ok j) (Tw.orc_sound impl_GradesValid.dok (impl_GradesValid.ok j) (Tw.orc_sound impl_Matrix_at.dok (impl_Matrix_at.ok j) noO_sound)))) (by kernel_rfl) (m := 0) rfl ?_
  refine (impl_GradeBetween.sf k a.1 a.2.1 a.2.2.1 a.2.2.2.1 a.2.2.2.2.1 a.2.2.2.2.2).trans ?_
  exact congrArg (Option.map _) h
def laws_FnGradesOf.l0 : Nat → ByteArray → Bool → Int → Int → Int → (List Int) → (List Int) → (List Stp) → Int → (List Int) → Int → (List Int) → Option (Bool)
  | 0, _, _, _, _, _, _, _, _, _, _, _, _ => none
  | k + 1, x4, x10, x80, x81, y0_0, y0_1, y0_2, y0_3, y1_0, y3, y2_0, y4 => (if x81 < x80 then (if 0 ≤ x81 then (if x81 ≤ (wrap64 (x81 + 1)) then (if (wrap64 (x81 + 1)) ≤ (x4.size : Int) then ((impl_StepMatrix.f k y0_0 y0_1 y0_2 y0_3 (x4.extract x81.toNat (wrap64 (x81 + 1)).toNat)).bind fun t11 => ((impl_GradesOf.f k t11.1 t11.2.1).bind fun t12 => ((impl_MulGrades.f k y2_0 y4 t12.1 t12.2.1).bind fun t13 => (laws_FnGradesOf.l0 k x4 x10 x80 (wrap64 (x81 + 1)) y0_0 y0_1 y0_2 y0_3 y1_0 y3 t13.1 t13.2.1)))) else none) else none) else none) else ((impl_CostOf.f k y0_0 y0_1 y0_2 y0_3 x4).bind fun t14 => ((impl_GradeBetween.f k y0_0 y0_1 y0_2 y0_3 y1_0 y3).bind fun t15 => (if x10 = true then ((laws_daMatrix.f k y2_0 y4 y1_0 y3).bind fun t16 => (if t16 = true then ((impl_GradesValid.f k y1_0 y3).bind fun t17 => (if t17 = true then (if ((decide (t15 = 0)) == (decide (t14 = 0))) = true then (some ((decide (t15 = 3)) == (decide (t14 = 1000000)))) else (some false)) else (some false))) else (some false))) else (some false)))))
def laws_FnGradesOf.f (k : Nat) (l0 : List Int) : Option (Bool) := (if (l0.length : Int) > 1048576 then (some true) else ((spec_DrawWordMatrix.f k l0).bind fun t1 => ((impl_WordMatrix.f k t1.1 t1.2.1 t1.2.2.1 t1.2.2.2.1 t1.2.2.2.2).bind fun t2 => ((spec_WordMatrix.f k t1.1 t1.2.1 t1.2.2.1 t1.2.2.2.1 t1.2.2.2.2).bind fun t3 => ((laws_daMatrix.f k t2.1 t2.2.1 t3.1 t3.2.1).bind fun t4 => (if t4 = true then (if (t2.2.2 != t3.2.2) = true then ((laws_daMatrix.f k t2.1 t2.2.1 t3.1 t3.2.1).bind fun t5 => (if t5 = true then (some (t2.2.2 == t3.2.2)) else (some false))) else (if t2.2.2 = true then ((impl_GradesOf.f k t2.1 t2.2.1).bind fun t6 => ((impl_UnitMatrix.f k t1.1).bind fun t7 => ((impl_GradesOf.f k t7.1 t7.2.1).bind fun t8 => (laws_FnGradesOf.l0 k t1.2.2.2.2 t6.2.2 (t1.2.2.2.2.size : Int) 0 t1.1 t1.2.1 t1.2.2.1 t1.2.2.2.1 t6.1 t6.2.1 t8.1 t8.2.1)))) else ((laws_daMatrix.f k t2.1 t2.2.1 t3.1 t3.2.1).bind fun t9 => (if t9 = true then (some (t2.2.2 == t3.2.2)) else (some false))))) else ((laws_daMatrix.f k t2.1 t2.2.1 t3.1 t3.2.1).bind fun t10 => (if t10 = true then (some (t2.2.2 == t3.2.2)) else (some false)))))))))
def laws_FnGradesOf.en (r : Bool) : Res := (.lit r, [])
def laws_FnGradesOf.dec : List AV → List R.Obj → Option (List Int)
  | [.imm (.I .u8 l0)], [] => some l0
  | _, _ => none
def laws_FnGradesOf.tw : Tw := ⟨7, List Int, Bool, laws_FnGradesOf.dec, fun a => [.imm (.I .u8 a)], fun a => [], fun k a => laws_FnGradesOf.f k a, fun a r => laws_FnGradesOf.en r⟩
theorem laws_FnGradesOf.dok : laws_FnGradesOf.tw.DecOk := by
  intro args hc a h
  have h : laws_FnGradesOf.dec args hc = some a := h
  unfold laws_FnGradesOf.dec at h
  split at h
  · cases h; exact ⟨rfl, rfl⟩
  · cases h
noncomputable def laws_FnGradesOf.O (k : Nat) : Oracle := (spec_DrawWordMatrix.tw.orc k (impl_WordMatrix.tw.orc k (spec_WordMatrix.tw.orc k (laws_daMatrix.tw.orc k (impl_GradesOf.tw.orc k (impl_UnitMatrix.tw.orc k (impl_StepMatrix.tw.orc k (impl_MulGrades.tw.orc k (impl_CostOf.tw.orc k (impl_GradeBetween.tw.orc k (impl_GradesValid.tw.orc k noO)))))))))))
def laws_FnGradesOf.fh : FH := ⟨fun i => match i with | 12 => some [(3, 0), (4, 0), (9, 0), (10, 0), (13, 0), (80, 0), (81, 0)] | _ => none, [], false⟩
noncomputable def laws_FnGradesOf.x0 (k : Nat) (x4 : ByteArray) (x10 : Bool) (x80 : Int) (x81 : Int) (y0_0 : Int) (y0_1 : List Int) (y0_2 : List Int) (y0_3 : List Stp) (y1_0 : Int) (y3 : List Int) (y2_0 : Int) (y4 : List Int) : Option Res := R.exec Try.prog xhn laws_FnGradesOf.O 0 Try.f7 laws_FnGradesOf.fh k (R.point Try.f7 12) ⟨[(3, .ptr 0 0), (4, .str x4), (9, .ptr 1 0), (10, .lit x10), (13, .ptr 2 0), (80, .int .i64 x80), (81, .int .i64 x81)], [(0, .box false [.int .i64 y0_0, .imm (.I .i64 y0_1), .imm (.I .i64 y0_2), .imm (.T y0_3)]), (1, .box false [.int .i64 y1_0, .sl 3 0]), (2, .box false [.int .i64 y2_0, .sl 4 0]), (3, .arr 3 0 (.I .i64 y3) false), (4, .arr 3 0 (.I .i64 y4) false)], 7⟩
set_option maxRecDepth 100000 in
theorem laws_FnGradesOf.e0 (k : Nat) (x4 : ByteArray) (x10 : Bool) (x80 : Int) (x81 : Int) (y0_0 : Int) (y0_1 : List Int) (y0_2 : List Int) (y0_3 : List Stp) (y1_0 : Int) (y3 : List Int) (y2_0 : Int) (y4 : List Int) : laws_FnGradesOf.x0 (k + 1) x4 x10 x80 x81 y0_0 y0_1 y0_2 y0_3 y1_0 y3 y2_0 y4 = (if x81 < x80 then (if 0 ≤ x81 then (if x81 ≤ (wrap64 (x81 + 1)) then (if (wrap64 (x81 + 1)) ≤ (x4.size : Int) then ((impl_StepMatrix.f k y0_0 y0_1 y0_2 y0_3 (x4.extract x81.toNat (wrap64 (x81 + 1)).toNat)).bind fun t11 => ((impl_GradesOf.f k t11.1 t11.2.1).bind fun t12 => ((impl_MulGrades.f k y2_0 y4 t12.1 t12.2.1).bind fun t13 => (laws_FnGradesOf.x0 k x4 x10 x80 (wrap64 (x81 + 1)) y0_0 y0_1 y0_2 y0_3 y1_0 y3 t13.1 t13.2.1)))) else none) else none) else none) else ((impl_CostOf.f k y0_0 y0_1 y0_2 y0_3 x4).bind fun t14 => ((impl_GradeBetween.f k y0_0 y0_1 y0_2 y0_3 y1_0 y3).bind fun t15 => (if x10 = true then ((laws_daMatrix.f k y2_0 y4 y1_0 y3).bind fun t16 => (if t16 = true then ((impl_GradesValid.f k y1_0 y3).bind fun t17 => (if t17 = true then (if ((decide (t15 = 0)) == (decide (t14 = 0))) = true then (some (laws_FnGradesOf.en ((decide (t15 = 3)) == (decide (t14 = 1000000))))) else (some (laws_FnGradesOf.en false))) else (some (laws_FnGradesOf.en false)))) else (some (laws_FnGradesOf.en false)))) else (some (laws_FnGradesOf.en false)))))) := by kernel_rfl
set_option maxRecDepth 100000 in
theorem laws_FnGradesOf.ef (k : Nat) (l0 : List Int) : R.start Try.prog xhn laws_FnGradesOf.O 0 Try.f7 laws_FnGradesOf.fh k [.imm (.I .u8 l0)] [] = (if (l0.length : Int) > 1048576 then (some (laws_FnGradesOf.en true)) else ((spec_DrawWordMatrix.f k l0).bind fun t1 => ((impl_WordMatrix.f k t1.1 t1.2.1 t1.2.2.1 t1.2.2.2.1 t1.2.2.2.2).bind fun t2 => ((spec_WordMatrix.f k t1.1 t1.2.1 t1.2.2.1 t1.2.2.2.1 t1.2.2.2.2).bind fun t3 => ((laws_daMatrix.f k t2.1 t2.2.1 t3.1 t3.2.1).bind fun t4 => (if t4 = true then (if (t2.2.2 != t3.2.2) = true then ((laws_daMatrix.f k t2.1 t2.2.1 t3.1 t3.2.1).bind fun t5 => (if t5 = true then (some (laws_FnGradesOf.en (t2.2.2 == t3.2.2))) else (some (laws_FnGradesOf.en false)))) else (if t2.2.2 = true then ((impl_GradesOf.f k t2.1 t2.2.1).bind fun t6 => ((impl_UnitMatrix.f k t1.1).bind fun t7 => ((impl_GradesOf.f k t7.1 t7.2.1).bind fun t8 => (laws_FnGradesOf.x0 k t1.2.2.2.2 t6.2.2 (t1.2.2.2.2.size : Int) 0 t1.1 t1.2.1 t1.2.2.1 t1.2.2.2.1 t6.1 t6.2.1 t8.1 t8.2.1)))) else ((laws_daMatrix.f k t2.1 t2.2.1 t3.1 t3.2.1).bind fun t9 => (if t9 = true then (some (laws_FnGradesOf.en (t2.2.2 == t3.2.2))) else (some (laws_FnGradesOf.en false)))))) else ((laws_daMatrix.f k t2.1 t2.2.1 t3.1 t3.2.1).bind fun t10 => (if t10 = true then (some (laws_FnGradesOf.en (t2.2.2 == t3.2.2))) else (some (laws_FnGradesOf.en false)))))))))) := by kernel_rfl
theorem laws_FnGradesOf.link : ∀ k, (∀ (x4 : ByteArray) (x10 : Bool) (x80 : Int) (x81 : Int) (y0_0 : Int) (y0_1 : List Int) (y0_2 : List Int) (y0_3 : List Stp) (y1_0 : Int) (y3 : List Int) (y2_0 : Int) (y4 : List Int), laws_FnGradesOf.x0 k x4 x10 x80 x81 y0_0 y0_1 y0_2 y0_3 y1_0 y3 y2_0 y4 = (laws_FnGradesOf.l0 k x4 x10 x80 x81 y0_0 y0_1 y0_2 y0_3 y1_0 y3 y2_0 y4).map (laws_FnGradesOf.en))
  | 0 => fun _ _ _ _ _ _ _ _ _ _ _ _ => by simp only [laws_FnGradesOf.l0, R.map_none]; rfl
  | k + 1 => by
    have ih0 := laws_FnGradesOf.link k
    · intro x4 x10 x80 x81 y0_0 y0_1 y0_2 y0_3 y1_0 y3 y2_0 y4
      rw [laws_FnGradesOf.e0]
      simp only [laws_FnGradesOf.l0, R.map_ite, R.map_bind, R.map_none, R.map_some, ← ih0]
theorem laws_FnGradesOf.sf (k : Nat) (l0 : List Int) : R.start Try.prog xhn laws_FnGradesOf.O 0 Try.f7 laws_FnGradesOf.fh k [.imm (.I .u8 l0)] [] = (laws_FnGradesOf.f k l0).map (laws_FnGradesOf.en) := by
  have ih0 := laws_FnGradesOf.link k
  rw [laws_FnGradesOf.ef]
  simp only [laws_FnGradesOf.f, R.map_ite, R.map_bind, R.map_none, R.map_some, ← ih0]
theorem laws_FnGradesOf.ok (k : Nat) : laws_FnGradesOf.tw.Ok Try.prog k := by
  intro a r h
  refine fn_ok (H := xhn) (fh := laws_FnGradesOf.fh) (O := laws_FnGradesOf.O) (k := k) Try.func7 (by kernel_rfl) (by kernel_rfl) (fun j _ => (Tw.orc_sound spec_DrawWordMatrix.dok (spec_DrawWordMatrix.ok j) (Tw.orc_sound impl_WordMatrix.dok (impl_WordMatrix.ok j) (Tw.orc_sound spec_WordMatrix.dok (spec_WordMatrix.ok j) (Tw.orc_sound laws_daMatrix.dok (laws_daMatrix.ok j) (Tw.orc_sound impl_GradesOf.dok (impl_GradesOf.ok j) (Tw.orc_sound impl_UnitMatrix.dok (impl_UnitMatrix.ok j) (Tw.orc_sound impl_StepMatrix.dok (impl_StepMatrix.ok j) (Tw.orc_sound impl_MulGrades.dok (impl_MulGrades.ok j) (Tw.orc_sound impl_CostOf.dok (impl_CostOf.ok j) (Tw.orc_sound impl_GradeBetween.dok (impl_GradeBetween.ok j) (Tw.orc_sound impl_GradesValid.dok (impl_GradesValid.ok j) noO_sound)))))))))))) (by kernel_rfl) (m := 0) rfl ?_
  refine (laws_FnGradesOf.sf k a).trans ?_
  exact congrArg (Option.map _) h
end Go.Proofs.Ytaaajdlgmllhaaa.V
end
