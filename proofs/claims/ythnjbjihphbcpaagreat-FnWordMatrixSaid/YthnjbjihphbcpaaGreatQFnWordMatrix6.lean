import Derived.Test.YthnjbjihphbcpaaGreatQFnWordMatrix5
import Derived.Test.YthnjbjihphbcpaaGreatQFnWordMatrix2
import Derived.Test.YthnjbjihphbcpaaGreatQFnWordMatrix4
import Derived.Test.YthnjbjihphbcpaaGreatProg
import Derived.WalkKit
import Derived.ProofKit
import Derived.Lib.Bytealg
section
set_option linter.unusedVariables false
set_option linter.unusedSimpArgs false
namespace Go.Proofs.YthnjbjihphbcpaaGreat.V
open Go Go.Proofs.YthnjbjihphbcpaaGreat.R Go.RowKit
def impl_StepMatrix.l0 : Nat → ByteArray → (List Stp) → Int → Int → Int → (List Int) → Option (Int × (List Int) × Bool)
  | 0, _, _, _, _, _, _ => none
  | k + 1, x1, x25, x26, x27, y1_0, y3 => (if x27 < x26 then (if 0 ≤ x27 then (if x27 < (x25.length : Int) then (if (rdT x25 x27).f1.toList = x1.toList then (if 0 ≤ (wrap64 ((wrap64 ((rdT x25 x27).f0 * y1_0)) + (rdT x25 x27).f2)) then (if (wrap64 ((wrap64 ((rdT x25 x27).f0 * y1_0)) + (rdT x25 x27).f2)) < (y3.length : Int) then (impl_StepMatrix.l0 k x1 x25 x26 (wrap64 (x27 + 1)) y1_0 (y3.set (wrap64 ((wrap64 ((rdT x25 x27).f0 * y1_0)) + (rdT x25 x27).f2)).toNat (rdT x25 x27).f3)) else none) else none) else (impl_StepMatrix.l0 k x1 x25 x26 (wrap64 (x27 + 1)) y1_0 y3)) else none) else none) else (some (y1_0, y3, true)))
def impl_StepMatrix.f (k : Nat) (a0_0 : Int) (l0_1 : List Int) (l0_2 : List Int) (l0_3 : List Stp) (a1 : ByteArray) : Option (Int × (List Int) × Bool) := ((impl_AutomatonValid.f k a0_0 l0_1 l0_2 l0_3).bind fun t1 => (if t1 = true then (if a1.toList = ([97] : List UInt8) then ((impl_filled_b.f k a0_0).bind fun t2 => (impl_StepMatrix.l0 k a1 l0_3 (l0_3.length : Int) 0 t2.1 t2.2)) else (if a1.toList = ([98] : List UInt8) then ((impl_filled_b.f k a0_0).bind fun t3 => (impl_StepMatrix.l0 k a1 l0_3 (l0_3.length : Int) 0 t3.1 t3.2)) else (some (0, ([] : List Int), false)))) else (some (0, ([] : List Int), false))))
def impl_StepMatrix.en (r : Int × (List Int) × Bool) : Res := (.tup [.agg [.int .i64 r.1, .sl 0 0], .lit r.2.2], [.arr 3 0 (.I .i64 r.2.1) false])
def impl_StepMatrix.dec : List AV → List R.Obj → Option (Int × (List Int) × (List Int) × (List Stp) × ByteArray)
  | [.agg [.int .i64 a0_0, .imm (.I .i64 l0_1), .imm (.I .i64 l0_2), .imm (.T l0_3)], .str a1], [] => some (a0_0, l0_1, l0_2, l0_3, a1)
  | _, _ => none
def impl_StepMatrix.tw : Tw := ⟨37, Int × (List Int) × (List Int) × (List Stp) × ByteArray, Int × (List Int) × Bool, impl_StepMatrix.dec, fun a => [.agg [.int .i64 a.1, .imm (.I .i64 a.2.1), .imm (.I .i64 a.2.2.1), .imm (.T a.2.2.2.1)], .str a.2.2.2.2], fun a => [], fun k a => impl_StepMatrix.f k a.1 a.2.1 a.2.2.1 a.2.2.2.1 a.2.2.2.2, fun a r => impl_StepMatrix.en r, true⟩
theorem impl_StepMatrix.dok : impl_StepMatrix.tw.DecOk := by
  intro args hc a h
  have h : impl_StepMatrix.dec args hc = some a := h
  unfold impl_StepMatrix.dec at h
  split at h
  · cases h; exact ⟨rfl, rfl⟩
  · cases h
noncomputable def impl_StepMatrix.O (k : Nat) : Oracle := (impl_AutomatonValid.tw.orc k (impl_filled_b.tw.orc k noO))
def impl_StepMatrix.fh : FH := ⟨fun i => match i with | 5 => some [(1, 0), (4, 0), (6, 0), (25, 0), (26, 0), (27, 0)] | _ => none, [(true, 3)], false⟩
noncomputable def impl_StepMatrix.x0 (k : Nat) (x1 : ByteArray) (x25 : List Stp) (x26 : Int) (x27 : Int) (y1_0 : Int) (y3 : List Int) : Option Res := R.exec Tryz.prog xhn impl_StepMatrix.O 0 Tryz.f37 impl_StepMatrix.fh k (R.point Tryz.f37 5) ⟨[(1, .str x1), (4, .ptr 0 0), (6, .ptr 1 0), (25, .imm (.T x25)), (26, .int .i64 x26), (27, .int .i64 x27)], [(0, .box false [.int .i64 0, .sl 2 0]), (1, .box false [.int .i64 y1_0, .sl 3 0]), (2, .arr 3 0 (.I .i64 ([] : List Int)) false), (3, .arr 3 0 (.I .i64 y3) false)], 6⟩
set_option maxRecDepth 100000 in
theorem impl_StepMatrix.e0 (k : Nat) (x1 : ByteArray) (x25 : List Stp) (x26 : Int) (x27 : Int) (y1_0 : Int) (y3 : List Int) : impl_StepMatrix.x0 (k + 1) x1 x25 x26 x27 y1_0 y3 = (if x27 < x26 then (if 0 ≤ x27 then (if x27 < (x25.length : Int) then (if (rdT x25 x27).f1.toList = x1.toList then (if 0 ≤ (wr64 ((wr64 ((rdT x25 x27).f0 * y1_0)) + (rdT x25 x27).f2)) then (if (wr64 ((wr64 ((rdT x25 x27).f0 * y1_0)) + (rdT x25 x27).f2)) < (y3.length : Int) then (impl_StepMatrix.x0 k x1 x25 x26 (wr64 (x27 + 1)) y1_0 (y3.set (wr64 ((wr64 ((rdT x25 x27).f0 * y1_0)) + (rdT x25 x27).f2)).toNat (rdT x25 x27).f3)) else none) else none) else (impl_StepMatrix.x0 k x1 x25 x26 (wr64 (x27 + 1)) y1_0 y3)) else none) else none) else (some (impl_StepMatrix.en (y1_0, y3, true)))) := by kernel_rfl
set_option maxRecDepth 100000 in
theorem impl_StepMatrix.ef (k : Nat) (a0_0 : Int) (l0_1 : List Int) (l0_2 : List Int) (l0_3 : List Stp) (a1 : ByteArray) : R.start Tryz.prog xhn impl_StepMatrix.O 0 Tryz.f37 impl_StepMatrix.fh k [.agg [.int .i64 a0_0, .imm (.I .i64 l0_1), .imm (.I .i64 l0_2), .imm (.T l0_3)], .str a1] [] = ((impl_AutomatonValid.f k a0_0 l0_1 l0_2 l0_3).bind fun t1 => (if t1 = true then (if a1.toList = ([97] : List UInt8) then ((impl_filled_b.f k a0_0).bind fun t2 => (impl_StepMatrix.x0 k a1 l0_3 (l0_3.length : Int) 0 t2.1 t2.2)) else (if a1.toList = ([98] : List UInt8) then ((impl_filled_b.f k a0_0).bind fun t3 => (impl_StepMatrix.x0 k a1 l0_3 (l0_3.length : Int) 0 t3.1 t3.2)) else (some (impl_StepMatrix.en (0, ([] : List Int), false))))) else (some (impl_StepMatrix.en (0, ([] : List Int), false))))) := by kernel_rfl
theorem impl_StepMatrix.link : ∀ k, (∀ (x1 : ByteArray) (x25 : List Stp) (x26 : Int) (x27 : Int) (y1_0 : Int) (y3 : List Int), impl_StepMatrix.x0 k x1 x25 x26 x27 y1_0 y3 = (impl_StepMatrix.l0 k x1 x25 x26 x27 y1_0 y3).map (impl_StepMatrix.en))
  | 0 => fun _ _ _ _ _ _ => by simp only [impl_StepMatrix.l0, R.map_none]; rfl
  | k + 1 => by
    have ih0 := impl_StepMatrix.link k
    · intro x1 x25 x26 x27 y1_0 y3
      rw [impl_StepMatrix.e0]
      simp only [impl_StepMatrix.l0, R.map_ite, R.map_bind, R.map_none, R.map_some, R.wr64_eq, ← ih0]
theorem impl_StepMatrix.sf (k : Nat) (a0_0 : Int) (l0_1 : List Int) (l0_2 : List Int) (l0_3 : List Stp) (a1 : ByteArray) : R.start Tryz.prog xhn impl_StepMatrix.O 0 Tryz.f37 impl_StepMatrix.fh k [.agg [.int .i64 a0_0, .imm (.I .i64 l0_1), .imm (.I .i64 l0_2), .imm (.T l0_3)], .str a1] [] = (impl_StepMatrix.f k a0_0 l0_1 l0_2 l0_3 a1).map (impl_StepMatrix.en) := by
  have ih0 := impl_StepMatrix.link k
  rw [impl_StepMatrix.ef]
  simp only [impl_StepMatrix.f, R.map_ite, R.map_bind, R.map_none, R.map_some, R.wr64_eq, ← ih0]
theorem impl_StepMatrix.ok (k : Nat) : impl_StepMatrix.tw.Ok Tryz.prog k := by
  intro md hmd a r h
  refine fn_ok (H := xhn) (fh := impl_StepMatrix.fh) (O := impl_StepMatrix.O) (k := k) Tryz.func37 (by kernel_rfl) (by kernel_rfl) (fun j _ => (Tw.orc_sound impl_AutomatonValid.dok (impl_AutomatonValid.ok j) (fun _ => rfl) (Tw.orc_sound impl_filled_b.dok (impl_filled_b.ok j) (fun _ => rfl) noO_sound))) (by kernel_rfl) (m := 0) rfl ?_
  refine (impl_StepMatrix.sf k a.1 a.2.1 a.2.2.1 a.2.2.2.1 a.2.2.2.2).trans ?_
  exact congrArg (Option.map _) h
def impl_CostValid.f (a0 : Int) : Option (Bool) := (if a0 ≥ 0 then (some (decide (a0 ≤ 1000000))) else (some false))
def impl_CostValid.en (r : Bool) : Res := (.lit r, [])
def impl_CostValid.dec : List AV → List R.Obj → Option (Int)
  | [.int .i64 a0], [] => some a0
  | _, _ => none
def impl_CostValid.tw : Tw := ⟨78, Int, Bool, impl_CostValid.dec, fun a => [.int .i64 a], fun a => [], fun k a => impl_CostValid.f a, fun a r => impl_CostValid.en r, true⟩
theorem impl_CostValid.dok : impl_CostValid.tw.DecOk := by
  intro args hc a h
  have h : impl_CostValid.dec args hc = some a := h
  unfold impl_CostValid.dec at h
  split at h
  · cases h; exact ⟨rfl, rfl⟩
  · cases h
noncomputable def impl_CostValid.O (k : Nat) : Oracle := noO
def impl_CostValid.fh : FH := ⟨fun i => match i with | _ => none, [], false⟩
set_option maxRecDepth 100000 in
theorem impl_CostValid.ef (k : Nat) (a0 : Int) : R.start Tryz.prog xhn impl_CostValid.O 0 Tryz.f78 impl_CostValid.fh k [.int .i64 a0] [] = (if a0 ≥ 0 then (some (impl_CostValid.en (decide (a0 ≤ 1000000)))) else (some (impl_CostValid.en false))) := by kernel_rfl
theorem impl_CostValid.sf (k : Nat) (a0 : Int) : R.start Tryz.prog xhn impl_CostValid.O 0 Tryz.f78 impl_CostValid.fh k [.int .i64 a0] [] = (impl_CostValid.f a0).map (impl_CostValid.en) := by
  rw [impl_CostValid.ef]
  simp only [impl_CostValid.f, R.map_ite, R.map_bind, R.map_none, R.map_some, R.wr64_eq]
theorem impl_CostValid.ok (k : Nat) : impl_CostValid.tw.Ok Tryz.prog k := by
  intro md hmd a r h
  refine fn_ok (H := xhn) (fh := impl_CostValid.fh) (O := impl_CostValid.O) (k := k) Tryz.func78 (by kernel_rfl) (by kernel_rfl) (fun j _ => noO_sound) (by kernel_rfl) (m := 0) rfl ?_
  refine (impl_CostValid.sf k a).trans ?_
  exact congrArg (Option.map _) h
def impl_MatrixValid_1.f (a0 : Int) : Option (Bool) := ((impl_CostValid.f a0).bind fun t1 => (some (!decide (t1 = true))))
def impl_MatrixValid_1.en (r : Bool) : Res := (.lit r, [])
def impl_MatrixValid_1.dec : List AV → List R.Obj → Option (Int)
  | [.int .i64 a0], [] => some a0
  | _, _ => none
def impl_MatrixValid_1.tw : Tw := ⟨99, Int, Bool, impl_MatrixValid_1.dec, fun a => [.int .i64 a], fun a => [], fun k a => impl_MatrixValid_1.f a, fun a r => impl_MatrixValid_1.en r, true⟩
theorem impl_MatrixValid_1.dok : impl_MatrixValid_1.tw.DecOk := by
  intro args hc a h
  have h : impl_MatrixValid_1.dec args hc = some a := h
  unfold impl_MatrixValid_1.dec at h
  split at h
  · cases h; exact ⟨rfl, rfl⟩
  · cases h
noncomputable def impl_MatrixValid_1.O (k : Nat) : Oracle := (impl_CostValid.tw.orc k noO)
def impl_MatrixValid_1.fh : FH := ⟨fun i => match i with | _ => none, [], false⟩
set_option maxRecDepth 100000 in
theorem impl_MatrixValid_1.ef (k : Nat) (a0 : Int) : R.start Tryz.prog xhn impl_MatrixValid_1.O 0 Tryz.f99 impl_MatrixValid_1.fh k [.int .i64 a0] [] = ((impl_CostValid.f a0).bind fun t1 => (some (impl_MatrixValid_1.en (!decide (t1 = true))))) := by kernel_rfl
theorem impl_MatrixValid_1.sf (k : Nat) (a0 : Int) : R.start Tryz.prog xhn impl_MatrixValid_1.O 0 Tryz.f99 impl_MatrixValid_1.fh k [.int .i64 a0] [] = (impl_MatrixValid_1.f a0).map (impl_MatrixValid_1.en) := by
  rw [impl_MatrixValid_1.ef]
  simp only [impl_MatrixValid_1.f, R.map_ite, R.map_bind, R.map_none, R.map_some, R.wr64_eq]
theorem impl_MatrixValid_1.ok (k : Nat) : impl_MatrixValid_1.tw.Ok Tryz.prog k := by
  intro md hmd a r h
  refine fn_ok (H := xhn) (fh := impl_MatrixValid_1.fh) (O := impl_MatrixValid_1.O) (k := k) Tryz.func99 (by kernel_rfl) (by kernel_rfl) (fun j _ => (Tw.orc_sound impl_CostValid.dok (impl_CostValid.ok j) (fun _ => rfl) noO_sound)) (by kernel_rfl) (m := 0) rfl ?_
  refine (impl_MatrixValid_1.sf k a).trans ?_
  exact congrArg (Option.map _) h
def slices_IndexFunc_int_int.l0 : Nat → (List Int) → Int → Int → Option (Int)
  | 0, _, _, _ => none
  | k + 1, x0, x7, x8 => (if x8 < x7 then (if 0 ≤ x8 then (if x8 < (x0.length : Int) then ((impl_MatrixValid_1.f (rdI x0 x8)).bind fun t1 => (if t1 = true then (some x8) else (slices_IndexFunc_int_int.l0 k x0 x7 (wrap64 (x8 + 1))))) else none) else none) else (some (-1)))
def slices_IndexFunc_int_int.f (k : Nat) (l0 : List Int) : Option (Int) := (slices_IndexFunc_int_int.l0 k l0 (l0.length : Int) 0)
def slices_IndexFunc_int_int.en (r : Int) : Res := (.int .i64 r, [])
def slices_IndexFunc_int_int.dec : List AV → List R.Obj → Option (List Int)
  | [.imm (.I .i64 l0), .clo 99 []], [] => some l0
  | _, _ => none
def slices_IndexFunc_int_int.tw : Tw := ⟨100, List Int, Int, slices_IndexFunc_int_int.dec, fun a => [.imm (.I .i64 a), .clo 99 []], fun a => [], fun k a => slices_IndexFunc_int_int.f k a, fun a r => slices_IndexFunc_int_int.en r, true⟩
theorem slices_IndexFunc_int_int.dok : slices_IndexFunc_int_int.tw.DecOk := by
  intro args hc a h
  have h : slices_IndexFunc_int_int.dec args hc = some a := h
  unfold slices_IndexFunc_int_int.dec at h
  split at h
  · cases h; exact ⟨rfl, rfl⟩
  · cases h
noncomputable def slices_IndexFunc_int_int.O (k : Nat) : Oracle := (impl_MatrixValid_1.tw.orc k noO)
def slices_IndexFunc_int_int.fh : FH := ⟨fun i => match i with | 2 => some [(0, 0), (1, 0), (7, 0), (8, 0)] | _ => none, [], false⟩
noncomputable def slices_IndexFunc_int_int.x0 (k : Nat) (x0 : List Int) (x7 : Int) (x8 : Int) : Option Res := R.exec Tryz.prog xhn slices_IndexFunc_int_int.O 0 Tryz.f100 slices_IndexFunc_int_int.fh k (R.point Tryz.f100 2) ⟨[(0, .imm (.I .i64 x0)), (1, .clo 99 []), (7, .int .i64 x7), (8, .int .i64 x8)], [], 2⟩
set_option maxRecDepth 100000 in
theorem slices_IndexFunc_int_int.e0 (k : Nat) (x0 : List Int) (x7 : Int) (x8 : Int) : slices_IndexFunc_int_int.x0 (k + 1) x0 x7 x8 = (if x8 < x7 then (if 0 ≤ x8 then (if x8 < (x0.length : Int) then ((impl_MatrixValid_1.f (rdI x0 x8)).bind fun t1 => (if t1 = true then (some (slices_IndexFunc_int_int.en x8)) else (slices_IndexFunc_int_int.x0 k x0 x7 (wr64 (x8 + 1))))) else none) else none) else (some (slices_IndexFunc_int_int.en (-1)))) := by kernel_rfl
set_option maxRecDepth 100000 in
theorem slices_IndexFunc_int_int.ef (k : Nat) (l0 : List Int) : R.start Tryz.prog xhn slices_IndexFunc_int_int.O 0 Tryz.f100 slices_IndexFunc_int_int.fh k [.imm (.I .i64 l0), .clo 99 []] [] = (slices_IndexFunc_int_int.x0 k l0 (l0.length : Int) 0) := by kernel_rfl
theorem slices_IndexFunc_int_int.link : ∀ k, (∀ (x0 : List Int) (x7 : Int) (x8 : Int), slices_IndexFunc_int_int.x0 k x0 x7 x8 = (slices_IndexFunc_int_int.l0 k x0 x7 x8).map (slices_IndexFunc_int_int.en))
  | 0 => fun _ _ _ => by simp only [slices_IndexFunc_int_int.l0, R.map_none]; rfl
  | k + 1 => by
    have ih0 := slices_IndexFunc_int_int.link k
    · intro x0 x7 x8
      rw [slices_IndexFunc_int_int.e0]
      simp only [slices_IndexFunc_int_int.l0, R.map_ite, R.map_bind, R.map_none, R.map_some, R.wr64_eq, ← ih0]
theorem slices_IndexFunc_int_int.sf (k : Nat) (l0 : List Int) : R.start Tryz.prog xhn slices_IndexFunc_int_int.O 0 Tryz.f100 slices_IndexFunc_int_int.fh k [.imm (.I .i64 l0), .clo 99 []] [] = (slices_IndexFunc_int_int.f k l0).map (slices_IndexFunc_int_int.en) := by
  have ih0 := slices_IndexFunc_int_int.link k
  rw [slices_IndexFunc_int_int.ef]
  simp only [slices_IndexFunc_int_int.f, R.map_ite, R.map_bind, R.map_none, R.map_some, R.wr64_eq, ← ih0]
theorem slices_IndexFunc_int_int.ok (k : Nat) : slices_IndexFunc_int_int.tw.Ok Tryz.prog k := by
  intro md hmd a r h
  refine fn_ok (H := xhn) (fh := slices_IndexFunc_int_int.fh) (O := slices_IndexFunc_int_int.O) (k := k) Tryz.func100 (by kernel_rfl) (by kernel_rfl) (fun j _ => (Tw.orc_sound impl_MatrixValid_1.dok (impl_MatrixValid_1.ok j) (fun _ => rfl) noO_sound)) (by kernel_rfl) (m := 0) rfl ?_
  refine (slices_IndexFunc_int_int.sf k a).trans ?_
  exact congrArg (Option.map _) h
def slices_ContainsFunc_int_int.f (k : Nat) (l0 : List Int) : Option (Bool) := ((slices_IndexFunc_int_int.f k l0).bind fun t1 => (some (decide (t1 ≥ 0))))
def slices_ContainsFunc_int_int.en (r : Bool) : Res := (.lit r, [])
def slices_ContainsFunc_int_int.dec : List AV → List R.Obj → Option (List Int)
  | [.imm (.I .i64 l0), .clo 99 []], [] => some l0
  | _, _ => none
def slices_ContainsFunc_int_int.tw : Tw := ⟨57, List Int, Bool, slices_ContainsFunc_int_int.dec, fun a => [.imm (.I .i64 a), .clo 99 []], fun a => [], fun k a => slices_ContainsFunc_int_int.f k a, fun a r => slices_ContainsFunc_int_int.en r, true⟩
theorem slices_ContainsFunc_int_int.dok : slices_ContainsFunc_int_int.tw.DecOk := by
  intro args hc a h
  have h : slices_ContainsFunc_int_int.dec args hc = some a := h
  unfold slices_ContainsFunc_int_int.dec at h
  split at h
  · cases h; exact ⟨rfl, rfl⟩
  · cases h
noncomputable def slices_ContainsFunc_int_int.O (k : Nat) : Oracle := (slices_IndexFunc_int_int.tw.orc k noO)
def slices_ContainsFunc_int_int.fh : FH := ⟨fun i => match i with | _ => none, [], false⟩
set_option maxRecDepth 100000 in
theorem slices_ContainsFunc_int_int.ef (k : Nat) (l0 : List Int) : R.start Tryz.prog xhn slices_ContainsFunc_int_int.O 0 Tryz.f57 slices_ContainsFunc_int_int.fh k [.imm (.I .i64 l0), .clo 99 []] [] = ((slices_IndexFunc_int_int.f k l0).bind fun t1 => (some (slices_ContainsFunc_int_int.en (decide (t1 ≥ 0))))) := by kernel_rfl
theorem slices_ContainsFunc_int_int.sf (k : Nat) (l0 : List Int) : R.start Tryz.prog xhn slices_ContainsFunc_int_int.O 0 Tryz.f57 slices_ContainsFunc_int_int.fh k [.imm (.I .i64 l0), .clo 99 []] [] = (slices_ContainsFunc_int_int.f k l0).map (slices_ContainsFunc_int_int.en) := by
  rw [slices_ContainsFunc_int_int.ef]
  simp only [slices_ContainsFunc_int_int.f, R.map_ite, R.map_bind, R.map_none, R.map_some, R.wr64_eq]
theorem slices_ContainsFunc_int_int.ok (k : Nat) : slices_ContainsFunc_int_int.tw.Ok Tryz.prog k := by
  intro md hmd a r h
  refine fn_ok (H := xhn) (fh := slices_ContainsFunc_int_int.fh) (O := slices_ContainsFunc_int_int.O) (k := k) Tryz.func57 (by kernel_rfl) (by kernel_rfl) (fun j _ => (Tw.orc_sound slices_IndexFunc_int_int.dok (slices_IndexFunc_int_int.ok j) (fun _ => rfl) noO_sound)) (by kernel_rfl) (m := 0) rfl ?_
  refine (slices_ContainsFunc_int_int.sf k a).trans ?_
  exact congrArg (Option.map _) h
def impl_MatrixValid.f (k : Nat) (a0_0 : Int) (l0_1 : List Int) : Option (Bool) := (if a0_0 < 1 then (some false) else (if a0_0 > 4 then (some false) else (if (l0_1.length : Int) = (wrap64 (a0_0 * a0_0)) then ((slices_ContainsFunc_int_int.f k l0_1).bind fun t1 => (some (!decide (t1 = true)))) else (some false))))
def impl_MatrixValid.en (r : Bool) : Res := (.lit r, [])
def impl_MatrixValid.dec : List AV → List R.Obj → Option (Int × (List Int))
  | [.agg [.int .i64 a0_0, .imm (.I .i64 l0_1)]], [] => some (a0_0, l0_1)
  | _, _ => none
def impl_MatrixValid.tw : Tw := ⟨56, Int × (List Int), Bool, impl_MatrixValid.dec, fun a => [.agg [.int .i64 a.1, .imm (.I .i64 a.2)]], fun a => [], fun k a => impl_MatrixValid.f k a.1 a.2, fun a r => impl_MatrixValid.en r, true⟩
theorem impl_MatrixValid.dok : impl_MatrixValid.tw.DecOk := by
  intro args hc a h
  have h : impl_MatrixValid.dec args hc = some a := h
  unfold impl_MatrixValid.dec at h
  split at h
  · cases h; exact ⟨rfl, rfl⟩
  · cases h
noncomputable def impl_MatrixValid.O (k : Nat) : Oracle := (slices_ContainsFunc_int_int.tw.orc k noO)
def impl_MatrixValid.fh : FH := ⟨fun i => match i with | _ => none, [], false⟩
set_option maxRecDepth 100000 in
theorem impl_MatrixValid.ef (k : Nat) (a0_0 : Int) (l0_1 : List Int) : R.start Tryz.prog xhn impl_MatrixValid.O 0 Tryz.f56 impl_MatrixValid.fh k [.agg [.int .i64 a0_0, .imm (.I .i64 l0_1)]] [] = (if a0_0 < 1 then (some (impl_MatrixValid.en false)) else (if a0_0 > 4 then (some (impl_MatrixValid.en false)) else (if (l0_1.length : Int) = (wr64 (a0_0 * a0_0)) then ((slices_ContainsFunc_int_int.f k l0_1).bind fun t1 => (some (impl_MatrixValid.en (!decide (t1 = true))))) else (some (impl_MatrixValid.en false))))) := by kernel_rfl
theorem impl_MatrixValid.sf (k : Nat) (a0_0 : Int) (l0_1 : List Int) : R.start Tryz.prog xhn impl_MatrixValid.O 0 Tryz.f56 impl_MatrixValid.fh k [.agg [.int .i64 a0_0, .imm (.I .i64 l0_1)]] [] = (impl_MatrixValid.f k a0_0 l0_1).map (impl_MatrixValid.en) := by
  rw [impl_MatrixValid.ef]
  simp only [impl_MatrixValid.f, R.map_ite, R.map_bind, R.map_none, R.map_some, R.wr64_eq]
theorem impl_MatrixValid.ok (k : Nat) : impl_MatrixValid.tw.Ok Tryz.prog k := by
  intro md hmd a r h
  refine fn_ok (H := xhn) (fh := impl_MatrixValid.fh) (O := impl_MatrixValid.O) (k := k) Tryz.func56 (by kernel_rfl) (by kernel_rfl) (fun j _ => (Tw.orc_sound slices_ContainsFunc_int_int.dok (slices_ContainsFunc_int_int.ok j) (fun _ => rfl) noO_sound)) (by kernel_rfl) (m := 0) rfl ?_
  refine (impl_MatrixValid.sf k a.1 a.2).trans ?_
  exact congrArg (Option.map _) h
def impl_alike.f (k : Nat) (a0_0 : Int) (l0_1 : List Int) (a1_0 : Int) (l1_1 : List Int) : Option (Bool) := ((impl_MatrixValid.f k a0_0 l0_1).bind fun t1 => (if t1 = true then ((impl_MatrixValid.f k a1_0 l1_1).bind fun t2 => (if t2 = true then (some (decide (a0_0 = a1_0))) else (some false))) else (some false)))
def impl_alike.en (r : Bool) : Res := (.lit r, [])
def impl_alike.dec : List AV → List R.Obj → Option (Int × (List Int) × Int × (List Int))
  | [.agg [.int .i64 a0_0, .imm (.I .i64 l0_1)], .agg [.int .i64 a1_0, .imm (.I .i64 l1_1)]], [] => some (a0_0, l0_1, a1_0, l1_1)
  | _, _ => none
def impl_alike.tw : Tw := ⟨40, Int × (List Int) × Int × (List Int), Bool, impl_alike.dec, fun a => [.agg [.int .i64 a.1, .imm (.I .i64 a.2.1)], .agg [.int .i64 a.2.2.1, .imm (.I .i64 a.2.2.2)]], fun a => [], fun k a => impl_alike.f k a.1 a.2.1 a.2.2.1 a.2.2.2, fun a r => impl_alike.en r, true⟩
theorem impl_alike.dok : impl_alike.tw.DecOk := by
  intro args hc a h
  have h : impl_alike.dec args hc = some a := h
  unfold impl_alike.dec at h
  split at h
  · cases h; exact ⟨rfl, rfl⟩
  · cases h
noncomputable def impl_alike.O (k : Nat) : Oracle := (impl_MatrixValid.tw.orc k noO)
def impl_alike.fh : FH := ⟨fun i => match i with | _ => none, [], false⟩
set_option maxRecDepth 100000 in
theorem impl_alike.ef (k : Nat) (a0_0 : Int) (l0_1 : List Int) (a1_0 : Int) (l1_1 : List Int) : R.start Tryz.prog xhn impl_alike.O 0 Tryz.f40 impl_alike.fh k [.agg [.int .i64 a0_0, .imm (.I .i64 l0_1)], .agg [.int .i64 a1_0, .imm (.I .i64 l1_1)]] [] = ((impl_MatrixValid.f k a0_0 l0_1).bind fun t1 => (if t1 = true then ((impl_MatrixValid.f k a1_0 l1_1).bind fun t2 => (if t2 = true then (some (impl_alike.en (decide (a0_0 = a1_0)))) else (some (impl_alike.en false)))) else (some (impl_alike.en false)))) := by kernel_rfl
theorem impl_alike.sf (k : Nat) (a0_0 : Int) (l0_1 : List Int) (a1_0 : Int) (l1_1 : List Int) : R.start Tryz.prog xhn impl_alike.O 0 Tryz.f40 impl_alike.fh k [.agg [.int .i64 a0_0, .imm (.I .i64 l0_1)], .agg [.int .i64 a1_0, .imm (.I .i64 l1_1)]] [] = (impl_alike.f k a0_0 l0_1 a1_0 l1_1).map (impl_alike.en) := by
  rw [impl_alike.ef]
  simp only [impl_alike.f, R.map_ite, R.map_bind, R.map_none, R.map_some, R.wr64_eq]
theorem impl_alike.ok (k : Nat) : impl_alike.tw.Ok Tryz.prog k := by
  intro md hmd a r h
  refine fn_ok (H := xhn) (fh := impl_alike.fh) (O := impl_alike.O) (k := k) Tryz.func40 (by kernel_rfl) (by kernel_rfl) (fun j _ => (Tw.orc_sound impl_MatrixValid.dok (impl_MatrixValid.ok j) (fun _ => rfl) noO_sound)) (by kernel_rfl) (m := 0) rfl ?_
  refine (impl_alike.sf k a.1 a.2.1 a.2.2.1 a.2.2.2).trans ?_
  exact congrArg (Option.map _) h
def impl_Matrix_at.f (a0_0 : Int) (l0_1 : List Int) (a1 : Int) (a2 : Int) : Option (Int) := (if 0 ≤ (wrap64 ((wrap64 (a1 * a0_0)) + a2)) then (if (wrap64 ((wrap64 (a1 * a0_0)) + a2)) < (l0_1.length : Int) then (some (rdI l0_1 (wrap64 ((wrap64 (a1 * a0_0)) + a2)))) else none) else none)
def impl_Matrix_at.en (r : Int) : Res := (.int .i64 r, [])
def impl_Matrix_at.dec : List AV → List R.Obj → Option (Int × (List Int) × Int × Int)
  | [.agg [.int .i64 a0_0, .imm (.I .i64 l0_1)], .int .i64 a1, .int .i64 a2], [] => some (a0_0, l0_1, a1, a2)
  | _, _ => none
def impl_Matrix_at.tw : Tw := ⟨44, Int × (List Int) × Int × Int, Int, impl_Matrix_at.dec, fun a => [.agg [.int .i64 a.1, .imm (.I .i64 a.2.1)], .int .i64 a.2.2.1, .int .i64 a.2.2.2], fun a => [], fun k a => impl_Matrix_at.f a.1 a.2.1 a.2.2.1 a.2.2.2, fun a r => impl_Matrix_at.en r, true⟩
theorem impl_Matrix_at.dok : impl_Matrix_at.tw.DecOk := by
  intro args hc a h
  have h : impl_Matrix_at.dec args hc = some a := h
  unfold impl_Matrix_at.dec at h
  split at h
  · cases h; exact ⟨rfl, rfl⟩
  · cases h
noncomputable def impl_Matrix_at.O (k : Nat) : Oracle := noO
def impl_Matrix_at.fh : FH := ⟨fun i => match i with | _ => none, [], false⟩
set_option maxRecDepth 100000 in
theorem impl_Matrix_at.ef (k : Nat) (a0_0 : Int) (l0_1 : List Int) (a1 : Int) (a2 : Int) : R.start Tryz.prog xhn impl_Matrix_at.O 0 Tryz.f44 impl_Matrix_at.fh k [.agg [.int .i64 a0_0, .imm (.I .i64 l0_1)], .int .i64 a1, .int .i64 a2] [] = (if 0 ≤ (wr64 ((wr64 (a1 * a0_0)) + a2)) then (if (wr64 ((wr64 (a1 * a0_0)) + a2)) < (l0_1.length : Int) then (some (impl_Matrix_at.en (rdI l0_1 (wr64 ((wr64 (a1 * a0_0)) + a2))))) else none) else none) := by kernel_rfl
theorem impl_Matrix_at.sf (k : Nat) (a0_0 : Int) (l0_1 : List Int) (a1 : Int) (a2 : Int) : R.start Tryz.prog xhn impl_Matrix_at.O 0 Tryz.f44 impl_Matrix_at.fh k [.agg [.int .i64 a0_0, .imm (.I .i64 l0_1)], .int .i64 a1, .int .i64 a2] [] = (impl_Matrix_at.f a0_0 l0_1 a1 a2).map (impl_Matrix_at.en) := by
  rw [impl_Matrix_at.ef]
  simp only [impl_Matrix_at.f, R.map_ite, R.map_bind, R.map_none, R.map_some, R.wr64_eq]
theorem impl_Matrix_at.ok (k : Nat) : impl_Matrix_at.tw.Ok Tryz.prog k := by
  intro md hmd a r h
  refine fn_ok (H := xhn) (fh := impl_Matrix_at.fh) (O := impl_Matrix_at.O) (k := k) Tryz.func44 (by kernel_rfl) (by kernel_rfl) (fun j _ => noO_sound) (by kernel_rfl) (m := 0) rfl ?_
  refine (impl_Matrix_at.sf k a.1 a.2.1 a.2.2.1 a.2.2.2).trans ?_
  exact congrArg (Option.map _) h
def impl_AddCost.f (a0 : Int) (a1 : Int) : Option (Int) := ((impl_CostValid.f a0).bind fun t1 => (if t1 = true then ((impl_CostValid.f a1).bind fun t2 => (if t2 = true then (some (mn (wrap64 (a0 + a1)) 1000000)) else (some (-1)))) else (some (-1))))
def impl_AddCost.en (r : Int) : Res := (.int .i64 r, [])
def impl_AddCost.dec : List AV → List R.Obj → Option (Int × Int)
  | [.int .i64 a0, .int .i64 a1], [] => some (a0, a1)
  | _, _ => none
def impl_AddCost.tw : Tw := ⟨43, Int × Int, Int, impl_AddCost.dec, fun a => [.int .i64 a.1, .int .i64 a.2], fun a => [], fun k a => impl_AddCost.f a.1 a.2, fun a r => impl_AddCost.en r, true⟩
theorem impl_AddCost.dok : impl_AddCost.tw.DecOk := by
  intro args hc a h
  have h : impl_AddCost.dec args hc = some a := h
  unfold impl_AddCost.dec at h
  split at h
  · cases h; exact ⟨rfl, rfl⟩
  · cases h
noncomputable def impl_AddCost.O (k : Nat) : Oracle := (impl_CostValid.tw.orc k noO)
def impl_AddCost.fh : FH := ⟨fun i => match i with | _ => none, [], false⟩
set_option maxRecDepth 100000 in
theorem impl_AddCost.ef (k : Nat) (a0 : Int) (a1 : Int) : R.start Tryz.prog xhn impl_AddCost.O 0 Tryz.f43 impl_AddCost.fh k [.int .i64 a0, .int .i64 a1] [] = ((impl_CostValid.f a0).bind fun t1 => (if t1 = true then ((impl_CostValid.f a1).bind fun t2 => (if t2 = true then (some (impl_AddCost.en (mn (wr64 (a0 + a1)) 1000000))) else (some (impl_AddCost.en (-1))))) else (some (impl_AddCost.en (-1))))) := by kernel_rfl
theorem impl_AddCost.sf (k : Nat) (a0 : Int) (a1 : Int) : R.start Tryz.prog xhn impl_AddCost.O 0 Tryz.f43 impl_AddCost.fh k [.int .i64 a0, .int .i64 a1] [] = (impl_AddCost.f a0 a1).map (impl_AddCost.en) := by
  rw [impl_AddCost.ef]
  simp only [impl_AddCost.f, R.map_ite, R.map_bind, R.map_none, R.map_some, R.wr64_eq]
theorem impl_AddCost.ok (k : Nat) : impl_AddCost.tw.Ok Tryz.prog k := by
  intro md hmd a r h
  refine fn_ok (H := xhn) (fh := impl_AddCost.fh) (O := impl_AddCost.O) (k := k) Tryz.func43 (by kernel_rfl) (by kernel_rfl) (fun j _ => (Tw.orc_sound impl_CostValid.dok (impl_CostValid.ok j) (fun _ => rfl) noO_sound)) (by kernel_rfl) (m := 0) rfl ?_
  refine (impl_AddCost.sf k a.1 a.2).trans ?_
  exact congrArg (Option.map _) h
def impl_MulMatrix_1.l0 : Nat → Int → Int → Int → Int → Int → Int → (List Int) → Int → (List Int) → Option (Int)
  | 0, _, _, _, _, _, _, _, _, _ => none
  | k + 1, x0, x1, x7, x10, x11, y0_0, y0_1, y1_0, y1_1 => (if x11 < x10 then ((impl_Matrix_at.f y0_0 y0_1 x0 x11).bind fun t1 => ((impl_Matrix_at.f y1_0 y1_1 x11 x1).bind fun t2 => ((impl_AddCost.f t1 t2).bind fun t3 => (impl_MulMatrix_1.l0 k x0 x1 (mn x7 t3) x10 (wrap64 (x11 + 1)) y0_0 y0_1 y1_0 y1_1)))) else (some x7))
def impl_MulMatrix_1.f (k : Nat) (a0 : Int) (a1 : Int) (a4_0 : Int) (l4_1 : List Int) (a5_0 : Int) (l5_1 : List Int) : Option (Int) := (impl_MulMatrix_1.l0 k a0 a1 1000000 a4_0 0 a4_0 l4_1 a5_0 l5_1)
def impl_MulMatrix_1.en (a4_0 : Int) (l4_1 : List Int) (a5_0 : Int) (l5_1 : List Int) (r : Int) : Res := (.int .i64 r, [.box true [.int .i64 a4_0, .imm (.I .i64 l4_1)], .box true [.int .i64 a5_0, .imm (.I .i64 l5_1)]])
def impl_MulMatrix_1.dec : List AV → List R.Obj → Option (Int × Int × Int × (List Int) × Int × (List Int))
  | [.int .i64 a0, .int .i64 a1, .ptr 0 0, .ptr 1 0], [.box true [.int .i64 a4_0, .imm (.I .i64 l4_1)], .box true [.int .i64 a5_0, .imm (.I .i64 l5_1)]] => some (a0, a1, a4_0, l4_1, a5_0, l5_1)
  | _, _ => none
def impl_MulMatrix_1.tw : Tw := ⟨42, Int × Int × Int × (List Int) × Int × (List Int), Int, impl_MulMatrix_1.dec, fun a => [.int .i64 a.1, .int .i64 a.2.1, .ptr 0 0, .ptr 1 0], fun a => [.box true [.int .i64 a.2.2.1, .imm (.I .i64 a.2.2.2.1)], .box true [.int .i64 a.2.2.2.2.1, .imm (.I .i64 a.2.2.2.2.2)]], fun k a => impl_MulMatrix_1.f k a.1 a.2.1 a.2.2.1 a.2.2.2.1 a.2.2.2.2.1 a.2.2.2.2.2, fun a r => impl_MulMatrix_1.en a.2.2.1 a.2.2.2.1 a.2.2.2.2.1 a.2.2.2.2.2 r, true⟩
theorem impl_MulMatrix_1.dok : impl_MulMatrix_1.tw.DecOk := by
  intro args hc a h
  have h : impl_MulMatrix_1.dec args hc = some a := h
  unfold impl_MulMatrix_1.dec at h
  split at h
  · cases h; exact ⟨rfl, rfl⟩
  · cases h
noncomputable def impl_MulMatrix_1.O (k : Nat) : Oracle := (impl_Matrix_at.tw.orc k (impl_AddCost.tw.orc k noO))
def impl_MulMatrix_1.fh : FH := ⟨fun i => match i with | 3 => some [(0, 0), (1, 0), (2, 0), (3, 0), (7, 0), (10, 0), (11, 0)] | _ => none, [], false⟩
noncomputable def impl_MulMatrix_1.x0 (k : Nat) (x0 : Int) (x1 : Int) (x7 : Int) (x10 : Int) (x11 : Int) (y0_0 : Int) (y0_1 : List Int) (y1_0 : Int) (y1_1 : List Int) : Option Res := R.exec Tryz.prog xhn impl_MulMatrix_1.O 2 Tryz.f42 impl_MulMatrix_1.fh k (R.point Tryz.f42 3) ⟨[(0, .int .i64 x0), (1, .int .i64 x1), (2, .ptr 0 0), (3, .ptr 1 0), (7, .int .i64 x7), (10, .int .i64 x10), (11, .int .i64 x11)], [(0, .box true [.int .i64 y0_0, .imm (.I .i64 y0_1)]), (1, .box true [.int .i64 y1_0, .imm (.I .i64 y1_1)])], 4⟩
set_option maxRecDepth 100000 in
theorem impl_MulMatrix_1.e0 (k : Nat) (x0 : Int) (x1 : Int) (x7 : Int) (x10 : Int) (x11 : Int) (y0_0 : Int) (y0_1 : List Int) (y1_0 : Int) (y1_1 : List Int) : impl_MulMatrix_1.x0 (k + 1) x0 x1 x7 x10 x11 y0_0 y0_1 y1_0 y1_1 = (if x11 < x10 then ((impl_Matrix_at.f y0_0 y0_1 x0 x11).bind fun t1 => ((impl_Matrix_at.f y1_0 y1_1 x11 x1).bind fun t2 => ((impl_AddCost.f t1 t2).bind fun t3 => (impl_MulMatrix_1.x0 k x0 x1 (mn x7 t3) x10 (wr64 (x11 + 1)) y0_0 y0_1 y1_0 y1_1)))) else (some (impl_MulMatrix_1.en y0_0 y0_1 y1_0 y1_1 x7))) := by kernel_rfl
set_option maxRecDepth 100000 in
theorem impl_MulMatrix_1.ef (k : Nat) (a0 : Int) (a1 : Int) (a4_0 : Int) (l4_1 : List Int) (a5_0 : Int) (l5_1 : List Int) : R.start Tryz.prog xhn impl_MulMatrix_1.O 2 Tryz.f42 impl_MulMatrix_1.fh k [.int .i64 a0, .int .i64 a1, .ptr 0 0, .ptr 1 0] [.box true [.int .i64 a4_0, .imm (.I .i64 l4_1)], .box true [.int .i64 a5_0, .imm (.I .i64 l5_1)]] = (impl_MulMatrix_1.x0 k a0 a1 1000000 a4_0 0 a4_0 l4_1 a5_0 l5_1) := by kernel_rfl
theorem impl_MulMatrix_1.link : ∀ k, (∀ (x0 : Int) (x1 : Int) (x7 : Int) (x10 : Int) (x11 : Int) (y0_0 : Int) (y0_1 : List Int) (y1_0 : Int) (y1_1 : List Int), impl_MulMatrix_1.x0 k x0 x1 x7 x10 x11 y0_0 y0_1 y1_0 y1_1 = (impl_MulMatrix_1.l0 k x0 x1 x7 x10 x11 y0_0 y0_1 y1_0 y1_1).map (impl_MulMatrix_1.en y0_0 y0_1 y1_0 y1_1))
  | 0 => fun _ _ _ _ _ _ _ _ _ => by simp only [impl_MulMatrix_1.l0, R.map_none]; rfl
  | k + 1 => by
    have ih0 := impl_MulMatrix_1.link k
    · intro x0 x1 x7 x10 x11 y0_0 y0_1 y1_0 y1_1
      rw [impl_MulMatrix_1.e0]
      simp only [impl_MulMatrix_1.l0, R.map_ite, R.map_bind, R.map_none, R.map_some, R.wr64_eq, ← ih0]
theorem impl_MulMatrix_1.sf (k : Nat) (a0 : Int) (a1 : Int) (a4_0 : Int) (l4_1 : List Int) (a5_0 : Int) (l5_1 : List Int) : R.start Tryz.prog xhn impl_MulMatrix_1.O 2 Tryz.f42 impl_MulMatrix_1.fh k [.int .i64 a0, .int .i64 a1, .ptr 0 0, .ptr 1 0] [.box true [.int .i64 a4_0, .imm (.I .i64 l4_1)], .box true [.int .i64 a5_0, .imm (.I .i64 l5_1)]] = (impl_MulMatrix_1.f k a0 a1 a4_0 l4_1 a5_0 l5_1).map (impl_MulMatrix_1.en a4_0 l4_1 a5_0 l5_1) := by
  have ih0 := impl_MulMatrix_1.link k
  rw [impl_MulMatrix_1.ef]
  simp only [impl_MulMatrix_1.f, R.map_ite, R.map_bind, R.map_none, R.map_some, R.wr64_eq, ← ih0]
theorem impl_MulMatrix_1.ok (k : Nat) : impl_MulMatrix_1.tw.Ok Tryz.prog k := by
  intro md hmd a r h
  refine fn_ok (H := xhn) (fh := impl_MulMatrix_1.fh) (O := impl_MulMatrix_1.O) (k := k) Tryz.func42 (by kernel_rfl) (by kernel_rfl) (fun j _ => (Tw.orc_sound impl_Matrix_at.dok (impl_Matrix_at.ok j) (fun _ => rfl) (Tw.orc_sound impl_AddCost.dok (impl_AddCost.ok j) (fun _ => rfl) noO_sound))) (by kernel_rfl) (m := 2) rfl ?_
  refine (impl_MulMatrix_1.sf k a.1 a.2.1 a.2.2.1 a.2.2.2.1 a.2.2.2.2.1 a.2.2.2.2.2).trans ?_
  exact congrArg (Option.map _) h
mutual
def impl_filled_c.l0 : Nat → Int → Int → Int → Int → (List Int) → Int → (List Int) → Int → (List Int) → Option (Int × (List Int))
  | 0, _, _, _, _, _, _, _, _, _ => none
  | k + 1, x0, x10, x11, y0_0, y0_1, y1_0, y1_1, y3_0, y5 => (if x11 < x10 then (impl_filled_c.l1 k x0 x11 x10 x11 x0 0 y0_0 y0_1 y1_0 y1_1 y3_0 y5) else (some (y3_0, y5)))
def impl_filled_c.l1 : Nat → Int → Int → Int → Int → Int → Int → Int → (List Int) → Int → (List Int) → Int → (List Int) → Option (Int × (List Int))
  | 0, _, _, _, _, _, _, _, _, _, _, _, _ => none
  | k + 1, x0, x6, x10, x11, x14, x15, y0_0, y0_1, y1_0, y1_1, y3_0, y5 => (if x15 < x14 then ((impl_MulMatrix_1.f k x6 x15 y0_0 y0_1 y1_0 y1_1).bind fun t1 => (if y5.length < 17592186044416 then (impl_filled_c.l1 k x0 x6 x10 x11 x14 (wrap64 (x15 + 1)) y0_0 y0_1 y1_0 y1_1 y3_0 (y5 ++ [t1])) else none)) else (impl_filled_c.l0 k x0 x10 (wrap64 (x11 + 1)) y0_0 y0_1 y1_0 y1_1 y3_0 y5))
end
def impl_filled_c.f (k : Nat) (a0 : Int) (a2_0 : Int) (l2_1 : List Int) (a3_0 : Int) (l3_1 : List Int) : Option (Int × (List Int)) := (impl_filled_c.l0 k a0 a0 0 a2_0 l2_1 a3_0 l3_1 a0 ([] : List Int))
def impl_filled_c.en (a2_0 : Int) (l2_1 : List Int) (a3_0 : Int) (l3_1 : List Int) (r : Int × (List Int)) : Res := (.agg [.int .i64 r.1, .sl 2 0], [.box true [.int .i64 a2_0, .imm (.I .i64 l2_1)], .box true [.int .i64 a3_0, .imm (.I .i64 l3_1)], .arr 3 0 (.I .i64 r.2) false])
def impl_filled_c.dec : List AV → List R.Obj → Option (Int × Int × (List Int) × Int × (List Int))
  | [.int .i64 a0, .clo 42 [.ptr 0 0, .ptr 1 0]], [.box true [.int .i64 a2_0, .imm (.I .i64 l2_1)], .box true [.int .i64 a3_0, .imm (.I .i64 l3_1)]] => some (a0, a2_0, l2_1, a3_0, l3_1)
  | _, _ => none
def impl_filled_c.tw : Tw := ⟨41, Int × Int × (List Int) × Int × (List Int), Int × (List Int), impl_filled_c.dec, fun a => [.int .i64 a.1, .clo 42 [.ptr 0 0, .ptr 1 0]], fun a => [.box true [.int .i64 a.2.1, .imm (.I .i64 a.2.2.1)], .box true [.int .i64 a.2.2.2.1, .imm (.I .i64 a.2.2.2.2)]], fun k a => impl_filled_c.f k a.1 a.2.1 a.2.2.1 a.2.2.2.1 a.2.2.2.2, fun a r => impl_filled_c.en a.2.1 a.2.2.1 a.2.2.2.1 a.2.2.2.2 r, true⟩
theorem impl_filled_c.dok : impl_filled_c.tw.DecOk := by
  intro args hc a h
  have h : impl_filled_c.dec args hc = some a := h
  unfold impl_filled_c.dec at h
  split at h
  · cases h; exact ⟨rfl, rfl⟩
  · cases h
noncomputable def impl_filled_c.O (k : Nat) : Oracle := (impl_MulMatrix_1.tw.orc k noO)
def impl_filled_c.fh : FH := ⟨fun i => match i with | 3 => some [(0, 0), (1, 0), (4, 0), (5, 0), (10, 0), (11, 0)] | 6 => some [(0, 0), (1, 0), (4, 0), (5, 0), (6, 0), (10, 0), (11, 0), (14, 0), (15, 0)] | _ => none, [(true, 3)], false⟩
noncomputable def impl_filled_c.x0 (k : Nat) (x0 : Int) (x10 : Int) (x11 : Int) (y0_0 : Int) (y0_1 : List Int) (y1_0 : Int) (y1_1 : List Int) (y3_0 : Int) (y5 : List Int) : Option Res := R.exec Tryz.prog xhn impl_filled_c.O 2 Tryz.f41 impl_filled_c.fh k (R.point Tryz.f41 3) ⟨[(0, .int .i64 x0), (1, .clo 42 [.ptr 0 0, .ptr 1 0]), (4, .ptr 2 0), (5, .ptr 3 0), (10, .int .i64 x10), (11, .int .i64 x11)], [(0, .box true [.int .i64 y0_0, .imm (.I .i64 y0_1)]), (1, .box true [.int .i64 y1_0, .imm (.I .i64 y1_1)]), (2, .box false [.int .i64 0, .sl 4 0]), (3, .box false [.int .i64 y3_0, .sl 5 0]), (4, .arr 3 0 (.I .i64 ([] : List Int)) false), (5, .arr 3 0 (.I .i64 y5) false)], 8⟩
noncomputable def impl_filled_c.x1 (k : Nat) (x0 : Int) (x6 : Int) (x10 : Int) (x11 : Int) (x14 : Int) (x15 : Int) (y0_0 : Int) (y0_1 : List Int) (y1_0 : Int) (y1_1 : List Int) (y3_0 : Int) (y5 : List Int) : Option Res := R.exec Tryz.prog xhn impl_filled_c.O 2 Tryz.f41 impl_filled_c.fh k (R.point Tryz.f41 6) ⟨[(0, .int .i64 x0), (1, .clo 42 [.ptr 0 0, .ptr 1 0]), (4, .ptr 2 0), (5, .ptr 3 0), (6, .int .i64 x6), (10, .int .i64 x10), (11, .int .i64 x11), (14, .int .i64 x14), (15, .int .i64 x15)], [(0, .box true [.int .i64 y0_0, .imm (.I .i64 y0_1)]), (1, .box true [.int .i64 y1_0, .imm (.I .i64 y1_1)]), (2, .box false [.int .i64 0, .sl 4 0]), (3, .box false [.int .i64 y3_0, .sl 5 0]), (4, .arr 3 0 (.I .i64 ([] : List Int)) false), (5, .arr 3 0 (.I .i64 y5) false)], 8⟩
set_option maxRecDepth 100000 in
theorem impl_filled_c.e0 (k : Nat) (x0 : Int) (x10 : Int) (x11 : Int) (y0_0 : Int) (y0_1 : List Int) (y1_0 : Int) (y1_1 : List Int) (y3_0 : Int) (y5 : List Int) : impl_filled_c.x0 (k + 1) x0 x10 x11 y0_0 y0_1 y1_0 y1_1 y3_0 y5 = (if x11 < x10 then (impl_filled_c.x1 k x0 x11 x10 x11 x0 0 y0_0 y0_1 y1_0 y1_1 y3_0 y5) else (some (impl_filled_c.en y0_0 y0_1 y1_0 y1_1 (y3_0, y5)))) := by kernel_rfl
set_option maxRecDepth 100000 in
theorem impl_filled_c.e1 (k : Nat) (x0 : Int) (x6 : Int) (x10 : Int) (x11 : Int) (x14 : Int) (x15 : Int) (y0_0 : Int) (y0_1 : List Int) (y1_0 : Int) (y1_1 : List Int) (y3_0 : Int) (y5 : List Int) : impl_filled_c.x1 (k + 1) x0 x6 x10 x11 x14 x15 y0_0 y0_1 y1_0 y1_1 y3_0 y5 = (if x15 < x14 then ((impl_MulMatrix_1.f k x6 x15 y0_0 y0_1 y1_0 y1_1).bind fun t1 => (if y5.length < 17592186044416 then (impl_filled_c.x1 k x0 x6 x10 x11 x14 (wr64 (x15 + 1)) y0_0 y0_1 y1_0 y1_1 y3_0 (y5 ++ [t1])) else none)) else (impl_filled_c.x0 k x0 x10 (wr64 (x11 + 1)) y0_0 y0_1 y1_0 y1_1 y3_0 y5)) := by kernel_rfl
set_option maxRecDepth 100000 in
theorem impl_filled_c.ef (k : Nat) (a0 : Int) (a2_0 : Int) (l2_1 : List Int) (a3_0 : Int) (l3_1 : List Int) : R.start Tryz.prog xhn impl_filled_c.O 2 Tryz.f41 impl_filled_c.fh k [.int .i64 a0, .clo 42 [.ptr 0 0, .ptr 1 0]] [.box true [.int .i64 a2_0, .imm (.I .i64 l2_1)], .box true [.int .i64 a3_0, .imm (.I .i64 l3_1)]] = (impl_filled_c.x0 k a0 a0 0 a2_0 l2_1 a3_0 l3_1 a0 ([] : List Int)) := by kernel_rfl
theorem impl_filled_c.link : ∀ k, (∀ (x0 : Int) (x10 : Int) (x11 : Int) (y0_0 : Int) (y0_1 : List Int) (y1_0 : Int) (y1_1 : List Int) (y3_0 : Int) (y5 : List Int), impl_filled_c.x0 k x0 x10 x11 y0_0 y0_1 y1_0 y1_1 y3_0 y5 = (impl_filled_c.l0 k x0 x10 x11 y0_0 y0_1 y1_0 y1_1 y3_0 y5).map (impl_filled_c.en y0_0 y0_1 y1_0 y1_1)) ∧ (∀ (x0 : Int) (x6 : Int) (x10 : Int) (x11 : Int) (x14 : Int) (x15 : Int) (y0_0 : Int) (y0_1 : List Int) (y1_0 : Int) (y1_1 : List Int) (y3_0 : Int) (y5 : List Int), impl_filled_c.x1 k x0 x6 x10 x11 x14 x15 y0_0 y0_1 y1_0 y1_1 y3_0 y5 = (impl_filled_c.l1 k x0 x6 x10 x11 x14 x15 y0_0 y0_1 y1_0 y1_1 y3_0 y5).map (impl_filled_c.en y0_0 y0_1 y1_0 y1_1))
  | 0 => ⟨fun _ _ _ _ _ _ _ _ _ => by simp only [impl_filled_c.l0, R.map_none]; rfl, fun _ _ _ _ _ _ _ _ _ _ _ _ => by simp only [impl_filled_c.l1, R.map_none]; rfl⟩
  | k + 1 => by
    obtain ⟨ih0, ih1⟩ := impl_filled_c.link k
    refine ⟨?_, ?_⟩
    · intro x0 x10 x11 y0_0 y0_1 y1_0 y1_1 y3_0 y5
      rw [impl_filled_c.e0]
      simp only [impl_filled_c.l0, R.map_ite, R.map_bind, R.map_none, R.map_some, R.wr64_eq, ← ih0, ← ih1]
    · intro x0 x6 x10 x11 x14 x15 y0_0 y0_1 y1_0 y1_1 y3_0 y5
      rw [impl_filled_c.e1]
      simp only [impl_filled_c.l1, R.map_ite, R.map_bind, R.map_none, R.map_some, R.wr64_eq, ← ih0, ← ih1]
theorem impl_filled_c.sf (k : Nat) (a0 : Int) (a2_0 : Int) (l2_1 : List Int) (a3_0 : Int) (l3_1 : List Int) : R.start Tryz.prog xhn impl_filled_c.O 2 Tryz.f41 impl_filled_c.fh k [.int .i64 a0, .clo 42 [.ptr 0 0, .ptr 1 0]] [.box true [.int .i64 a2_0, .imm (.I .i64 l2_1)], .box true [.int .i64 a3_0, .imm (.I .i64 l3_1)]] = (impl_filled_c.f k a0 a2_0 l2_1 a3_0 l3_1).map (impl_filled_c.en a2_0 l2_1 a3_0 l3_1) := by
  obtain ⟨ih0, ih1⟩ := impl_filled_c.link k
  rw [impl_filled_c.ef]
  simp only [impl_filled_c.f, R.map_ite, R.map_bind, R.map_none, R.map_some, R.wr64_eq, ← ih0, ← ih1]
theorem impl_filled_c.ok (k : Nat) : impl_filled_c.tw.Ok Tryz.prog k := by
  intro md hmd a r h
  refine fn_ok (H := xhn) (fh := impl_filled_c.fh) (O := impl_filled_c.O) (k := k) Tryz.func41 (by kernel_rfl) (by kernel_rfl) (fun j _ => (Tw.orc_sound impl_MulMatrix_1.dok (impl_MulMatrix_1.ok j) (fun _ => rfl) noO_sound)) (by kernel_rfl) (m := 2) rfl ?_
  refine (impl_filled_c.sf k a.1 a.2.1 a.2.2.1 a.2.2.2.1 a.2.2.2.2).trans ?_
  exact congrArg (Option.map _) h
def impl_MulMatrix.f (k : Nat) (a0_0 : Int) (l0_1 : List Int) (a1_0 : Int) (l1_1 : List Int) : Option (Int × (List Int) × Bool) := ((impl_alike.f k a0_0 l0_1 a1_0 l1_1).bind fun t1 => (if t1 = true then ((impl_filled_c.f k a0_0 a0_0 l0_1 a1_0 l1_1).bind fun t2 => (some (t2.1, t2.2, true))) else (some (0, ([] : List Int), false))))
def impl_MulMatrix.en (r : Int × (List Int) × Bool) : Res := (.tup [.agg [.int .i64 r.1, .sl 0 0], .lit r.2.2], [.arr 3 0 (.I .i64 r.2.1) false])
def impl_MulMatrix.dec : List AV → List R.Obj → Option (Int × (List Int) × Int × (List Int))
  | [.agg [.int .i64 a0_0, .imm (.I .i64 l0_1)], .agg [.int .i64 a1_0, .imm (.I .i64 l1_1)]], [] => some (a0_0, l0_1, a1_0, l1_1)
  | _, _ => none
def impl_MulMatrix.tw : Tw := ⟨11, Int × (List Int) × Int × (List Int), Int × (List Int) × Bool, impl_MulMatrix.dec, fun a => [.agg [.int .i64 a.1, .imm (.I .i64 a.2.1)], .agg [.int .i64 a.2.2.1, .imm (.I .i64 a.2.2.2)]], fun a => [], fun k a => impl_MulMatrix.f k a.1 a.2.1 a.2.2.1 a.2.2.2, fun a r => impl_MulMatrix.en r, true⟩
theorem impl_MulMatrix.dok : impl_MulMatrix.tw.DecOk := by
  intro args hc a h
  have h : impl_MulMatrix.dec args hc = some a := h
  unfold impl_MulMatrix.dec at h
  split at h
  · cases h; exact ⟨rfl, rfl⟩
  · cases h
noncomputable def impl_MulMatrix.O (k : Nat) : Oracle := (impl_alike.tw.orc k (impl_filled_c.tw.orc k noO))
def impl_MulMatrix.fh : FH := ⟨fun i => match i with | _ => none, [(true, 3)], false⟩
set_option maxRecDepth 100000 in
theorem impl_MulMatrix.ef (k : Nat) (a0_0 : Int) (l0_1 : List Int) (a1_0 : Int) (l1_1 : List Int) : R.start Tryz.prog xhn impl_MulMatrix.O 0 Tryz.f11 impl_MulMatrix.fh k [.agg [.int .i64 a0_0, .imm (.I .i64 l0_1)], .agg [.int .i64 a1_0, .imm (.I .i64 l1_1)]] [] = ((impl_alike.f k a0_0 l0_1 a1_0 l1_1).bind fun t1 => (if t1 = true then ((impl_filled_c.f k a0_0 a0_0 l0_1 a1_0 l1_1).bind fun t2 => (some (impl_MulMatrix.en (t2.1, t2.2, true)))) else (some (impl_MulMatrix.en (0, ([] : List Int), false))))) := by kernel_rfl
theorem impl_MulMatrix.sf (k : Nat) (a0_0 : Int) (l0_1 : List Int) (a1_0 : Int) (l1_1 : List Int) : R.start Tryz.prog xhn impl_MulMatrix.O 0 Tryz.f11 impl_MulMatrix.fh k [.agg [.int .i64 a0_0, .imm (.I .i64 l0_1)], .agg [.int .i64 a1_0, .imm (.I .i64 l1_1)]] [] = (impl_MulMatrix.f k a0_0 l0_1 a1_0 l1_1).map (impl_MulMatrix.en) := by
  rw [impl_MulMatrix.ef]
  simp only [impl_MulMatrix.f, R.map_ite, R.map_bind, R.map_none, R.map_some, R.wr64_eq]
theorem impl_MulMatrix.ok (k : Nat) : impl_MulMatrix.tw.Ok Tryz.prog k := by
  intro md hmd a r h
  refine fn_ok (H := xhn) (fh := impl_MulMatrix.fh) (O := impl_MulMatrix.O) (k := k) Tryz.func11 (by kernel_rfl) (by kernel_rfl) (fun j _ => (Tw.orc_sound impl_alike.dok (impl_alike.ok j) (fun _ => rfl) (Tw.orc_sound impl_filled_c.dok (impl_filled_c.ok j) (fun _ => rfl) noO_sound))) (by kernel_rfl) (m := 0) rfl ?_
  refine (impl_MulMatrix.sf k a.1 a.2.1 a.2.2.1 a.2.2.2).trans ?_
  exact congrArg (Option.map _) h
def impl_WordMatrix.l0 : Nat → ByteArray → Int → Int → Int → (List Int) → (List Int) → (List Stp) → Int → (List Int) → Option (Int × (List Int) × Bool)
  | 0, _, _, _, _, _, _, _, _, _ => none
  | k + 1, x1, x27, x28, y0_0, y0_1, y0_2, y0_3, y2_0, y4 => (if x28 < x27 then (if 0 ≤ x28 then (if x28 ≤ (wrap64 (x28 + 1)) then (if (wrap64 (x28 + 1)) ≤ (x1.size : Int) then ((impl_StepMatrix.f k y0_0 y0_1 y0_2 y0_3 (x1.extract x28.toNat (wrap64 (x28 + 1)).toNat)).bind fun t4 => ((impl_MulMatrix.f k y2_0 y4 t4.1 t4.2.1).bind fun t5 => (impl_WordMatrix.l0 k x1 x27 (wrap64 (x28 + 1)) y0_0 y0_1 y0_2 y0_3 t5.1 t5.2.1))) else none) else none) else none) else (some (y2_0, y4, true)))
def impl_WordMatrix.f (k : Nat) (a0_0 : Int) (l0_1 : List Int) (l0_2 : List Int) (l0_3 : List Stp) (a1 : ByteArray) : Option (Int × (List Int) × Bool) := ((impl_AutomatonValid.f k a0_0 l0_1 l0_2 l0_3).bind fun t1 => (if t1 = true then ((impl_WordValid.f k a1).bind fun t2 => (if t2 = true then ((impl_UnitMatrix.f k a0_0).bind fun t3 => (impl_WordMatrix.l0 k a1 (a1.size : Int) 0 a0_0 l0_1 l0_2 l0_3 t3.1 t3.2.1)) else (some (0, ([] : List Int), false)))) else (some (0, ([] : List Int), false))))
def impl_WordMatrix.en (r : Int × (List Int) × Bool) : Res := (.tup [.agg [.int .i64 r.1, .sl 0 0], .lit r.2.2], [.arr 3 0 (.I .i64 r.2.1) false])
def impl_WordMatrix.dec : List AV → List R.Obj → Option (Int × (List Int) × (List Int) × (List Stp) × ByteArray)
  | [.agg [.int .i64 a0_0, .imm (.I .i64 l0_1), .imm (.I .i64 l0_2), .imm (.T l0_3)], .str a1], [] => some (a0_0, l0_1, l0_2, l0_3, a1)
  | _, _ => none
def impl_WordMatrix.tw : Tw := ⟨8, Int × (List Int) × (List Int) × (List Stp) × ByteArray, Int × (List Int) × Bool, impl_WordMatrix.dec, fun a => [.agg [.int .i64 a.1, .imm (.I .i64 a.2.1), .imm (.I .i64 a.2.2.1), .imm (.T a.2.2.2.1)], .str a.2.2.2.2], fun a => [], fun k a => impl_WordMatrix.f k a.1 a.2.1 a.2.2.1 a.2.2.2.1 a.2.2.2.2, fun a r => impl_WordMatrix.en r, true⟩
theorem impl_WordMatrix.dok : impl_WordMatrix.tw.DecOk := by
  intro args hc a h
  have h : impl_WordMatrix.dec args hc = some a := h
  unfold impl_WordMatrix.dec at h
  split at h
  · cases h; exact ⟨rfl, rfl⟩
  · cases h
noncomputable def impl_WordMatrix.O (k : Nat) : Oracle := (impl_AutomatonValid.tw.orc k (impl_WordValid.tw.orc k (impl_UnitMatrix.tw.orc k (impl_StepMatrix.tw.orc k (impl_MulMatrix.tw.orc k noO)))))
def impl_WordMatrix.fh : FH := ⟨fun i => match i with | 5 => some [(1, 0), (2, 0), (4, 0), (6, 0), (27, 0), (28, 0)] | _ => none, [(true, 3)], false⟩
noncomputable def impl_WordMatrix.x0 (k : Nat) (x1 : ByteArray) (x27 : Int) (x28 : Int) (y0_0 : Int) (y0_1 : List Int) (y0_2 : List Int) (y0_3 : List Stp) (y2_0 : Int) (y4 : List Int) : Option Res := R.exec Tryz.prog xhn impl_WordMatrix.O 0 Tryz.f8 impl_WordMatrix.fh k (R.point Tryz.f8 5) ⟨[(1, .str x1), (2, .ptr 0 0), (4, .ptr 1 0), (6, .ptr 2 0), (27, .int .i64 x27), (28, .int .i64 x28)], [(0, .box false [.int .i64 y0_0, .imm (.I .i64 y0_1), .imm (.I .i64 y0_2), .imm (.T y0_3)]), (1, .box false [.int .i64 0, .sl 3 0]), (2, .box false [.int .i64 y2_0, .sl 4 0]), (3, .arr 3 0 (.I .i64 ([] : List Int)) false), (4, .arr 3 0 (.I .i64 y4) false)], 7⟩
set_option maxRecDepth 100000 in
theorem impl_WordMatrix.e0 (k : Nat) (x1 : ByteArray) (x27 : Int) (x28 : Int) (y0_0 : Int) (y0_1 : List Int) (y0_2 : List Int) (y0_3 : List Stp) (y2_0 : Int) (y4 : List Int) : impl_WordMatrix.x0 (k + 1) x1 x27 x28 y0_0 y0_1 y0_2 y0_3 y2_0 y4 = (if x28 < x27 then (if 0 ≤ x28 then (if x28 ≤ (wr64 (x28 + 1)) then (if (wr64 (x28 + 1)) ≤ (x1.size : Int) then ((impl_StepMatrix.f k y0_0 y0_1 y0_2 y0_3 (x1.extract x28.toNat (wr64 (x28 + 1)).toNat)).bind fun t4 => ((impl_MulMatrix.f k y2_0 y4 t4.1 t4.2.1).bind fun t5 => (impl_WordMatrix.x0 k x1 x27 (wr64 (x28 + 1)) y0_0 y0_1 y0_2 y0_3 t5.1 t5.2.1))) else none) else none) else none) else (some (impl_WordMatrix.en (y2_0, y4, true)))) := by kernel_rfl
set_option maxRecDepth 100000 in
theorem impl_WordMatrix.ef (k : Nat) (a0_0 : Int) (l0_1 : List Int) (l0_2 : List Int) (l0_3 : List Stp) (a1 : ByteArray) : R.start Tryz.prog xhn impl_WordMatrix.O 0 Tryz.f8 impl_WordMatrix.fh k [.agg [.int .i64 a0_0, .imm (.I .i64 l0_1), .imm (.I .i64 l0_2), .imm (.T l0_3)], .str a1] [] = ((impl_AutomatonValid.f k a0_0 l0_1 l0_2 l0_3).bind fun t1 => (if t1 = true then ((impl_WordValid.f k a1).bind fun t2 => (if t2 = true then ((impl_UnitMatrix.f k a0_0).bind fun t3 => (impl_WordMatrix.x0 k a1 (a1.size : Int) 0 a0_0 l0_1 l0_2 l0_3 t3.1 t3.2.1)) else (some (impl_WordMatrix.en (0, ([] : List Int), false))))) else (some (impl_WordMatrix.en (0, ([] : List Int), false))))) := by kernel_rfl
theorem impl_WordMatrix.link : ∀ k, (∀ (x1 : ByteArray) (x27 : Int) (x28 : Int) (y0_0 : Int) (y0_1 : List Int) (y0_2 : List Int) (y0_3 : List Stp) (y2_0 : Int) (y4 : List Int), impl_WordMatrix.x0 k x1 x27 x28 y0_0 y0_1 y0_2 y0_3 y2_0 y4 = (impl_WordMatrix.l0 k x1 x27 x28 y0_0 y0_1 y0_2 y0_3 y2_0 y4).map (impl_WordMatrix.en))
  | 0 => fun _ _ _ _ _ _ _ _ _ => by simp only [impl_WordMatrix.l0, R.map_none]; rfl
  | k + 1 => by
    have ih0 := impl_WordMatrix.link k
    · intro x1 x27 x28 y0_0 y0_1 y0_2 y0_3 y2_0 y4
      rw [impl_WordMatrix.e0]
      simp only [impl_WordMatrix.l0, R.map_ite, R.map_bind, R.map_none, R.map_some, R.wr64_eq, ← ih0]
theorem impl_WordMatrix.sf (k : Nat) (a0_0 : Int) (l0_1 : List Int) (l0_2 : List Int) (l0_3 : List Stp) (a1 : ByteArray) : R.start Tryz.prog xhn impl_WordMatrix.O 0 Tryz.f8 impl_WordMatrix.fh k [.agg [.int .i64 a0_0, .imm (.I .i64 l0_1), .imm (.I .i64 l0_2), .imm (.T l0_3)], .str a1] [] = (impl_WordMatrix.f k a0_0 l0_1 l0_2 l0_3 a1).map (impl_WordMatrix.en) := by
  have ih0 := impl_WordMatrix.link k
  rw [impl_WordMatrix.ef]
  simp only [impl_WordMatrix.f, R.map_ite, R.map_bind, R.map_none, R.map_some, R.wr64_eq, ← ih0]
theorem impl_WordMatrix.ok (k : Nat) : impl_WordMatrix.tw.Ok Tryz.prog k := by
  intro md hmd a r h
  refine fn_ok (H := xhn) (fh := impl_WordMatrix.fh) (O := impl_WordMatrix.O) (k := k) Tryz.func8 (by kernel_rfl) (by kernel_rfl) (fun j _ => (Tw.orc_sound impl_AutomatonValid.dok (impl_AutomatonValid.ok j) (fun _ => rfl) (Tw.orc_sound impl_WordValid.dok (impl_WordValid.ok j) (fun _ => rfl) (Tw.orc_sound impl_UnitMatrix.dok (impl_UnitMatrix.ok j) (fun _ => rfl) (Tw.orc_sound impl_StepMatrix.dok (impl_StepMatrix.ok j) (fun _ => rfl) (Tw.orc_sound impl_MulMatrix.dok (impl_MulMatrix.ok j) (fun _ => rfl) noO_sound)))))) (by kernel_rfl) (m := 0) rfl ?_
  refine (impl_WordMatrix.sf k a.1 a.2.1 a.2.2.1 a.2.2.2.1 a.2.2.2.2).trans ?_
  exact congrArg (Option.map _) h
def spec_WordValid.l0 : Nat → ByteArray → Int → Int → Option (Bool)
  | 0, _, _, _ => none
  | k + 1, x0, x5, x6 => (if x6 < x5 then (if 0 ≤ x6 then (if x6 < (x0.size : Int) then (if (btI x0 x6) = 97 then (spec_WordValid.l0 k x0 x5 (wrap64 (x6 + 1))) else (if (btI x0 x6) = 98 then (spec_WordValid.l0 k x0 x5 (wrap64 (x6 + 1))) else (some false))) else none) else none) else (some (decide ((x0.size : Int) ≤ 1000))))
def spec_WordValid.f (k : Nat) (a0 : ByteArray) : Option (Bool) := (spec_WordValid.l0 k a0 (a0.size : Int) 0)
def spec_WordValid.en (r : Bool) : Res := (.lit r, [])
def spec_WordValid.dec : List AV → List R.Obj → Option (ByteArray)
  | [.str a0], [] => some a0
  | _, _ => none
def spec_WordValid.tw : Tw := ⟨31, ByteArray, Bool, spec_WordValid.dec, fun a => [.str a], fun a => [], fun k a => spec_WordValid.f k a, fun a r => spec_WordValid.en r, true⟩
theorem spec_WordValid.dok : spec_WordValid.tw.DecOk := by
  intro args hc a h
  have h : spec_WordValid.dec args hc = some a := h
  unfold spec_WordValid.dec at h
  split at h
  · cases h; exact ⟨rfl, rfl⟩
  · cases h
noncomputable def spec_WordValid.O (k : Nat) : Oracle := noO
def spec_WordValid.fh : FH := ⟨fun i => match i with | 2 => some [(0, 0), (5, 0), (6, 0)] | _ => none, [], false⟩
noncomputable def spec_WordValid.x0 (k : Nat) (x0 : ByteArray) (x5 : Int) (x6 : Int) : Option Res := R.exec Tryz.prog xhn spec_WordValid.O 0 Tryz.f31 spec_WordValid.fh k (R.point Tryz.f31 2) ⟨[(0, .str x0), (5, .int .i64 x5), (6, .int .i64 x6)], [], 2⟩
set_option maxRecDepth 100000 in
theorem spec_WordValid.e0 (k : Nat) (x0 : ByteArray) (x5 : Int) (x6 : Int) : spec_WordValid.x0 (k + 1) x0 x5 x6 = (if x6 < x5 then (if 0 ≤ x6 then (if x6 < (x0.size : Int) then (if (btI x0 x6) = 97 then (spec_WordValid.x0 k x0 x5 (wr64 (x6 + 1))) else (if (btI x0 x6) = 98 then (spec_WordValid.x0 k x0 x5 (wr64 (x6 + 1))) else (some (spec_WordValid.en false)))) else none) else none) else (some (spec_WordValid.en (decide ((x0.size : Int) ≤ 1000))))) := by
  refine Eq.trans ?_ (R.icong (fun h0 => (R.icong (fun h1 => (R.icong (fun h2 => (R.icong (fun h3 => rfl) (fun h3 => (R.idropT (p := 0 ≤ x6) (z := none) h1 (R.idropT (p := x6 < (x0.size : Int)) (z := none) h2 rfl))))) (fun h2 => rfl))) (fun h1 => rfl))) (fun h0 => rfl))
  kernel_rfl
set_option maxRecDepth 100000 in
theorem spec_WordValid.ef (k : Nat) (a0 : ByteArray) : R.start Tryz.prog xhn spec_WordValid.O 0 Tryz.f31 spec_WordValid.fh k [.str a0] [] = (spec_WordValid.x0 k a0 (a0.size : Int) 0) := by kernel_rfl
theorem spec_WordValid.link : ∀ k, (∀ (x0 : ByteArray) (x5 : Int) (x6 : Int), spec_WordValid.x0 k x0 x5 x6 = (spec_WordValid.l0 k x0 x5 x6).map (spec_WordValid.en))
  | 0 => fun _ _ _ => by simp only [spec_WordValid.l0, R.map_none]; rfl
  | k + 1 => by
    have ih0 := spec_WordValid.link k
    · intro x0 x5 x6
      rw [spec_WordValid.e0]
      simp only [spec_WordValid.l0, R.map_ite, R.map_bind, R.map_none, R.map_some, R.wr64_eq, ← ih0]
theorem spec_WordValid.sf (k : Nat) (a0 : ByteArray) : R.start Tryz.prog xhn spec_WordValid.O 0 Tryz.f31 spec_WordValid.fh k [.str a0] [] = (spec_WordValid.f k a0).map (spec_WordValid.en) := by
  have ih0 := spec_WordValid.link k
  rw [spec_WordValid.ef]
  simp only [spec_WordValid.f, R.map_ite, R.map_bind, R.map_none, R.map_some, R.wr64_eq, ← ih0]
theorem spec_WordValid.ok (k : Nat) : spec_WordValid.tw.Ok Tryz.prog k := by
  intro md hmd a r h
  refine fn_ok (H := xhn) (fh := spec_WordValid.fh) (O := spec_WordValid.O) (k := k) Tryz.func31 (by kernel_rfl) (by kernel_rfl) (fun j _ => noO_sound) (by kernel_rfl) (m := 0) rfl ?_
  refine (spec_WordValid.sf k a).trans ?_
  exact congrArg (Option.map _) h
def spec_l4Asked.f (k : Nat) (a0_0 : Int) (l0_1 : List Int) (l0_2 : List Int) (l0_3 : List Stp) (a1 : ByteArray) : Option (Bool) := ((spec_AutomatonValid.f k a0_0 l0_1 l0_2 l0_3).bind fun t1 => (if t1 = true then ((spec_WordValid.f k a1).bind fun t2 => (some t2)) else (some false)))
def spec_l4Asked.en (r : Bool) : Res := (.lit r, [])
def spec_l4Asked.dec : List AV → List R.Obj → Option (Int × (List Int) × (List Int) × (List Stp) × ByteArray)
  | [.agg [.int .i64 a0_0, .imm (.I .i64 l0_1), .imm (.I .i64 l0_2), .imm (.T l0_3)], .str a1], [] => some (a0_0, l0_1, l0_2, l0_3, a1)
  | _, _ => none
def spec_l4Asked.tw : Tw := ⟨38, Int × (List Int) × (List Int) × (List Stp) × ByteArray, Bool, spec_l4Asked.dec, fun a => [.agg [.int .i64 a.1, .imm (.I .i64 a.2.1), .imm (.I .i64 a.2.2.1), .imm (.T a.2.2.2.1)], .str a.2.2.2.2], fun a => [], fun k a => spec_l4Asked.f k a.1 a.2.1 a.2.2.1 a.2.2.2.1 a.2.2.2.2, fun a r => spec_l4Asked.en r, true⟩
theorem spec_l4Asked.dok : spec_l4Asked.tw.DecOk := by
  intro args hc a h
  have h : spec_l4Asked.dec args hc = some a := h
  unfold spec_l4Asked.dec at h
  split at h
  · cases h; exact ⟨rfl, rfl⟩
  · cases h
noncomputable def spec_l4Asked.O (k : Nat) : Oracle := (spec_AutomatonValid.tw.orc k (spec_WordValid.tw.orc k noO))
def spec_l4Asked.fh : FH := ⟨fun i => match i with | _ => none, [], false⟩
set_option maxRecDepth 100000 in
theorem spec_l4Asked.ef (k : Nat) (a0_0 : Int) (l0_1 : List Int) (l0_2 : List Int) (l0_3 : List Stp) (a1 : ByteArray) : R.start Tryz.prog xhn spec_l4Asked.O 0 Tryz.f38 spec_l4Asked.fh k [.agg [.int .i64 a0_0, .imm (.I .i64 l0_1), .imm (.I .i64 l0_2), .imm (.T l0_3)], .str a1] [] = ((spec_AutomatonValid.f k a0_0 l0_1 l0_2 l0_3).bind fun t1 => (if t1 = true then ((spec_WordValid.f k a1).bind fun t2 => (some (spec_l4Asked.en t2))) else (some (spec_l4Asked.en false)))) := by kernel_rfl
theorem spec_l4Asked.sf (k : Nat) (a0_0 : Int) (l0_1 : List Int) (l0_2 : List Int) (l0_3 : List Stp) (a1 : ByteArray) : R.start Tryz.prog xhn spec_l4Asked.O 0 Tryz.f38 spec_l4Asked.fh k [.agg [.int .i64 a0_0, .imm (.I .i64 l0_1), .imm (.I .i64 l0_2), .imm (.T l0_3)], .str a1] [] = (spec_l4Asked.f k a0_0 l0_1 l0_2 l0_3 a1).map (spec_l4Asked.en) := by
  rw [spec_l4Asked.ef]
  simp only [spec_l4Asked.f, R.map_ite, R.map_bind, R.map_none, R.map_some, R.wr64_eq]
theorem spec_l4Asked.ok (k : Nat) : spec_l4Asked.tw.Ok Tryz.prog k := by
  intro md hmd a r h
  refine fn_ok (H := xhn) (fh := spec_l4Asked.fh) (O := spec_l4Asked.O) (k := k) Tryz.func38 (by kernel_rfl) (by kernel_rfl) (fun j _ => (Tw.orc_sound spec_AutomatonValid.dok (spec_AutomatonValid.ok j) (fun _ => rfl) (Tw.orc_sound spec_WordValid.dok (spec_WordValid.ok j) (fun _ => rfl) noO_sound))) (by kernel_rfl) (m := 0) rfl ?_
  refine (spec_l4Asked.sf k a.1 a.2.1 a.2.2.1 a.2.2.2.1 a.2.2.2.2).trans ?_
  exact congrArg (Option.map _) h
def spec_l2Unit.l0 : Nat → Int → Int → Int → Int → (List Int) → Option (Int × (List Int))
  | 0, _, _, _, _, _ => none
  | k + 1, x0, x9, x10, y1_0, y3 => (if x10 < x9 then (if x0 = 0 then none else (if (wrap64 (x10.tdiv x0)) = (x10.tmod x0) then (if y3.length < 17592186044416 then (spec_l2Unit.l0 k x0 x9 (wrap64 (x10 + 1)) y1_0 (y3 ++ [0])) else none) else (if y3.length < 17592186044416 then (spec_l2Unit.l0 k x0 x9 (wrap64 (x10 + 1)) y1_0 (y3 ++ [1000000])) else none))) else (some (y1_0, y3)))
def spec_l2Unit.f (k : Nat) (a0 : Int) : Option (Int × (List Int)) := (spec_l2Unit.l0 k a0 (wrap64 (a0 * a0)) 0 a0 ([] : List Int))
def spec_l2Unit.en (r : Int × (List Int)) : Res := (.agg [.int .i64 r.1, .sl 0 0], [.arr 3 0 (.I .i64 r.2) false])
def spec_l2Unit.dec : List AV → List R.Obj → Option (Int)
  | [.int .i64 a0], [] => some a0
  | _, _ => none
def spec_l2Unit.tw : Tw := ⟨75, Int, Int × (List Int), spec_l2Unit.dec, fun a => [.int .i64 a], fun a => [], fun k a => spec_l2Unit.f k a, fun a r => spec_l2Unit.en r, true⟩
theorem spec_l2Unit.dok : spec_l2Unit.tw.DecOk := by
  intro args hc a h
  have h : spec_l2Unit.dec args hc = some a := h
  unfold spec_l2Unit.dec at h
  split at h
  · cases h; exact ⟨rfl, rfl⟩
  · cases h
noncomputable def spec_l2Unit.O (k : Nat) : Oracle := noO
def spec_l2Unit.fh : FH := ⟨fun i => match i with | 3 => some [(0, 0), (2, 0), (3, 0), (9, 0), (10, 0)] | _ => none, [(true, 3)], false⟩
noncomputable def spec_l2Unit.x0 (k : Nat) (x0 : Int) (x9 : Int) (x10 : Int) (y1_0 : Int) (y3 : List Int) : Option Res := R.exec Tryz.prog xhn spec_l2Unit.O 0 Tryz.f75 spec_l2Unit.fh k (R.point Tryz.f75 3) ⟨[(0, .int .i64 x0), (2, .ptr 0 0), (3, .ptr 1 0), (9, .int .i64 x9), (10, .int .i64 x10)], [(0, .box false [.int .i64 0, .sl 2 0]), (1, .box false [.int .i64 y1_0, .sl 3 0]), (2, .arr 3 0 (.I .i64 ([] : List Int)) false), (3, .arr 3 0 (.I .i64 y3) false)], 6⟩
set_option maxRecDepth 100000 in
theorem spec_l2Unit.e0 (k : Nat) (x0 : Int) (x9 : Int) (x10 : Int) (y1_0 : Int) (y3 : List Int) : spec_l2Unit.x0 (k + 1) x0 x9 x10 y1_0 y3 = (if x10 < x9 then (if x0 = 0 then none else (if (wr64 (x10.tdiv x0)) = (x10.tmod x0) then (if y3.length < 17592186044416 then (spec_l2Unit.x0 k x0 x9 (wr64 (x10 + 1)) y1_0 (y3 ++ [0])) else none) else (if y3.length < 17592186044416 then (spec_l2Unit.x0 k x0 x9 (wr64 (x10 + 1)) y1_0 (y3 ++ [1000000])) else none))) else (some (spec_l2Unit.en (y1_0, y3)))) := by
  refine Eq.trans ?_ (R.icong (fun h0 => (R.icong (fun h1 => rfl) (fun h1 => (R.idropF (p := x0 = 0) (z := none) h1 rfl)))) (fun h0 => rfl))
  kernel_rfl
set_option maxRecDepth 100000 in
theorem spec_l2Unit.ef (k : Nat) (a0 : Int) : R.start Tryz.prog xhn spec_l2Unit.O 0 Tryz.f75 spec_l2Unit.fh k [.int .i64 a0] [] = (spec_l2Unit.x0 k a0 (wr64 (a0 * a0)) 0 a0 ([] : List Int)) := by kernel_rfl
theorem spec_l2Unit.link : ∀ k, (∀ (x0 : Int) (x9 : Int) (x10 : Int) (y1_0 : Int) (y3 : List Int), spec_l2Unit.x0 k x0 x9 x10 y1_0 y3 = (spec_l2Unit.l0 k x0 x9 x10 y1_0 y3).map (spec_l2Unit.en))
  | 0 => fun _ _ _ _ _ => by simp only [spec_l2Unit.l0, R.map_none]; rfl
  | k + 1 => by
    have ih0 := spec_l2Unit.link k
    · intro x0 x9 x10 y1_0 y3
      rw [spec_l2Unit.e0]
      simp only [spec_l2Unit.l0, R.map_ite, R.map_bind, R.map_none, R.map_some, R.wr64_eq, ← ih0]
theorem spec_l2Unit.sf (k : Nat) (a0 : Int) : R.start Tryz.prog xhn spec_l2Unit.O 0 Tryz.f75 spec_l2Unit.fh k [.int .i64 a0] [] = (spec_l2Unit.f k a0).map (spec_l2Unit.en) := by
  have ih0 := spec_l2Unit.link k
  rw [spec_l2Unit.ef]
  simp only [spec_l2Unit.f, R.map_ite, R.map_bind, R.map_none, R.map_some, R.wr64_eq, ← ih0]
theorem spec_l2Unit.ok (k : Nat) : spec_l2Unit.tw.Ok Tryz.prog k := by
  intro md hmd a r h
  refine fn_ok (H := xhn) (fh := spec_l2Unit.fh) (O := spec_l2Unit.O) (k := k) Tryz.func75 (by kernel_rfl) (by kernel_rfl) (fun j _ => noO_sound) (by kernel_rfl) (m := 0) rfl ?_
  refine (spec_l2Unit.sf k a).trans ?_
  exact congrArg (Option.map _) h
mutual
def spec_l3Matrix.l0 : Nat → ByteArray → Int → Int → Int → (List Int) → (List Int) → (List Stp) → Int → (List Int) → Option (Int × (List Int))
  | 0, _, _, _, _, _, _, _, _, _ => none
  | k + 1, x1, x15, x16, y0_0, y0_1, y0_2, y0_3, y2_0, y4 => (if x16 < x15 then (if y4.length < 17592186044416 then (spec_l3Matrix.l0 k x1 x15 (wrap64 (x16 + 1)) y0_0 y0_1 y0_2 y0_3 y2_0 (y4 ++ [1000000])) else none) else (spec_l3Matrix.l1 k x1 y0_3 (y0_3.length : Int) 0 y0_0 y0_1 y0_2 y0_3 y2_0 y4))
def spec_l3Matrix.l1 : Nat → ByteArray → (List Stp) → Int → Int → Int → (List Int) → (List Int) → (List Stp) → Int → (List Int) → Option (Int × (List Int))
  | 0, _, _, _, _, _, _, _, _, _, _ => none
  | k + 1, x1, x25, x26, x27, y0_0, y0_1, y0_2, y0_3, y2_0, y4 => (if x27 < x26 then (if 0 ≤ x27 then (if x27 < (x25.length : Int) then (if (rdT x25 x27).f1.toList = x1.toList then (if 0 ≤ (wrap64 ((wrap64 ((rdT x25 x27).f0 * y0_0)) + (rdT x25 x27).f2)) then (if (wrap64 ((wrap64 ((rdT x25 x27).f0 * y0_0)) + (rdT x25 x27).f2)) < (y4.length : Int) then (spec_l3Matrix.l1 k x1 x25 x26 (wrap64 (x27 + 1)) y0_0 y0_1 y0_2 y0_3 y2_0 (y4.set (wrap64 ((wrap64 ((rdT x25 x27).f0 * y0_0)) + (rdT x25 x27).f2)).toNat (rdT x25 x27).f3)) else none) else none) else (spec_l3Matrix.l1 k x1 x25 x26 (wrap64 (x27 + 1)) y0_0 y0_1 y0_2 y0_3 y2_0 y4)) else none) else none) else (some (y2_0, y4)))
end
def spec_l3Matrix.f (k : Nat) (a0_0 : Int) (l0_1 : List Int) (l0_2 : List Int) (l0_3 : List Stp) (a1 : ByteArray) : Option (Int × (List Int)) := (spec_l3Matrix.l0 k a1 (wrap64 (a0_0 * a0_0)) 0 a0_0 l0_1 l0_2 l0_3 a0_0 ([] : List Int))
def spec_l3Matrix.en (r : Int × (List Int)) : Res := (.agg [.int .i64 r.1, .sl 0 0], [.arr 3 0 (.I .i64 r.2) false])
def spec_l3Matrix.dec : List AV → List R.Obj → Option (Int × (List Int) × (List Int) × (List Stp) × ByteArray)
  | [.agg [.int .i64 a0_0, .imm (.I .i64 l0_1), .imm (.I .i64 l0_2), .imm (.T l0_3)], .str a1], [] => some (a0_0, l0_1, l0_2, l0_3, a1)
  | _, _ => none
def spec_l3Matrix.tw : Tw := ⟨76, Int × (List Int) × (List Int) × (List Stp) × ByteArray, Int × (List Int), spec_l3Matrix.dec, fun a => [.agg [.int .i64 a.1, .imm (.I .i64 a.2.1), .imm (.I .i64 a.2.2.1), .imm (.T a.2.2.2.1)], .str a.2.2.2.2], fun a => [], fun k a => spec_l3Matrix.f k a.1 a.2.1 a.2.2.1 a.2.2.2.1 a.2.2.2.2, fun a r => spec_l3Matrix.en r, true⟩
theorem spec_l3Matrix.dok : spec_l3Matrix.tw.DecOk := by
  intro args hc a h
  have h : spec_l3Matrix.dec args hc = some a := h
  unfold spec_l3Matrix.dec at h
  split at h
  · cases h; exact ⟨rfl, rfl⟩
  · cases h
noncomputable def spec_l3Matrix.O (k : Nat) : Oracle := noO
def spec_l3Matrix.fh : FH := ⟨fun i => match i with | 3 => some [(1, 0), (2, 0), (4, 0), (5, 0), (15, 0), (16, 0)] | 7 => some [(1, 0), (2, 0), (4, 0), (5, 0), (25, 0), (26, 0), (27, 0)] | _ => none, [(true, 3)], false⟩
noncomputable def spec_l3Matrix.x0 (k : Nat) (x1 : ByteArray) (x15 : Int) (x16 : Int) (y0_0 : Int) (y0_1 : List Int) (y0_2 : List Int) (y0_3 : List Stp) (y2_0 : Int) (y4 : List Int) : Option Res := R.exec Tryz.prog xhn spec_l3Matrix.O 0 Tryz.f76 spec_l3Matrix.fh k (R.point Tryz.f76 3) ⟨[(1, .str x1), (2, .ptr 0 0), (4, .ptr 1 0), (5, .ptr 2 0), (15, .int .i64 x15), (16, .int .i64 x16)], [(0, .box false [.int .i64 y0_0, .imm (.I .i64 y0_1), .imm (.I .i64 y0_2), .imm (.T y0_3)]), (1, .box false [.int .i64 0, .sl 3 0]), (2, .box false [.int .i64 y2_0, .sl 4 0]), (3, .arr 3 0 (.I .i64 ([] : List Int)) false), (4, .arr 3 0 (.I .i64 y4) false)], 7⟩
noncomputable def spec_l3Matrix.x1 (k : Nat) (x1 : ByteArray) (x25 : List Stp) (x26 : Int) (x27 : Int) (y0_0 : Int) (y0_1 : List Int) (y0_2 : List Int) (y0_3 : List Stp) (y2_0 : Int) (y4 : List Int) : Option Res := R.exec Tryz.prog xhn spec_l3Matrix.O 0 Tryz.f76 spec_l3Matrix.fh k (R.point Tryz.f76 7) ⟨[(1, .str x1), (2, .ptr 0 0), (4, .ptr 1 0), (5, .ptr 2 0), (25, .imm (.T x25)), (26, .int .i64 x26), (27, .int .i64 x27)], [(0, .box false [.int .i64 y0_0, .imm (.I .i64 y0_1), .imm (.I .i64 y0_2), .imm (.T y0_3)]), (1, .box false [.int .i64 0, .sl 3 0]), (2, .box false [.int .i64 y2_0, .sl 4 0]), (3, .arr 3 0 (.I .i64 ([] : List Int)) false), (4, .arr 3 0 (.I .i64 y4) false)], 7⟩
set_option maxRecDepth 100000 in
theorem spec_l3Matrix.e0 (k : Nat) (x1 : ByteArray) (x15 : Int) (x16 : Int) (y0_0 : Int) (y0_1 : List Int) (y0_2 : List Int) (y0_3 : List Stp) (y2_0 : Int) (y4 : List Int) : spec_l3Matrix.x0 (k + 1) x1 x15 x16 y0_0 y0_1 y0_2 y0_3 y2_0 y4 = (if x16 < x15 then (if y4.length < 17592186044416 then (spec_l3Matrix.x0 k x1 x15 (wr64 (x16 + 1)) y0_0 y0_1 y0_2 y0_3 y2_0 (y4 ++ [1000000])) else none) else (spec_l3Matrix.x1 k x1 y0_3 (y0_3.length : Int) 0 y0_0 y0_1 y0_2 y0_3 y2_0 y4)) := by kernel_rfl
set_option maxRecDepth 100000 in
theorem spec_l3Matrix.e1 (k : Nat) (x1 : ByteArray) (x25 : List Stp) (x26 : Int) (x27 : Int) (y0_0 : Int) (y0_1 : List Int) (y0_2 : List Int) (y0_3 : List Stp) (y2_0 : Int) (y4 : List Int) : spec_l3Matrix.x1 (k + 1) x1 x25 x26 x27 y0_0 y0_1 y0_2 y0_3 y2_0 y4 = (if x27 < x26 then (if 0 ≤ x27 then (if x27 < (x25.length : Int) then (if (rdT x25 x27).f1.toList = x1.toList then (if 0 ≤ (wr64 ((wr64 ((rdT x25 x27).f0 * y0_0)) + (rdT x25 x27).f2)) then (if (wr64 ((wr64 ((rdT x25 x27).f0 * y0_0)) + (rdT x25 x27).f2)) < (y4.length : Int) then (spec_l3Matrix.x1 k x1 x25 x26 (wr64 (x27 + 1)) y0_0 y0_1 y0_2 y0_3 y2_0 (y4.set (wr64 ((wr64 ((rdT x25 x27).f0 * y0_0)) + (rdT x25 x27).f2)).toNat (rdT x25 x27).f3)) else none) else none) else (spec_l3Matrix.x1 k x1 x25 x26 (wr64 (x27 + 1)) y0_0 y0_1 y0_2 y0_3 y2_0 y4)) else none) else none) else (some (spec_l3Matrix.en (y2_0, y4)))) := by kernel_rfl
set_option maxRecDepth 100000 in
theorem spec_l3Matrix.ef (k : Nat) (a0_0 : Int) (l0_1 : List Int) (l0_2 : List Int) (l0_3 : List Stp) (a1 : ByteArray) : R.start Tryz.prog xhn spec_l3Matrix.O 0 Tryz.f76 spec_l3Matrix.fh k [.agg [.int .i64 a0_0, .imm (.I .i64 l0_1), .imm (.I .i64 l0_2), .imm (.T l0_3)], .str a1] [] = (spec_l3Matrix.x0 k a1 (wr64 (a0_0 * a0_0)) 0 a0_0 l0_1 l0_2 l0_3 a0_0 ([] : List Int)) := by kernel_rfl
theorem spec_l3Matrix.link : ∀ k, (∀ (x1 : ByteArray) (x15 : Int) (x16 : Int) (y0_0 : Int) (y0_1 : List Int) (y0_2 : List Int) (y0_3 : List Stp) (y2_0 : Int) (y4 : List Int), spec_l3Matrix.x0 k x1 x15 x16 y0_0 y0_1 y0_2 y0_3 y2_0 y4 = (spec_l3Matrix.l0 k x1 x15 x16 y0_0 y0_1 y0_2 y0_3 y2_0 y4).map (spec_l3Matrix.en)) ∧ (∀ (x1 : ByteArray) (x25 : List Stp) (x26 : Int) (x27 : Int) (y0_0 : Int) (y0_1 : List Int) (y0_2 : List Int) (y0_3 : List Stp) (y2_0 : Int) (y4 : List Int), spec_l3Matrix.x1 k x1 x25 x26 x27 y0_0 y0_1 y0_2 y0_3 y2_0 y4 = (spec_l3Matrix.l1 k x1 x25 x26 x27 y0_0 y0_1 y0_2 y0_3 y2_0 y4).map (spec_l3Matrix.en))
  | 0 => ⟨fun _ _ _ _ _ _ _ _ _ => by simp only [spec_l3Matrix.l0, R.map_none]; rfl, fun _ _ _ _ _ _ _ _ _ _ => by simp only [spec_l3Matrix.l1, R.map_none]; rfl⟩
  | k + 1 => by
    obtain ⟨ih0, ih1⟩ := spec_l3Matrix.link k
    refine ⟨?_, ?_⟩
    · intro x1 x15 x16 y0_0 y0_1 y0_2 y0_3 y2_0 y4
      rw [spec_l3Matrix.e0]
      simp only [spec_l3Matrix.l0, R.map_ite, R.map_bind, R.map_none, R.map_some, R.wr64_eq, ← ih0, ← ih1]
    · intro x1 x25 x26 x27 y0_0 y0_1 y0_2 y0_3 y2_0 y4
      rw [spec_l3Matrix.e1]
      simp only [spec_l3Matrix.l1, R.map_ite, R.map_bind, R.map_none, R.map_some, R.wr64_eq, ← ih0, ← ih1]
theorem spec_l3Matrix.sf (k : Nat) (a0_0 : Int) (l0_1 : List Int) (l0_2 : List Int) (l0_3 : List Stp) (a1 : ByteArray) : R.start Tryz.prog xhn spec_l3Matrix.O 0 Tryz.f76 spec_l3Matrix.fh k [.agg [.int .i64 a0_0, .imm (.I .i64 l0_1), .imm (.I .i64 l0_2), .imm (.T l0_3)], .str a1] [] = (spec_l3Matrix.f k a0_0 l0_1 l0_2 l0_3 a1).map (spec_l3Matrix.en) := by
  obtain ⟨ih0, ih1⟩ := spec_l3Matrix.link k
  rw [spec_l3Matrix.ef]
  simp only [spec_l3Matrix.f, R.map_ite, R.map_bind, R.map_none, R.map_some, R.wr64_eq, ← ih0, ← ih1]
theorem spec_l3Matrix.ok (k : Nat) : spec_l3Matrix.tw.Ok Tryz.prog k := by
  intro md hmd a r h
  refine fn_ok (H := xhn) (fh := spec_l3Matrix.fh) (O := spec_l3Matrix.O) (k := k) Tryz.func76 (by kernel_rfl) (by kernel_rfl) (fun j _ => noO_sound) (by kernel_rfl) (m := 0) rfl ?_
  refine (spec_l3Matrix.sf k a.1 a.2.1 a.2.2.1 a.2.2.2.1 a.2.2.2.2).trans ?_
  exact congrArg (Option.map _) h
def spec_l1Add.f (a0 : Int) (a1 : Int) : Option (Int) := (some (mn (wrap64 (a0 + a1)) 1000000))
def spec_l1Add.en (r : Int) : Res := (.int .i64 r, [])
def spec_l1Add.dec : List AV → List R.Obj → Option (Int × Int)
  | [.int .i64 a0, .int .i64 a1], [] => some (a0, a1)
  | _, _ => none
def spec_l1Add.tw : Tw := ⟨101, Int × Int, Int, spec_l1Add.dec, fun a => [.int .i64 a.1, .int .i64 a.2], fun a => [], fun k a => spec_l1Add.f a.1 a.2, fun a r => spec_l1Add.en r, true⟩
theorem spec_l1Add.dok : spec_l1Add.tw.DecOk := by
  intro args hc a h
  have h : spec_l1Add.dec args hc = some a := h
  unfold spec_l1Add.dec at h
  split at h
  · cases h; exact ⟨rfl, rfl⟩
  · cases h
noncomputable def spec_l1Add.O (k : Nat) : Oracle := noO
def spec_l1Add.fh : FH := ⟨fun i => match i with | _ => none, [], false⟩
set_option maxRecDepth 100000 in
theorem spec_l1Add.ef (k : Nat) (a0 : Int) (a1 : Int) : R.start Tryz.prog xhn spec_l1Add.O 0 Tryz.f101 spec_l1Add.fh k [.int .i64 a0, .int .i64 a1] [] = (some (spec_l1Add.en (mn (wr64 (a0 + a1)) 1000000))) := by kernel_rfl
theorem spec_l1Add.sf (k : Nat) (a0 : Int) (a1 : Int) : R.start Tryz.prog xhn spec_l1Add.O 0 Tryz.f101 spec_l1Add.fh k [.int .i64 a0, .int .i64 a1] [] = (spec_l1Add.f a0 a1).map (spec_l1Add.en) := by
  rw [spec_l1Add.ef]
  simp only [spec_l1Add.f, R.map_ite, R.map_bind, R.map_none, R.map_some, R.wr64_eq]
theorem spec_l1Add.ok (k : Nat) : spec_l1Add.tw.Ok Tryz.prog k := by
  intro md hmd a r h
  refine fn_ok (H := xhn) (fh := spec_l1Add.fh) (O := spec_l1Add.O) (k := k) Tryz.func101 (by kernel_rfl) (by kernel_rfl) (fun j _ => noO_sound) (by kernel_rfl) (m := 0) rfl ?_
  refine (spec_l1Add.sf k a.1 a.2).trans ?_
  exact congrArg (Option.map _) h
mutual
def spec_l2Mul.l0 : Nat → Int → Int → Int → (List Int) → Int → (List Int) → Int → (List Int) → Option (Int × (List Int))
  | 0, _, _, _, _, _, _, _, _ => none
  | k + 1, x18, x19, y0_0, y0_1, y1_0, y1_1, y3_0, y5 => (if x19 < x18 then (if y0_0 = 0 then none else (spec_l2Mul.l1 k (wrap64 (x19.tdiv y0_0)) (x19.tmod y0_0) 1000000 x18 x19 y0_0 0 y0_0 y0_1 y1_0 y1_1 y3_0 y5)) else (some (y3_0, y5)))
def spec_l2Mul.l1 : Nat → Int → Int → Int → Int → Int → Int → Int → Int → (List Int) → Int → (List Int) → Int → (List Int) → Option (Int × (List Int))
  | 0, _, _, _, _, _, _, _, _, _, _, _, _, _ => none
  | k + 1, x7, x8, x9, x18, x19, x31, x32, y0_0, y0_1, y1_0, y1_1, y3_0, y5 => (if x32 < x31 then (if 0 ≤ (wrap64 ((wrap64 (x7 * y0_0)) + x32)) then (if (wrap64 ((wrap64 (x7 * y0_0)) + x32)) < (y0_1.length : Int) then (if 0 ≤ (wrap64 ((wrap64 (x32 * y0_0)) + x8)) then (if (wrap64 ((wrap64 (x32 * y0_0)) + x8)) < (y1_1.length : Int) then ((spec_l1Add.f (rdI y0_1 (wrap64 ((wrap64 (x7 * y0_0)) + x32))) (rdI y1_1 (wrap64 ((wrap64 (x32 * y0_0)) + x8)))).bind fun t1 => (spec_l2Mul.l1 k x7 x8 (mn x9 t1) x18 x19 x31 (wrap64 (x32 + 1)) y0_0 y0_1 y1_0 y1_1 y3_0 y5)) else none) else none) else none) else none) else (if y5.length < 17592186044416 then (spec_l2Mul.l0 k x18 (wrap64 (x19 + 1)) y0_0 y0_1 y1_0 y1_1 y3_0 (y5 ++ [x9])) else none))
end
def spec_l2Mul.f (k : Nat) (a0_0 : Int) (l0_1 : List Int) (a1_0 : Int) (l1_1 : List Int) : Option (Int × (List Int)) := (spec_l2Mul.l0 k (wrap64 (a0_0 * a0_0)) 0 a0_0 l0_1 a1_0 l1_1 a0_0 ([] : List Int))
def spec_l2Mul.en (r : Int × (List Int)) : Res := (.agg [.int .i64 r.1, .sl 0 0], [.arr 3 0 (.I .i64 r.2) false])
def spec_l2Mul.dec : List AV → List R.Obj → Option (Int × (List Int) × Int × (List Int))
  | [.agg [.int .i64 a0_0, .imm (.I .i64 l0_1)], .agg [.int .i64 a1_0, .imm (.I .i64 l1_1)]], [] => some (a0_0, l0_1, a1_0, l1_1)
  | _, _ => none
def spec_l2Mul.tw : Tw := ⟨77, Int × (List Int) × Int × (List Int), Int × (List Int), spec_l2Mul.dec, fun a => [.agg [.int .i64 a.1, .imm (.I .i64 a.2.1)], .agg [.int .i64 a.2.2.1, .imm (.I .i64 a.2.2.2)]], fun a => [], fun k a => spec_l2Mul.f k a.1 a.2.1 a.2.2.1 a.2.2.2, fun a r => spec_l2Mul.en r, true⟩
theorem spec_l2Mul.dok : spec_l2Mul.tw.DecOk := by
  intro args hc a h
  have h : spec_l2Mul.dec args hc = some a := h
  unfold spec_l2Mul.dec at h
  split at h
  · cases h; exact ⟨rfl, rfl⟩
  · cases h
noncomputable def spec_l2Mul.O (k : Nat) : Oracle := (spec_l1Add.tw.orc k noO)
def spec_l2Mul.fh : FH := ⟨fun i => match i with | 3 => some [(2, 0), (3, 0), (4, 0), (5, 0), (18, 0), (19, 0)] | 8 => some [(2, 0), (3, 0), (4, 0), (5, 0), (7, 0), (8, 0), (9, 0), (18, 0), (19, 0), (31, 0), (32, 0)] | _ => none, [(true, 3)], false⟩
noncomputable def spec_l2Mul.x0 (k : Nat) (x18 : Int) (x19 : Int) (y0_0 : Int) (y0_1 : List Int) (y1_0 : Int) (y1_1 : List Int) (y3_0 : Int) (y5 : List Int) : Option Res := R.exec Tryz.prog xhn spec_l2Mul.O 0 Tryz.f77 spec_l2Mul.fh k (R.point Tryz.f77 3) ⟨[(2, .ptr 0 0), (3, .ptr 1 0), (4, .ptr 2 0), (5, .ptr 3 0), (18, .int .i64 x18), (19, .int .i64 x19)], [(0, .box false [.int .i64 y0_0, .imm (.I .i64 y0_1)]), (1, .box false [.int .i64 y1_0, .imm (.I .i64 y1_1)]), (2, .box false [.int .i64 0, .sl 4 0]), (3, .box false [.int .i64 y3_0, .sl 5 0]), (4, .arr 3 0 (.I .i64 ([] : List Int)) false), (5, .arr 3 0 (.I .i64 y5) false)], 8⟩
noncomputable def spec_l2Mul.x1 (k : Nat) (x7 : Int) (x8 : Int) (x9 : Int) (x18 : Int) (x19 : Int) (x31 : Int) (x32 : Int) (y0_0 : Int) (y0_1 : List Int) (y1_0 : Int) (y1_1 : List Int) (y3_0 : Int) (y5 : List Int) : Option Res := R.exec Tryz.prog xhn spec_l2Mul.O 0 Tryz.f77 spec_l2Mul.fh k (R.point Tryz.f77 8) ⟨[(2, .ptr 0 0), (3, .ptr 1 0), (4, .ptr 2 0), (5, .ptr 3 0), (7, .int .i64 x7), (8, .int .i64 x8), (9, .int .i64 x9), (18, .int .i64 x18), (19, .int .i64 x19), (31, .int .i64 x31), (32, .int .i64 x32)], [(0, .box false [.int .i64 y0_0, .imm (.I .i64 y0_1)]), (1, .box false [.int .i64 y1_0, .imm (.I .i64 y1_1)]), (2, .box false [.int .i64 0, .sl 4 0]), (3, .box false [.int .i64 y3_0, .sl 5 0]), (4, .arr 3 0 (.I .i64 ([] : List Int)) false), (5, .arr 3 0 (.I .i64 y5) false)], 8⟩
set_option maxRecDepth 100000 in
theorem spec_l2Mul.e0 (k : Nat) (x18 : Int) (x19 : Int) (y0_0 : Int) (y0_1 : List Int) (y1_0 : Int) (y1_1 : List Int) (y3_0 : Int) (y5 : List Int) : spec_l2Mul.x0 (k + 1) x18 x19 y0_0 y0_1 y1_0 y1_1 y3_0 y5 = (if x19 < x18 then (if y0_0 = 0 then none else (spec_l2Mul.x1 k (wr64 (x19.tdiv y0_0)) (x19.tmod y0_0) 1000000 x18 x19 y0_0 0 y0_0 y0_1 y1_0 y1_1 y3_0 y5)) else (some (spec_l2Mul.en (y3_0, y5)))) := by
  refine Eq.trans ?_ (R.icong (fun h0 => (R.icong (fun h1 => rfl) (fun h1 => (R.idropF (p := y0_0 = 0) (z := none) h1 rfl)))) (fun h0 => rfl))
  kernel_rfl
set_option maxRecDepth 100000 in
theorem spec_l2Mul.e1 (k : Nat) (x7 : Int) (x8 : Int) (x9 : Int) (x18 : Int) (x19 : Int) (x31 : Int) (x32 : Int) (y0_0 : Int) (y0_1 : List Int) (y1_0 : Int) (y1_1 : List Int) (y3_0 : Int) (y5 : List Int) : spec_l2Mul.x1 (k + 1) x7 x8 x9 x18 x19 x31 x32 y0_0 y0_1 y1_0 y1_1 y3_0 y5 = (if x32 < x31 then (if 0 ≤ (wr64 ((wr64 (x7 * y0_0)) + x32)) then (if (wr64 ((wr64 (x7 * y0_0)) + x32)) < (y0_1.length : Int) then (if 0 ≤ (wr64 ((wr64 (x32 * y0_0)) + x8)) then (if (wr64 ((wr64 (x32 * y0_0)) + x8)) < (y1_1.length : Int) then ((spec_l1Add.f (rdI y0_1 (wr64 ((wr64 (x7 * y0_0)) + x32))) (rdI y1_1 (wr64 ((wr64 (x32 * y0_0)) + x8)))).bind fun t1 => (spec_l2Mul.x1 k x7 x8 (mn x9 t1) x18 x19 x31 (wr64 (x32 + 1)) y0_0 y0_1 y1_0 y1_1 y3_0 y5)) else none) else none) else none) else none) else (if y5.length < 17592186044416 then (spec_l2Mul.x0 k x18 (wr64 (x19 + 1)) y0_0 y0_1 y1_0 y1_1 y3_0 (y5 ++ [x9])) else none)) := by kernel_rfl
set_option maxRecDepth 100000 in
theorem spec_l2Mul.ef (k : Nat) (a0_0 : Int) (l0_1 : List Int) (a1_0 : Int) (l1_1 : List Int) : R.start Tryz.prog xhn spec_l2Mul.O 0 Tryz.f77 spec_l2Mul.fh k [.agg [.int .i64 a0_0, .imm (.I .i64 l0_1)], .agg [.int .i64 a1_0, .imm (.I .i64 l1_1)]] [] = (spec_l2Mul.x0 k (wr64 (a0_0 * a0_0)) 0 a0_0 l0_1 a1_0 l1_1 a0_0 ([] : List Int)) := by kernel_rfl
theorem spec_l2Mul.link : ∀ k, (∀ (x18 : Int) (x19 : Int) (y0_0 : Int) (y0_1 : List Int) (y1_0 : Int) (y1_1 : List Int) (y3_0 : Int) (y5 : List Int), spec_l2Mul.x0 k x18 x19 y0_0 y0_1 y1_0 y1_1 y3_0 y5 = (spec_l2Mul.l0 k x18 x19 y0_0 y0_1 y1_0 y1_1 y3_0 y5).map (spec_l2Mul.en)) ∧ (∀ (x7 : Int) (x8 : Int) (x9 : Int) (x18 : Int) (x19 : Int) (x31 : Int) (x32 : Int) (y0_0 : Int) (y0_1 : List Int) (y1_0 : Int) (y1_1 : List Int) (y3_0 : Int) (y5 : List Int), spec_l2Mul.x1 k x7 x8 x9 x18 x19 x31 x32 y0_0 y0_1 y1_0 y1_1 y3_0 y5 = (spec_l2Mul.l1 k x7 x8 x9 x18 x19 x31 x32 y0_0 y0_1 y1_0 y1_1 y3_0 y5).map (spec_l2Mul.en))
  | 0 => ⟨fun _ _ _ _ _ _ _ _ => by simp only [spec_l2Mul.l0, R.map_none]; rfl, fun _ _ _ _ _ _ _ _ _ _ _ _ _ => by simp only [spec_l2Mul.l1, R.map_none]; rfl⟩
  | k + 1 => by
    obtain ⟨ih0, ih1⟩ := spec_l2Mul.link k
    refine ⟨?_, ?_⟩
    · intro x18 x19 y0_0 y0_1 y1_0 y1_1 y3_0 y5
      rw [spec_l2Mul.e0]
      simp only [spec_l2Mul.l0, R.map_ite, R.map_bind, R.map_none, R.map_some, R.wr64_eq, ← ih0, ← ih1]
    · intro x7 x8 x9 x18 x19 x31 x32 y0_0 y0_1 y1_0 y1_1 y3_0 y5
      rw [spec_l2Mul.e1]
      simp only [spec_l2Mul.l1, R.map_ite, R.map_bind, R.map_none, R.map_some, R.wr64_eq, ← ih0, ← ih1]
theorem spec_l2Mul.sf (k : Nat) (a0_0 : Int) (l0_1 : List Int) (a1_0 : Int) (l1_1 : List Int) : R.start Tryz.prog xhn spec_l2Mul.O 0 Tryz.f77 spec_l2Mul.fh k [.agg [.int .i64 a0_0, .imm (.I .i64 l0_1)], .agg [.int .i64 a1_0, .imm (.I .i64 l1_1)]] [] = (spec_l2Mul.f k a0_0 l0_1 a1_0 l1_1).map (spec_l2Mul.en) := by
  obtain ⟨ih0, ih1⟩ := spec_l2Mul.link k
  rw [spec_l2Mul.ef]
  simp only [spec_l2Mul.f, R.map_ite, R.map_bind, R.map_none, R.map_some, R.wr64_eq, ← ih0, ← ih1]
theorem spec_l2Mul.ok (k : Nat) : spec_l2Mul.tw.Ok Tryz.prog k := by
  intro md hmd a r h
  refine fn_ok (H := xhn) (fh := spec_l2Mul.fh) (O := spec_l2Mul.O) (k := k) Tryz.func77 (by kernel_rfl) (by kernel_rfl) (fun j _ => (Tw.orc_sound spec_l1Add.dok (spec_l1Add.ok j) (fun _ => rfl) noO_sound)) (by kernel_rfl) (m := 0) rfl ?_
  refine (spec_l2Mul.sf k a.1 a.2.1 a.2.2.1 a.2.2.2).trans ?_
  exact congrArg (Option.map _) h
def spec_l4Matrix.l0 : Nat → ByteArray → Int → Int → Int → (List Int) → Int → (List Int) → Int → (List Int) → Option (Int × (List Int))
  | 0, _, _, _, _, _, _, _, _, _ => none
  | k + 1, x1, x17, x18, y1_0, y5, y2_0, y6, y3_0, y7 => (if x18 < x17 then (if 0 ≤ x18 then (if x18 < (x1.size : Int) then (if (btI x1 x18) = 97 then ((spec_l2Mul.f k y1_0 y5 y2_0 y6).bind fun t4 => (spec_l4Matrix.l0 k x1 x17 (wrap64 (x18 + 1)) t4.1 t4.2 y2_0 y6 y3_0 y7)) else ((spec_l2Mul.f k y1_0 y5 y3_0 y7).bind fun t5 => (spec_l4Matrix.l0 k x1 x17 (wrap64 (x18 + 1)) t5.1 t5.2 y2_0 y6 y3_0 y7))) else none) else none) else (some (y1_0, y5)))
def spec_l4Matrix.f (k : Nat) (a0_0 : Int) (l0_1 : List Int) (l0_2 : List Int) (l0_3 : List Stp) (a1 : ByteArray) : Option (Int × (List Int)) := ((spec_l2Unit.f k a0_0).bind fun t1 => ((spec_l3Matrix.f k a0_0 l0_1 l0_2 l0_3 (⟨#[97]⟩ : ByteArray)).bind fun t2 => ((spec_l3Matrix.f k a0_0 l0_1 l0_2 l0_3 (⟨#[98]⟩ : ByteArray)).bind fun t3 => (spec_l4Matrix.l0 k a1 (a1.size : Int) 0 t1.1 t1.2 t2.1 t2.2 t3.1 t3.2))))
def spec_l4Matrix.en (r : Int × (List Int)) : Res := (.agg [.int .i64 r.1, .sl 0 0], [.arr 3 0 (.I .i64 r.2) false])
def spec_l4Matrix.dec : List AV → List R.Obj → Option (Int × (List Int) × (List Int) × (List Stp) × ByteArray)
  | [.agg [.int .i64 a0_0, .imm (.I .i64 l0_1), .imm (.I .i64 l0_2), .imm (.T l0_3)], .str a1], [] => some (a0_0, l0_1, l0_2, l0_3, a1)
  | _, _ => none
def spec_l4Matrix.tw : Tw := ⟨39, Int × (List Int) × (List Int) × (List Stp) × ByteArray, Int × (List Int), spec_l4Matrix.dec, fun a => [.agg [.int .i64 a.1, .imm (.I .i64 a.2.1), .imm (.I .i64 a.2.2.1), .imm (.T a.2.2.2.1)], .str a.2.2.2.2], fun a => [], fun k a => spec_l4Matrix.f k a.1 a.2.1 a.2.2.1 a.2.2.2.1 a.2.2.2.2, fun a r => spec_l4Matrix.en r, true⟩
theorem spec_l4Matrix.dok : spec_l4Matrix.tw.DecOk := by
  intro args hc a h
  have h : spec_l4Matrix.dec args hc = some a := h
  unfold spec_l4Matrix.dec at h
  split at h
  · cases h; exact ⟨rfl, rfl⟩
  · cases h
noncomputable def spec_l4Matrix.O (k : Nat) : Oracle := (spec_l2Unit.tw.orc k (spec_l3Matrix.tw.orc k (spec_l2Mul.tw.orc k noO)))
def spec_l4Matrix.fh : FH := ⟨fun i => match i with | 4 => some [(1, 0), (4, 0), (5, 0), (6, 0), (7, 0), (17, 0), (18, 0)] | _ => none, [(true, 3)], false⟩
noncomputable def spec_l4Matrix.x0 (k : Nat) (x1 : ByteArray) (x17 : Int) (x18 : Int) (y1_0 : Int) (y5 : List Int) (y2_0 : Int) (y6 : List Int) (y3_0 : Int) (y7 : List Int) : Option Res := R.exec Tryz.prog xhn spec_l4Matrix.O 0 Tryz.f39 spec_l4Matrix.fh k (R.point Tryz.f39 4) ⟨[(1, .str x1), (4, .ptr 0 0), (5, .ptr 1 0), (6, .ptr 2 0), (7, .ptr 3 0), (17, .int .i64 x17), (18, .int .i64 x18)], [(0, .box false [.int .i64 0, .sl 4 0]), (1, .box false [.int .i64 y1_0, .sl 5 0]), (2, .box false [.int .i64 y2_0, .sl 6 0]), (3, .box false [.int .i64 y3_0, .sl 7 0]), (4, .arr 3 0 (.I .i64 ([] : List Int)) false), (5, .arr 3 0 (.I .i64 y5) false), (6, .arr 3 0 (.I .i64 y6) false), (7, .arr 3 0 (.I .i64 y7) false)], 10⟩
set_option maxRecDepth 100000 in
theorem spec_l4Matrix.e0 (k : Nat) (x1 : ByteArray) (x17 : Int) (x18 : Int) (y1_0 : Int) (y5 : List Int) (y2_0 : Int) (y6 : List Int) (y3_0 : Int) (y7 : List Int) : spec_l4Matrix.x0 (k + 1) x1 x17 x18 y1_0 y5 y2_0 y6 y3_0 y7 = (if x18 < x17 then (if 0 ≤ x18 then (if x18 < (x1.size : Int) then (if (btI x1 x18) = 97 then ((spec_l2Mul.f k y1_0 y5 y2_0 y6).bind fun t4 => (spec_l4Matrix.x0 k x1 x17 (wr64 (x18 + 1)) t4.1 t4.2 y2_0 y6 y3_0 y7)) else ((spec_l2Mul.f k y1_0 y5 y3_0 y7).bind fun t5 => (spec_l4Matrix.x0 k x1 x17 (wr64 (x18 + 1)) t5.1 t5.2 y2_0 y6 y3_0 y7))) else none) else none) else (some (spec_l4Matrix.en (y1_0, y5)))) := by kernel_rfl
set_option maxRecDepth 100000 in
theorem spec_l4Matrix.ef (k : Nat) (a0_0 : Int) (l0_1 : List Int) (l0_2 : List Int) (l0_3 : List Stp) (a1 : ByteArray) : R.start Tryz.prog xhn spec_l4Matrix.O 0 Tryz.f39 spec_l4Matrix.fh k [.agg [.int .i64 a0_0, .imm (.I .i64 l0_1), .imm (.I .i64 l0_2), .imm (.T l0_3)], .str a1] [] = ((spec_l2Unit.f k a0_0).bind fun t1 => ((spec_l3Matrix.f k a0_0 l0_1 l0_2 l0_3 (⟨#[97]⟩ : ByteArray)).bind fun t2 => ((spec_l3Matrix.f k a0_0 l0_1 l0_2 l0_3 (⟨#[98]⟩ : ByteArray)).bind fun t3 => (spec_l4Matrix.x0 k a1 (a1.size : Int) 0 t1.1 t1.2 t2.1 t2.2 t3.1 t3.2)))) := by kernel_rfl
theorem spec_l4Matrix.link : ∀ k, (∀ (x1 : ByteArray) (x17 : Int) (x18 : Int) (y1_0 : Int) (y5 : List Int) (y2_0 : Int) (y6 : List Int) (y3_0 : Int) (y7 : List Int), spec_l4Matrix.x0 k x1 x17 x18 y1_0 y5 y2_0 y6 y3_0 y7 = (spec_l4Matrix.l0 k x1 x17 x18 y1_0 y5 y2_0 y6 y3_0 y7).map (spec_l4Matrix.en))
  | 0 => fun _ _ _ _ _ _ _ _ _ => by simp only [spec_l4Matrix.l0, R.map_none]; rfl
  | k + 1 => by
    have ih0 := spec_l4Matrix.link k
    · intro x1 x17 x18 y1_0 y5 y2_0 y6 y3_0 y7
      rw [spec_l4Matrix.e0]
      simp only [spec_l4Matrix.l0, R.map_ite, R.map_bind, R.map_none, R.map_some, R.wr64_eq, ← ih0]
theorem spec_l4Matrix.sf (k : Nat) (a0_0 : Int) (l0_1 : List Int) (l0_2 : List Int) (l0_3 : List Stp) (a1 : ByteArray) : R.start Tryz.prog xhn spec_l4Matrix.O 0 Tryz.f39 spec_l4Matrix.fh k [.agg [.int .i64 a0_0, .imm (.I .i64 l0_1), .imm (.I .i64 l0_2), .imm (.T l0_3)], .str a1] [] = (spec_l4Matrix.f k a0_0 l0_1 l0_2 l0_3 a1).map (spec_l4Matrix.en) := by
  have ih0 := spec_l4Matrix.link k
  rw [spec_l4Matrix.ef]
  simp only [spec_l4Matrix.f, R.map_ite, R.map_bind, R.map_none, R.map_some, R.wr64_eq, ← ih0]
theorem spec_l4Matrix.ok (k : Nat) : spec_l4Matrix.tw.Ok Tryz.prog k := by
  intro md hmd a r h
  refine fn_ok (H := xhn) (fh := spec_l4Matrix.fh) (O := spec_l4Matrix.O) (k := k) Tryz.func39 (by kernel_rfl) (by kernel_rfl) (fun j _ => (Tw.orc_sound spec_l2Unit.dok (spec_l2Unit.ok j) (fun _ => rfl) (Tw.orc_sound spec_l3Matrix.dok (spec_l3Matrix.ok j) (fun _ => rfl) (Tw.orc_sound spec_l2Mul.dok (spec_l2Mul.ok j) (fun _ => rfl) noO_sound)))) (by kernel_rfl) (m := 0) rfl ?_
  refine (spec_l4Matrix.sf k a.1 a.2.1 a.2.2.1 a.2.2.2.1 a.2.2.2.2).trans ?_
  exact congrArg (Option.map _) h
def spec_WordMatrix.f (k : Nat) (a0_0 : Int) (l0_1 : List Int) (l0_2 : List Int) (l0_3 : List Stp) (a1 : ByteArray) : Option (Int × (List Int) × Bool) := ((spec_l4Asked.f k a0_0 l0_1 l0_2 l0_3 a1).bind fun t1 => (if t1 = true then ((spec_l4Matrix.f k a0_0 l0_1 l0_2 l0_3 a1).bind fun t2 => (some (t2.1, t2.2, true))) else (some (0, ([] : List Int), false))))
def spec_WordMatrix.en (r : Int × (List Int) × Bool) : Res := (.tup [.agg [.int .i64 r.1, .sl 0 0], .lit r.2.2], [.arr 3 0 (.I .i64 r.2.1) false])
def spec_WordMatrix.dec : List AV → List R.Obj → Option (Int × (List Int) × (List Int) × (List Stp) × ByteArray)
  | [.agg [.int .i64 a0_0, .imm (.I .i64 l0_1), .imm (.I .i64 l0_2), .imm (.T l0_3)], .str a1], [] => some (a0_0, l0_1, l0_2, l0_3, a1)
  | _, _ => none
def spec_WordMatrix.tw : Tw := ⟨9, Int × (List Int) × (List Int) × (List Stp) × ByteArray, Int × (List Int) × Bool, spec_WordMatrix.dec, fun a => [.agg [.int .i64 a.1, .imm (.I .i64 a.2.1), .imm (.I .i64 a.2.2.1), .imm (.T a.2.2.2.1)], .str a.2.2.2.2], fun a => [], fun k a => spec_WordMatrix.f k a.1 a.2.1 a.2.2.1 a.2.2.2.1 a.2.2.2.2, fun a r => spec_WordMatrix.en r, true⟩
theorem spec_WordMatrix.dok : spec_WordMatrix.tw.DecOk := by
  intro args hc a h
  have h : spec_WordMatrix.dec args hc = some a := h
  unfold spec_WordMatrix.dec at h
  split at h
  · cases h; exact ⟨rfl, rfl⟩
  · cases h
noncomputable def spec_WordMatrix.O (k : Nat) : Oracle := (spec_l4Asked.tw.orc k (spec_l4Matrix.tw.orc k noO))
def spec_WordMatrix.fh : FH := ⟨fun i => match i with | _ => none, [(true, 3)], false⟩
set_option maxRecDepth 100000 in
theorem spec_WordMatrix.ef (k : Nat) (a0_0 : Int) (l0_1 : List Int) (l0_2 : List Int) (l0_3 : List Stp) (a1 : ByteArray) : R.start Tryz.prog xhn spec_WordMatrix.O 0 Tryz.f9 spec_WordMatrix.fh k [.agg [.int .i64 a0_0, .imm (.I .i64 l0_1), .imm (.I .i64 l0_2), .imm (.T l0_3)], .str a1] [] = ((spec_l4Asked.f k a0_0 l0_1 l0_2 l0_3 a1).bind fun t1 => (if t1 = true then ((spec_l4Matrix.f k a0_0 l0_1 l0_2 l0_3 a1).bind fun t2 => (some (spec_WordMatrix.en (t2.1, t2.2, true)))) else (some (spec_WordMatrix.en (0, ([] : List Int), false))))) := by kernel_rfl
theorem spec_WordMatrix.sf (k : Nat) (a0_0 : Int) (l0_1 : List Int) (l0_2 : List Int) (l0_3 : List Stp) (a1 : ByteArray) : R.start Tryz.prog xhn spec_WordMatrix.O 0 Tryz.f9 spec_WordMatrix.fh k [.agg [.int .i64 a0_0, .imm (.I .i64 l0_1), .imm (.I .i64 l0_2), .imm (.T l0_3)], .str a1] [] = (spec_WordMatrix.f k a0_0 l0_1 l0_2 l0_3 a1).map (spec_WordMatrix.en) := by
  rw [spec_WordMatrix.ef]
  simp only [spec_WordMatrix.f, R.map_ite, R.map_bind, R.map_none, R.map_some, R.wr64_eq]
theorem spec_WordMatrix.ok (k : Nat) : spec_WordMatrix.tw.Ok Tryz.prog k := by
  intro md hmd a r h
  refine fn_ok (H := xhn) (fh := spec_WordMatrix.fh) (O := spec_WordMatrix.O) (k := k) Tryz.func9 (by kernel_rfl) (by kernel_rfl) (fun j _ => (Tw.orc_sound spec_l4Asked.dok (spec_l4Asked.ok j) (fun _ => rfl) (Tw.orc_sound spec_l4Matrix.dok (spec_l4Matrix.ok j) (fun _ => rfl) noO_sound))) (by kernel_rfl) (m := 0) rfl ?_
  refine (spec_WordMatrix.sf k a.1 a.2.1 a.2.2.1 a.2.2.2.1 a.2.2.2.2).trans ?_
  exact congrArg (Option.map _) h
def laws_daSame.l0 : Nat → (List Int) → (List Int) → Int → Int → Option (Bool)
  | 0, _, _, _, _ => none
  | k + 1, x0, x1, x10, x11 => (if x11 < x10 then (if 0 ≤ x11 then (if x11 < (x0.length : Int) then (if x11 < (x1.length : Int) then (if (rdI x0 x11) = (rdI x1 x11) then (laws_daSame.l0 k x0 x1 x10 (wrap64 (x11 + 1))) else (some false)) else none) else none) else none) else (some (decide ((x0.length : Int) = (x1.length : Int)))))
def laws_daSame.f (k : Nat) (l0 : List Int) (l1 : List Int) : Option (Bool) := (laws_daSame.l0 k l0 l1 (mn (l0.length : Int) (l1.length : Int)) 0)
def laws_daSame.en (r : Bool) : Res := (.lit r, [])
def laws_daSame.dec : List AV → List R.Obj → Option ((List Int) × (List Int))
  | [.imm (.I .i64 l0), .imm (.I .i64 l1)], [] => some (l0, l1)
  | _, _ => none
def laws_daSame.tw : Tw := ⟨14, (List Int) × (List Int), Bool, laws_daSame.dec, fun a => [.imm (.I .i64 a.1), .imm (.I .i64 a.2)], fun a => [], fun k a => laws_daSame.f k a.1 a.2, fun a r => laws_daSame.en r, true⟩
theorem laws_daSame.dok : laws_daSame.tw.DecOk := by
  intro args hc a h
  have h : laws_daSame.dec args hc = some a := h
  unfold laws_daSame.dec at h
  split at h
  · cases h; exact ⟨rfl, rfl⟩
  · cases h
noncomputable def laws_daSame.O (k : Nat) : Oracle := noO
def laws_daSame.fh : FH := ⟨fun i => match i with | 2 => some [(0, 0), (1, 0), (10, 0), (11, 0)] | _ => none, [], false⟩
noncomputable def laws_daSame.x0 (k : Nat) (x0 : List Int) (x1 : List Int) (x10 : Int) (x11 : Int) : Option Res := R.exec Tryz.prog xhn laws_daSame.O 0 Tryz.f14 laws_daSame.fh k (R.point Tryz.f14 2) ⟨[(0, .imm (.I .i64 x0)), (1, .imm (.I .i64 x1)), (10, .int .i64 x10), (11, .int .i64 x11)], [], 2⟩
set_option maxRecDepth 100000 in
theorem laws_daSame.e0 (k : Nat) (x0 : List Int) (x1 : List Int) (x10 : Int) (x11 : Int) : laws_daSame.x0 (k + 1) x0 x1 x10 x11 = (if x11 < x10 then (if 0 ≤ x11 then (if x11 < (x0.length : Int) then (if x11 < (x1.length : Int) then (if (rdI x0 x11) = (rdI x1 x11) then (laws_daSame.x0 k x0 x1 x10 (wr64 (x11 + 1))) else (some (laws_daSame.en false))) else none) else none) else none) else (some (laws_daSame.en (decide ((x0.length : Int) = (x1.length : Int)))))) := by
  refine Eq.trans ?_ (R.icong (fun h0 => (R.icong (fun h1 => (R.icong (fun h2 => (R.idropT (p := 0 ≤ x11) (z := none) h1 rfl)) (fun h2 => rfl))) (fun h1 => rfl))) (fun h0 => rfl))
  kernel_rfl
set_option maxRecDepth 100000 in
theorem laws_daSame.ef (k : Nat) (l0 : List Int) (l1 : List Int) : R.start Tryz.prog xhn laws_daSame.O 0 Tryz.f14 laws_daSame.fh k [.imm (.I .i64 l0), .imm (.I .i64 l1)] [] = (laws_daSame.x0 k l0 l1 (mn (l0.length : Int) (l1.length : Int)) 0) := by kernel_rfl
theorem laws_daSame.link : ∀ k, (∀ (x0 : List Int) (x1 : List Int) (x10 : Int) (x11 : Int), laws_daSame.x0 k x0 x1 x10 x11 = (laws_daSame.l0 k x0 x1 x10 x11).map (laws_daSame.en))
  | 0 => fun _ _ _ _ => by simp only [laws_daSame.l0, R.map_none]; rfl
  | k + 1 => by
    have ih0 := laws_daSame.link k
    · intro x0 x1 x10 x11
      rw [laws_daSame.e0]
      simp only [laws_daSame.l0, R.map_ite, R.map_bind, R.map_none, R.map_some, R.wr64_eq, ← ih0]
theorem laws_daSame.sf (k : Nat) (l0 : List Int) (l1 : List Int) : R.start Tryz.prog xhn laws_daSame.O 0 Tryz.f14 laws_daSame.fh k [.imm (.I .i64 l0), .imm (.I .i64 l1)] [] = (laws_daSame.f k l0 l1).map (laws_daSame.en) := by
  have ih0 := laws_daSame.link k
  rw [laws_daSame.ef]
  simp only [laws_daSame.f, R.map_ite, R.map_bind, R.map_none, R.map_some, R.wr64_eq, ← ih0]
theorem laws_daSame.ok (k : Nat) : laws_daSame.tw.Ok Tryz.prog k := by
  intro md hmd a r h
  refine fn_ok (H := xhn) (fh := laws_daSame.fh) (O := laws_daSame.O) (k := k) Tryz.func14 (by kernel_rfl) (by kernel_rfl) (fun j _ => noO_sound) (by kernel_rfl) (m := 0) rfl ?_
  refine (laws_daSame.sf k a.1 a.2).trans ?_
  exact congrArg (Option.map _) h
def laws_daMatrix.f (k : Nat) (a0_0 : Int) (l0_1 : List Int) (a1_0 : Int) (l1_1 : List Int) : Option (Bool) := (if a0_0 = a1_0 then ((laws_daSame.f k l0_1 l1_1).bind fun t1 => (some t1)) else (some false))
def laws_daMatrix.en (r : Bool) : Res := (.lit r, [])
def laws_daMatrix.dec : List AV → List R.Obj → Option (Int × (List Int) × Int × (List Int))
  | [.agg [.int .i64 a0_0, .imm (.I .i64 l0_1)], .agg [.int .i64 a1_0, .imm (.I .i64 l1_1)]], [] => some (a0_0, l0_1, a1_0, l1_1)
  | _, _ => none
def laws_daMatrix.tw : Tw := ⟨10, Int × (List Int) × Int × (List Int), Bool, laws_daMatrix.dec, fun a => [.agg [.int .i64 a.1, .imm (.I .i64 a.2.1)], .agg [.int .i64 a.2.2.1, .imm (.I .i64 a.2.2.2)]], fun a => [], fun k a => laws_daMatrix.f k a.1 a.2.1 a.2.2.1 a.2.2.2, fun a r => laws_daMatrix.en r, true⟩
theorem laws_daMatrix.dok : laws_daMatrix.tw.DecOk := by
  intro args hc a h
  have h : laws_daMatrix.dec args hc = some a := h
  unfold laws_daMatrix.dec at h
  split at h
  · cases h; exact ⟨rfl, rfl⟩
  · cases h
noncomputable def laws_daMatrix.O (k : Nat) : Oracle := (laws_daSame.tw.orc k noO)
def laws_daMatrix.fh : FH := ⟨fun i => match i with | _ => none, [], false⟩
set_option maxRecDepth 100000 in
theorem laws_daMatrix.ef (k : Nat) (a0_0 : Int) (l0_1 : List Int) (a1_0 : Int) (l1_1 : List Int) : R.start Tryz.prog xhn laws_daMatrix.O 0 Tryz.f10 laws_daMatrix.fh k [.agg [.int .i64 a0_0, .imm (.I .i64 l0_1)], .agg [.int .i64 a1_0, .imm (.I .i64 l1_1)]] [] = (if a0_0 = a1_0 then ((laws_daSame.f k l0_1 l1_1).bind fun t1 => (some (laws_daMatrix.en t1))) else (some (laws_daMatrix.en false))) := by kernel_rfl
theorem laws_daMatrix.sf (k : Nat) (a0_0 : Int) (l0_1 : List Int) (a1_0 : Int) (l1_1 : List Int) : R.start Tryz.prog xhn laws_daMatrix.O 0 Tryz.f10 laws_daMatrix.fh k [.agg [.int .i64 a0_0, .imm (.I .i64 l0_1)], .agg [.int .i64 a1_0, .imm (.I .i64 l1_1)]] [] = (laws_daMatrix.f k a0_0 l0_1 a1_0 l1_1).map (laws_daMatrix.en) := by
  rw [laws_daMatrix.ef]
  simp only [laws_daMatrix.f, R.map_ite, R.map_bind, R.map_none, R.map_some, R.wr64_eq]
theorem laws_daMatrix.ok (k : Nat) : laws_daMatrix.tw.Ok Tryz.prog k := by
  intro md hmd a r h
  refine fn_ok (H := xhn) (fh := laws_daMatrix.fh) (O := laws_daMatrix.O) (k := k) Tryz.func10 (by kernel_rfl) (by kernel_rfl) (fun j _ => (Tw.orc_sound laws_daSame.dok (laws_daSame.ok j) (fun _ => rfl) noO_sound)) (by kernel_rfl) (m := 0) rfl ?_
  refine (laws_daMatrix.sf k a.1 a.2.1 a.2.2.1 a.2.2.2).trans ?_
  exact congrArg (Option.map _) h
def impl_ReverseAutomaton_1.f (a0_0 : Int) (a0_1 : ByteArray) (a0_2 : Int) (a0_3 : Int) : Option (Int × ByteArray × Int × Int) := (some (a0_2, a0_1, a0_0, a0_3))
def impl_ReverseAutomaton_1.en (r : Int × ByteArray × Int × Int) : Res := (.agg [.int .i64 r.1, .str r.2.1, .int .i64 r.2.2.1, .int .i64 r.2.2.2], [])
def impl_ReverseAutomaton_1.dec : List AV → List R.Obj → Option (Int × ByteArray × Int × Int)
  | [.agg [.int .i64 a0_0, .str a0_1, .int .i64 a0_2, .int .i64 a0_3]], [] => some (a0_0, a0_1, a0_2, a0_3)
  | _, _ => none
def impl_ReverseAutomaton_1.tw : Tw := ⟨68, Int × ByteArray × Int × Int, Int × ByteArray × Int × Int, impl_ReverseAutomaton_1.dec, fun a => [.agg [.int .i64 a.1, .str a.2.1, .int .i64 a.2.2.1, .int .i64 a.2.2.2]], fun a => [], fun k a => impl_ReverseAutomaton_1.f a.1 a.2.1 a.2.2.1 a.2.2.2, fun a r => impl_ReverseAutomaton_1.en r, true⟩
theorem impl_ReverseAutomaton_1.dok : impl_ReverseAutomaton_1.tw.DecOk := by
  intro args hc a h
  have h : impl_ReverseAutomaton_1.dec args hc = some a := h
  unfold impl_ReverseAutomaton_1.dec at h
  split at h
  · cases h; exact ⟨rfl, rfl⟩
  · cases h
noncomputable def impl_ReverseAutomaton_1.O (k : Nat) : Oracle := noO
def impl_ReverseAutomaton_1.fh : FH := ⟨fun i => match i with | _ => none, [], false⟩
set_option maxRecDepth 100000 in
theorem impl_ReverseAutomaton_1.ef (k : Nat) (a0_0 : Int) (a0_1 : ByteArray) (a0_2 : Int) (a0_3 : Int) : R.start Tryz.prog xhn impl_ReverseAutomaton_1.O 0 Tryz.f68 impl_ReverseAutomaton_1.fh k [.agg [.int .i64 a0_0, .str a0_1, .int .i64 a0_2, .int .i64 a0_3]] [] = (some (impl_ReverseAutomaton_1.en (a0_2, a0_1, a0_0, a0_3))) := by kernel_rfl
theorem impl_ReverseAutomaton_1.sf (k : Nat) (a0_0 : Int) (a0_1 : ByteArray) (a0_2 : Int) (a0_3 : Int) : R.start Tryz.prog xhn impl_ReverseAutomaton_1.O 0 Tryz.f68 impl_ReverseAutomaton_1.fh k [.agg [.int .i64 a0_0, .str a0_1, .int .i64 a0_2, .int .i64 a0_3]] [] = (impl_ReverseAutomaton_1.f a0_0 a0_1 a0_2 a0_3).map (impl_ReverseAutomaton_1.en) := by
  rw [impl_ReverseAutomaton_1.ef]
  simp only [impl_ReverseAutomaton_1.f, R.map_ite, R.map_bind, R.map_none, R.map_some, R.wr64_eq]
theorem impl_ReverseAutomaton_1.ok (k : Nat) : impl_ReverseAutomaton_1.tw.Ok Tryz.prog k := by
  intro md hmd a r h
  refine fn_ok (H := xhn) (fh := impl_ReverseAutomaton_1.fh) (O := impl_ReverseAutomaton_1.O) (k := k) Tryz.func68 (by kernel_rfl) (by kernel_rfl) (fun j _ => noO_sound) (by kernel_rfl) (m := 0) rfl ?_
  refine (impl_ReverseAutomaton_1.sf k a.1 a.2.1 a.2.2.1 a.2.2.2).trans ?_
  exact congrArg (Option.map _) h
def impl_stepped.l0 : Nat → (List Stp) → (List Stp) → Int → Int → Option (List Stp)
  | 0, _, _, _, _ => none
  | k + 1, y0, x9, x10, x11 => (if x11 < x10 then (if 0 ≤ x11 then (if x11 < (x9.length : Int) then ((impl_ReverseAutomaton_1.f ((rdT x9 x11).f0) ((rdT x9 x11).f1) ((rdT x9 x11).f2) ((rdT x9 x11).f3)).bind fun t1 => (if y0.length < 3518437208883 then (impl_stepped.l0 k (y0 ++ [(⟨t1.1, t1.2.1, t1.2.2.1, t1.2.2.2⟩ : Stp)]) x9 x10 (wrap64 (x11 + 1))) else none)) else none) else none) else (some y0))
def impl_stepped.f (k : Nat) (l0 : List Stp) : Option (List Stp) := (impl_stepped.l0 k ([] : List Stp) l0 (l0.length : Int) 0)
def impl_stepped.en (r : List Stp) : Res := (.sl 0 0, [.arr 77 0 (.T r) false])
def impl_stepped.dec : List AV → List R.Obj → Option (List Stp)
  | [.imm (.T l0), .clo 68 []], [] => some l0
  | _, _ => none
def impl_stepped.tw : Tw := ⟨67, List Stp, List Stp, impl_stepped.dec, fun a => [.imm (.T a), .clo 68 []], fun a => [], fun k a => impl_stepped.f k a, fun a r => impl_stepped.en r, true⟩
theorem impl_stepped.dok : impl_stepped.tw.DecOk := by
  intro args hc a h
  have h : impl_stepped.dec args hc = some a := h
  unfold impl_stepped.dec at h
  split at h
  · cases h; exact ⟨rfl, rfl⟩
  · cases h
noncomputable def impl_stepped.O (k : Nat) : Oracle := (impl_ReverseAutomaton_1.tw.orc k noO)
def impl_stepped.fh : FH := ⟨fun i => match i with | 3 => some [(1, 0), (5, 0), (9, 0), (10, 0), (11, 0)] | _ => none, [(true, 77)], false⟩
noncomputable def impl_stepped.x0 (k : Nat) (y0 : List Stp) (x9 : List Stp) (x10 : Int) (x11 : Int) : Option Res := R.exec Tryz.prog xhn impl_stepped.O 0 Tryz.f67 impl_stepped.fh k (R.point Tryz.f67 3) ⟨[(1, .clo 68 []), (5, .sl 0 0), (9, .imm (.T x9)), (10, .int .i64 x10), (11, .int .i64 x11)], [(0, .arr 77 0 (.T y0) false)], 3⟩
set_option maxRecDepth 100000 in
theorem impl_stepped.e0 (k : Nat) (y0 : List Stp) (x9 : List Stp) (x10 : Int) (x11 : Int) : impl_stepped.x0 (k + 1) y0 x9 x10 x11 = (if x11 < x10 then (if 0 ≤ x11 then (if x11 < (x9.length : Int) then ((impl_ReverseAutomaton_1.f ((rdT x9 x11).f0) ((rdT x9 x11).f1) ((rdT x9 x11).f2) ((rdT x9 x11).f3)).bind fun t1 => (if y0.length < 3518437208883 then (impl_stepped.x0 k (y0 ++ [(⟨t1.1, t1.2.1, t1.2.2.1, t1.2.2.2⟩ : Stp)]) x9 x10 (wr64 (x11 + 1))) else none)) else none) else none) else (some (impl_stepped.en y0))) := by kernel_rfl
set_option maxRecDepth 100000 in
theorem impl_stepped.ef (k : Nat) (l0 : List Stp) : R.start Tryz.prog xhn impl_stepped.O 0 Tryz.f67 impl_stepped.fh k [.imm (.T l0), .clo 68 []] [] = (impl_stepped.x0 k ([] : List Stp) l0 (l0.length : Int) 0) := by kernel_rfl
theorem impl_stepped.link : ∀ k, (∀ (y0 : List Stp) (x9 : List Stp) (x10 : Int) (x11 : Int), impl_stepped.x0 k y0 x9 x10 x11 = (impl_stepped.l0 k y0 x9 x10 x11).map (impl_stepped.en))
  | 0 => fun _ _ _ _ => by simp only [impl_stepped.l0, R.map_none]; rfl
  | k + 1 => by
    have ih0 := impl_stepped.link k
    · intro y0 x9 x10 x11
      rw [impl_stepped.e0]
      simp only [impl_stepped.l0, R.map_ite, R.map_bind, R.map_none, R.map_some, R.wr64_eq, ← ih0]
theorem impl_stepped.sf (k : Nat) (l0 : List Stp) : R.start Tryz.prog xhn impl_stepped.O 0 Tryz.f67 impl_stepped.fh k [.imm (.T l0), .clo 68 []] [] = (impl_stepped.f k l0).map (impl_stepped.en) := by
  have ih0 := impl_stepped.link k
  rw [impl_stepped.ef]
  simp only [impl_stepped.f, R.map_ite, R.map_bind, R.map_none, R.map_some, R.wr64_eq, ← ih0]
theorem impl_stepped.ok (k : Nat) : impl_stepped.tw.Ok Tryz.prog k := by
  intro md hmd a r h
  refine fn_ok (H := xhn) (fh := impl_stepped.fh) (O := impl_stepped.O) (k := k) Tryz.func67 (by kernel_rfl) (by kernel_rfl) (fun j _ => (Tw.orc_sound impl_ReverseAutomaton_1.dok (impl_ReverseAutomaton_1.ok j) (fun _ => rfl) noO_sound)) (by kernel_rfl) (m := 0) rfl ?_
  refine (impl_stepped.sf k a).trans ?_
  exact congrArg (Option.map _) h
def slices_Clone_int_int.f (l0 : List Int) : Option (List Int) := if l0.length ≤ 1000000000 then some l0 else none
def slices_Clone_int_int.dec : List AV → List R.Obj → Option (List Int)
  | [.imm (.I .i64 l0)], [] => some l0
  | _, _ => none
def slices_Clone_int_int.tw : Tw := ⟨104, List Int, List Int, slices_Clone_int_int.dec, fun a => [.imm (.I .i64 a)], fun a => [], fun k a => slices_Clone_int_int.f a, fun a r => (.sl 0 0, [.arr 3 0 (.I .i64 r) false]), false⟩
theorem slices_Clone_int_int.dok : slices_Clone_int_int.tw.DecOk := by
  intro args hc a h
  have h : slices_Clone_int_int.dec args hc = some a := h
  unfold slices_Clone_int_int.dec at h
  split at h
  · cases h; exact ⟨rfl, rfl⟩
  · cases h
theorem slices_Clone_int_int.ok (k : Nat) : slices_Clone_int_int.tw.Ok Tryz.prog k := by
  intro md hmd l0 r h
  have h : slices_Clone_int_int.f l0 = some r := h
  unfold slices_Clone_int_int.f at h
  split at h
  case isFalse => cases h
  rename_i hl
  obtain rfl := Option.some.inj h
  obtain ⟨i0, hi⟩ : ∃ i0, Tryz.prog.info? 3 = some i0 := Option.isSome_iff_exists.1 (by kernel_rfl)
  have h4 : (Tryz.prog.info? 3).bind (fun i => i.zero.map fun z => (i.size, i.bytes, z.cells.size)) = some (1, 8, 1) := by kernel_rfl
  rw [hi] at h4
  obtain ⟨z, hz0, hzz⟩ := Option.map_eq_some_iff.1 (show i0.zero.map (fun z => (i0.size, i0.bytes, z.cells.size)) = some (1, 8, 1) from h4)
  simp only [Prod.mk.injEq] at hzz
  obtain ⟨hz1, hz2, hzs⟩ := hzz
  refine ⟨callable_of Tryz.func104 (by kernel_rfl) (by kernel_rfl), fun w M I vs E => ?_⟩
  have hl' : (Ct.I .i64 l0).len ≤ 1000000000 := hl
  refine clone_leaves (c := .I .i64 l0) rfl E (fun b off cap news n1 n2 n3 => ?_) (fun n cap => Go.Proofs.AnyE.slices_Clone_nil Tryz.layCloneI n cap w) (fun ad cap => R.clone_zero Tryz.layCloneI i0 z 1 8 hi hz0 hz1 hz2 hzs (by decide) Tryz.sizeOf3 ad cap w) (fun q => Bool.noConfusion (show false = true from hmd q))
  exact Go.Proofs.AnyE.slices_Clone Tryz.layCloneI i0 z 1 8 hi hz0 hz1 hz2 hzs (by decide) Tryz.sizeOf3 b off _ cap news w n1 (by unfold maxLen; omega) (by omega) n2 n3
def slices_Clone_impl_Step_impl_Step.f (l0 : List Stp) : Option (List Stp) := if l0.length ≤ 1000000000 then some l0 else none
def slices_Clone_impl_Step_impl_Step.dec : List AV → List R.Obj → Option (List Stp)
  | [.imm (.T l0)], [] => some l0
  | _, _ => none
def slices_Clone_impl_Step_impl_Step.tw : Tw := ⟨105, List Stp, List Stp, slices_Clone_impl_Step_impl_Step.dec, fun a => [.imm (.T a)], fun a => [], fun k a => slices_Clone_impl_Step_impl_Step.f a, fun a r => (.sl 0 0, [.arr 77 0 (.T r) false]), false⟩
theorem slices_Clone_impl_Step_impl_Step.dok : slices_Clone_impl_Step_impl_Step.tw.DecOk := by
  intro args hc a h
  have h : slices_Clone_impl_Step_impl_Step.dec args hc = some a := h
  unfold slices_Clone_impl_Step_impl_Step.dec at h
  split at h
  · cases h; exact ⟨rfl, rfl⟩
  · cases h
theorem slices_Clone_impl_Step_impl_Step.ok (k : Nat) : slices_Clone_impl_Step_impl_Step.tw.Ok Tryz.prog k := by
  intro md hmd l0 r h
  have h : slices_Clone_impl_Step_impl_Step.f l0 = some r := h
  unfold slices_Clone_impl_Step_impl_Step.f at h
  split at h
  case isFalse => cases h
  rename_i hl
  obtain rfl := Option.some.inj h
  obtain ⟨i0, hi⟩ : ∃ i0, Tryz.prog.info? 77 = some i0 := Option.isSome_iff_exists.1 (by kernel_rfl)
  have h4 : (Tryz.prog.info? 77).bind (fun i => i.zero.map fun z => (i.size, i.bytes, z.cells.size)) = some (4, 40, 4) := by kernel_rfl
  rw [hi] at h4
  obtain ⟨z, hz0, hzz⟩ := Option.map_eq_some_iff.1 (show i0.zero.map (fun z => (i0.size, i0.bytes, z.cells.size)) = some (4, 40, 4) from h4)
  simp only [Prod.mk.injEq] at hzz
  obtain ⟨hz1, hz2, hzs⟩ := hzz
  refine ⟨callable_of Tryz.func105 (by kernel_rfl) (by kernel_rfl), fun w M I vs E => ?_⟩
  have hl' : (Ct.T l0).len ≤ 1000000000 := hl
  refine clone_leaves (c := .T l0) rfl E (fun b off cap news n1 n2 n3 => ?_) (fun n cap => Go.Proofs.AnyE.slices_Clone_nil Tryz.layCloneT n cap w) (fun ad cap => R.clone_zero Tryz.layCloneT i0 z 4 40 hi hz0 hz1 hz2 hzs (by decide) Tryz.sizeOf77 ad cap w) (fun q => Bool.noConfusion (show false = true from hmd q))
  exact Go.Proofs.AnyE.slices_Clone Tryz.layCloneT i0 z 4 40 hi hz0 hz1 hz2 hzs (by decide) Tryz.sizeOf77 b off _ cap news w n1 (by unfold maxLen; omega) (by omega) n2 n3
def slices_Sort_int_int.f (l0 : List Int) : Option (List Int) := if l0.length ≤ 1000000000 then some (R.sortI l0) else none
def slices_Sort_int_int.dec : List AV → List R.Obj → Option (List Int)
  | [.sl 0 0], [.arr 3 0 (.I .i64 l0) false] => some l0
  | _, _ => none
def slices_Sort_int_int.tw : Tw := ⟨106, List Int, List Int, slices_Sort_int_int.dec, fun a => [.sl 0 0], fun a => [.arr 3 0 (.I .i64 a) false], fun k a => slices_Sort_int_int.f a, fun a r => (.tup [], [.arr 3 0 (.I .i64 r) false]), false⟩
theorem slices_Sort_int_int.dok : slices_Sort_int_int.tw.DecOk := by
  intro args hc a h
  have h : slices_Sort_int_int.dec args hc = some a := h
  unfold slices_Sort_int_int.dec at h
  split at h
  · cases h; exact ⟨rfl, rfl⟩
  · cases h
theorem slices_Sort_int_int.ok (k : Nat) : slices_Sort_int_int.tw.Ok Tryz.prog k := by
  intro md hmd l0 r h
  have h : slices_Sort_int_int.f l0 = some r := h
  unfold slices_Sort_int_int.f at h
  split at h
  case isFalse => cases h
  rename_i hl
  obtain rfl := Option.some.inj h
  refine ⟨callable_of Tryz.func106 (by kernel_rfl) (by kernel_rfl), fun w M I vs E => ?_⟩
  exact sortI_leaves E (fun blk cap hH hb => Go.Proofs.AnyM.slices_Sort_int Tryz.laySortI blk 0 cap l0 w hH hb (by omega)) (Go.Proofs.AnyM.slices_Sort_int_none Tryz.laySortI none 0 w)
def slices_SortFunc_impl_Step_impl_Step.f (l0 : List Stp) : Option (List Stp) := if l0.length ≤ 1000000000 then some (R.sortT l0) else none
def slices_SortFunc_impl_Step_impl_Step.dec : List AV → List R.Obj → Option (List Stp)
  | [.sl 0 0, .clo 72 []], [.arr 77 0 (.T l0) false] => some l0
  | _, _ => none
def slices_SortFunc_impl_Step_impl_Step.tw : Tw := ⟨107, List Stp, List Stp, slices_SortFunc_impl_Step_impl_Step.dec, fun a => [.sl 0 0, .clo 72 []], fun a => [.arr 77 0 (.T a) false], fun k a => slices_SortFunc_impl_Step_impl_Step.f a, fun a r => (.tup [], [.arr 77 0 (.T r) false]), false⟩
theorem slices_SortFunc_impl_Step_impl_Step.dok : slices_SortFunc_impl_Step_impl_Step.tw.DecOk := by
  intro args hc a h
  have h : slices_SortFunc_impl_Step_impl_Step.dec args hc = some a := h
  unfold slices_SortFunc_impl_Step_impl_Step.dec at h
  split at h
  · cases h; exact ⟨rfl, rfl⟩
  · cases h
theorem impl_stepOrder.cmp (x y : Stp) : impl_stepOrder.f 4 x.f0 x.f1 x.f2 x.f3 y.f0 y.f1 y.f2 y.f3 = some (R.ordT x y) := by
  have c1 : ∀ a b : Int, cmp_Compare_int.f a b = some (R.cmpI a b) := fun a b => by
    unfold cmp_Compare_int.f cmp_isNaN_int.f R.cmpI
    simp only [decide_true, Bool.not_true, Option.bind_some, Bool.false_eq_true, if_false]
    by_cases h : a < b
    · rw [if_pos h, if_pos h]
    · rw [if_neg h, if_neg h]; by_cases h2 : a > b
      · rw [if_pos h2, if_pos h2]
      · rw [if_neg h2, if_neg h2]
  have w1 : wrap64 ((0 : Int) + 1) = 1 := by unfold wrap64; decide
  have w2 : wrap64 ((1 : Int) + 1) = 2 := by unfold wrap64; decide
  have w3 : wrap64 ((2 : Int) + 1) = 3 := by unfold wrap64; decide
  have c2 : ∀ a b c : Int, cmp_Or_int.f 4 [a, b, c] = some (if a = 0 then (if b = 0 then c else b) else a) := fun a b c => by
    unfold cmp_Or_int.f
    have r0 : rdI [a, b, c] 0 = a := rfl
    have r1 : rdI [a, b, c] 1 = b := rfl
    have r2 : rdI [a, b, c] 2 = c := rfl
    simp only [cmp_Or_int.l0, List.length_cons, List.length_nil, r0, r1, r2, w1, w2, w3]
    by_cases h0 : a = 0
    · by_cases h1 : b = 0
      · by_cases h2 : c = 0
        · simp [h0, h1, h2, r1, r2, w1, w2, w3]
        · simp [h0, h1, h2, r1, r2, w1, w2, w3]
      · simp [h0, h1, r1, r2, w1, w2, w3]
    · simp [h0]
  unfold impl_stepOrder.f strings_Compare.f bytealg_CompareString.f
  simp only [c1, Option.bind_some, c2]
  rfl
theorem slices_SortFunc_impl_Step_impl_Step.ok (k : Nat) : slices_SortFunc_impl_Step_impl_Step.tw.Ok Tryz.prog k := by
  intro md hmd l0 r h
  have h : slices_SortFunc_impl_Step_impl_Step.f l0 = some r := h
  unfold slices_SortFunc_impl_Step_impl_Step.f at h
  split at h
  case isFalse => cases h
  rename_i hl
  obtain rfl := Option.some.inj h
  refine ⟨callable_of Tryz.func107 (by kernel_rfl) (by kernel_rfl), fun w M I vs E => ?_⟩
  have eg : ∀ args w, (callFunc 72 args).run Tryz.prog w = .ok (.enter 72 args) w := enters_of Tryz.func72 (by kernel_rfl) rfl
  have hcmp : ∀ x y : Stp, CallSpec true Tryz.prog 72 [.agg [.int .i64 x.f0, .str x.f1, .int .i64 x.f2, .int .i64 x.f3], .agg [.int .i64 y.f0, .str y.f1, .int .i64 y.f2, .int .i64 y.f3]] [] (.int .i64 (R.ordT x y)) [] := fun x y =>
    impl_stepOrder.ok 4 true (fun _ => rfl) (x.f0, x.f1, x.f2, x.f3, y.f0, y.f1, y.f2, y.f3) (R.ordT x y) (impl_stepOrder.cmp x y)
  refine sortT_leaves E (fun blk cap hH hb => ?_) (Go.Proofs.AnyF.slices_SortFunc_none Tryz.laySortT none 0 _ w)
  exact Go.Proofs.AnyQ.slices_SortFunc_eq Tryz.laySortT 4 Tryz.isAgg77 Tryz.sizeOf77 R.encT (fun _ => rfl) (fun x v hv => by
    simp only [R.encT, List.mem_cons, List.not_mem_nil, or_false] at hv
    rcases hv with rfl | rfl | rfl | rfl <;> rfl) R.ordT R.swoT 72 #[] blk 0 cap l0.toArray w eg (R.cmpLays_of hcmp blk 0 _ w) hH hb (by have q : l0.length ≤ 1000000000 := hl; show List.length l0 < _; omega)
def impl_made.f (k : Nat) (a0 : Int) (l1 : List Int) (l2 : List Int) (l3 : List Stp) : Option (Int × (List Int) × (List Int) × (List Stp) × Bool) := ((slices_Clone_int_int.f l1).bind fun t1 => ((slices_Clone_int_int.f l2).bind fun t2 => ((slices_Clone_impl_Step_impl_Step.f l3).bind fun t3 => ((slices_Sort_int_int.f t1).bind fun t4 => ((slices_Sort_int_int.f t2).bind fun t5 => ((slices_SortFunc_impl_Step_impl_Step.f t3).bind fun t6 => ((impl_AutomatonValid.f k a0 t4 t5 t6).bind fun t7 => (if t7 = true then (some (a0, t4, t5, t6, true)) else (some (0, ([] : List Int), ([] : List Int), ([] : List Stp), false))))))))))
def impl_made.en (r : Int × (List Int) × (List Int) × (List Stp) × Bool) : Res := (.tup [.agg [.int .i64 r.1, .sl 0 0, .sl 1 0, .sl 2 0], .lit r.2.2.2.2], [.arr 3 0 (.I .i64 r.2.1) false, .arr 3 0 (.I .i64 r.2.2.1) false, .arr 77 0 (.T r.2.2.2.1) false])
def impl_made.dec : List AV → List R.Obj → Option (Int × (List Int) × (List Int) × (List Stp))
  | [.int .i64 a0, .imm (.I .i64 l1), .imm (.I .i64 l2), .imm (.T l3)], [] => some (a0, l1, l2, l3)
  | _, _ => none
def impl_made.tw : Tw := ⟨66, Int × (List Int) × (List Int) × (List Stp), Int × (List Int) × (List Int) × (List Stp) × Bool, impl_made.dec, fun a => [.int .i64 a.1, .imm (.I .i64 a.2.1), .imm (.I .i64 a.2.2.1), .imm (.T a.2.2.2)], fun a => [], fun k a => impl_made.f k a.1 a.2.1 a.2.2.1 a.2.2.2, fun a r => impl_made.en r, false⟩
theorem impl_made.dok : impl_made.tw.DecOk := by
  intro args hc a h
  have h : impl_made.dec args hc = some a := h
  unfold impl_made.dec at h
  split at h
  · cases h; exact ⟨rfl, rfl⟩
  · cases h
noncomputable def impl_made.O (k : Nat) : Oracle := (slices_Clone_int_int.tw.orc k (slices_Clone_impl_Step_impl_Step.tw.orc k (slices_Sort_int_int.tw.orc k (slices_SortFunc_impl_Step_impl_Step.tw.orc k (impl_AutomatonValid.tw.orc k noO)))))
def impl_made.fh : FH := ⟨fun i => match i with | _ => none, [(true, 3), (true, 3), (true, 77)], false⟩
set_option maxRecDepth 100000 in
theorem impl_made.ef (k : Nat) (a0 : Int) (l1 : List Int) (l2 : List Int) (l3 : List Stp) : R.start Tryz.prog xhn impl_made.O 0 Tryz.f66 impl_made.fh k [.int .i64 a0, .imm (.I .i64 l1), .imm (.I .i64 l2), .imm (.T l3)] [] = ((slices_Clone_int_int.f l1).bind fun t1 => ((slices_Clone_int_int.f l2).bind fun t2 => ((slices_Clone_impl_Step_impl_Step.f l3).bind fun t3 => ((slices_Sort_int_int.f t1).bind fun t4 => ((slices_Sort_int_int.f t2).bind fun t5 => ((slices_SortFunc_impl_Step_impl_Step.f t3).bind fun t6 => ((impl_AutomatonValid.f k a0 t4 t5 t6).bind fun t7 => (if t7 = true then (some (impl_made.en (a0, t4, t5, t6, true))) else (some (impl_made.en (0, ([] : List Int), ([] : List Int), ([] : List Stp), false))))))))))) := by kernel_rfl
theorem impl_made.sf (k : Nat) (a0 : Int) (l1 : List Int) (l2 : List Int) (l3 : List Stp) : R.start Tryz.prog xhn impl_made.O 0 Tryz.f66 impl_made.fh k [.int .i64 a0, .imm (.I .i64 l1), .imm (.I .i64 l2), .imm (.T l3)] [] = (impl_made.f k a0 l1 l2 l3).map (impl_made.en) := by
  rw [impl_made.ef]
  simp only [impl_made.f, R.map_ite, R.map_bind, R.map_none, R.map_some, R.wr64_eq]
theorem impl_made.ok (k : Nat) : impl_made.tw.Ok Tryz.prog k := by
  intro md hmd a r h
  refine fn_ok (H := xhn) (fh := impl_made.fh) (O := impl_made.O) (k := k) Tryz.func66 (by kernel_rfl) (by kernel_rfl) (fun j _ => (Tw.orc_sound slices_Clone_int_int.dok (slices_Clone_int_int.ok j) (fun q => Bool.noConfusion (show false = true from hmd q)) (Tw.orc_sound slices_Clone_impl_Step_impl_Step.dok (slices_Clone_impl_Step_impl_Step.ok j) (fun q => Bool.noConfusion (show false = true from hmd q)) (Tw.orc_sound slices_Sort_int_int.dok (slices_Sort_int_int.ok j) (fun q => Bool.noConfusion (show false = true from hmd q)) (Tw.orc_sound slices_SortFunc_impl_Step_impl_Step.dok (slices_SortFunc_impl_Step_impl_Step.ok j) (fun q => Bool.noConfusion (show false = true from hmd q)) (Tw.orc_sound impl_AutomatonValid.dok (impl_AutomatonValid.ok j) (fun _ => rfl) noO_sound)))))) (by kernel_rfl) (m := 0) rfl ?_
  refine (impl_made.sf k a.1 a.2.1 a.2.2.1 a.2.2.2).trans ?_
  exact congrArg (Option.map _) h
def impl_ReverseAutomaton.f (k : Nat) (a0_0 : Int) (l0_1 : List Int) (l0_2 : List Int) (l0_3 : List Stp) : Option (Int × (List Int) × (List Int) × (List Stp) × Bool) := ((impl_AutomatonValid.f k a0_0 l0_1 l0_2 l0_3).bind fun t1 => (if t1 = true then ((impl_stepped.f k l0_3).bind fun t2 => ((impl_made.f k a0_0 l0_2 l0_1 t2).bind fun t3 => (some (t3.1, t3.2.1, t3.2.2.1, t3.2.2.2.1, t3.2.2.2.2)))) else (some (0, ([] : List Int), ([] : List Int), ([] : List Stp), false))))
def impl_ReverseAutomaton.en (r : Int × (List Int) × (List Int) × (List Stp) × Bool) : Res := (.tup [.agg [.int .i64 r.1, .sl 0 0, .sl 1 0, .sl 2 0], .lit r.2.2.2.2], [.arr 3 0 (.I .i64 r.2.1) false, .arr 3 0 (.I .i64 r.2.2.1) false, .arr 77 0 (.T r.2.2.2.1) false])
def impl_ReverseAutomaton.dec : List AV → List R.Obj → Option (Int × (List Int) × (List Int) × (List Stp))
  | [.agg [.int .i64 a0_0, .imm (.I .i64 l0_1), .imm (.I .i64 l0_2), .imm (.T l0_3)]], [] => some (a0_0, l0_1, l0_2, l0_3)
  | _, _ => none
def impl_ReverseAutomaton.tw : Tw := ⟨32, Int × (List Int) × (List Int) × (List Stp), Int × (List Int) × (List Int) × (List Stp) × Bool, impl_ReverseAutomaton.dec, fun a => [.agg [.int .i64 a.1, .imm (.I .i64 a.2.1), .imm (.I .i64 a.2.2.1), .imm (.T a.2.2.2)]], fun a => [], fun k a => impl_ReverseAutomaton.f k a.1 a.2.1 a.2.2.1 a.2.2.2, fun a r => impl_ReverseAutomaton.en r, false⟩
theorem impl_ReverseAutomaton.dok : impl_ReverseAutomaton.tw.DecOk := by
  intro args hc a h
  have h : impl_ReverseAutomaton.dec args hc = some a := h
  unfold impl_ReverseAutomaton.dec at h
  split at h
  · cases h; exact ⟨rfl, rfl⟩
  · cases h
noncomputable def impl_ReverseAutomaton.O (k : Nat) : Oracle := (impl_AutomatonValid.tw.orc k (impl_stepped.tw.orc k (impl_made.tw.orc k noO)))
def impl_ReverseAutomaton.fh : FH := ⟨fun i => match i with | _ => none, [(true, 3), (true, 3), (true, 77)], false⟩
set_option maxRecDepth 100000 in
theorem impl_ReverseAutomaton.ef (k : Nat) (a0_0 : Int) (l0_1 : List Int) (l0_2 : List Int) (l0_3 : List Stp) : R.start Tryz.prog xhn impl_ReverseAutomaton.O 0 Tryz.f32 impl_ReverseAutomaton.fh k [.agg [.int .i64 a0_0, .imm (.I .i64 l0_1), .imm (.I .i64 l0_2), .imm (.T l0_3)]] [] = ((impl_AutomatonValid.f k a0_0 l0_1 l0_2 l0_3).bind fun t1 => (if t1 = true then ((impl_stepped.f k l0_3).bind fun t2 => ((impl_made.f k a0_0 l0_2 l0_1 t2).bind fun t3 => (some (impl_ReverseAutomaton.en (t3.1, t3.2.1, t3.2.2.1, t3.2.2.2.1, t3.2.2.2.2))))) else (some (impl_ReverseAutomaton.en (0, ([] : List Int), ([] : List Int), ([] : List Stp), false))))) := by kernel_rfl
theorem impl_ReverseAutomaton.sf (k : Nat) (a0_0 : Int) (l0_1 : List Int) (l0_2 : List Int) (l0_3 : List Stp) : R.start Tryz.prog xhn impl_ReverseAutomaton.O 0 Tryz.f32 impl_ReverseAutomaton.fh k [.agg [.int .i64 a0_0, .imm (.I .i64 l0_1), .imm (.I .i64 l0_2), .imm (.T l0_3)]] [] = (impl_ReverseAutomaton.f k a0_0 l0_1 l0_2 l0_3).map (impl_ReverseAutomaton.en) := by
  rw [impl_ReverseAutomaton.ef]
  simp only [impl_ReverseAutomaton.f, R.map_ite, R.map_bind, R.map_none, R.map_some, R.wr64_eq]
theorem impl_ReverseAutomaton.ok (k : Nat) : impl_ReverseAutomaton.tw.Ok Tryz.prog k := by
  intro md hmd a r h
  refine fn_ok (H := xhn) (fh := impl_ReverseAutomaton.fh) (O := impl_ReverseAutomaton.O) (k := k) Tryz.func32 (by kernel_rfl) (by kernel_rfl) (fun j _ => (Tw.orc_sound impl_AutomatonValid.dok (impl_AutomatonValid.ok j) (fun _ => rfl) (Tw.orc_sound impl_stepped.dok (impl_stepped.ok j) (fun _ => rfl) (Tw.orc_sound impl_made.dok (impl_made.ok j) (fun q => Bool.noConfusion (show false = true from hmd q)) noO_sound)))) (by kernel_rfl) (m := 0) rfl ?_
  refine (impl_ReverseAutomaton.sf k a.1 a.2.1 a.2.2.1 a.2.2.2).trans ?_
  exact congrArg (Option.map _) h
def slices_Reverse_byte_byte.l0 : Nat → (List Int) → Int → Int → Option (List Int)
  | 0, _, _, _ => none
  | k + 1, y0, x2, x3 => (if x2 < x3 then (if 0 ≤ x3 then (if x3 < (y0.length : Int) then (if 0 ≤ x2 then (if x2 < (y0.length : Int) then (if x3 < ((y0.set x2.toNat (rdI y0 x3)).length : Int) then (slices_Reverse_byte_byte.l0 k ((y0.set x2.toNat (rdI y0 x3)).set x3.toNat (rdI y0 x2)) (wrap64 (x2 + 1)) (wrap64 (x3 - 1))) else none) else none) else none) else none) else none) else (some y0))
def slices_Reverse_byte_byte.f (k : Nat) (l1 : List Int) : Option (List Int) := (slices_Reverse_byte_byte.l0 k l1 0 (wrap64 ((l1.length : Int) - 1)))
def slices_Reverse_byte_byte.en (r : List Int) : Res := (.tup [], [.arr 5 0 (.I .u8 r) false])
def slices_Reverse_byte_byte.dec : List AV → List R.Obj → Option (List Int)
  | [.sl 0 0], [.arr 5 0 (.I .u8 l1) false] => some l1
  | _, _ => none
def slices_Reverse_byte_byte.tw : Tw := ⟨45, List Int, List Int, slices_Reverse_byte_byte.dec, fun a => [.sl 0 0], fun a => [.arr 5 0 (.I .u8 a) false], fun k a => slices_Reverse_byte_byte.f k a, fun a r => slices_Reverse_byte_byte.en r, true⟩
theorem slices_Reverse_byte_byte.dok : slices_Reverse_byte_byte.tw.DecOk := by
  intro args hc a h
  have h : slices_Reverse_byte_byte.dec args hc = some a := h
  unfold slices_Reverse_byte_byte.dec at h
  split at h
  · cases h; exact ⟨rfl, rfl⟩
  · cases h
noncomputable def slices_Reverse_byte_byte.O (k : Nat) : Oracle := noO
def slices_Reverse_byte_byte.fh : FH := ⟨fun i => match i with | 1 => some [(0, 0), (2, 0), (3, 0)] | _ => none, [], false⟩
noncomputable def slices_Reverse_byte_byte.x0 (k : Nat) (y0 : List Int) (x2 : Int) (x3 : Int) : Option Res := R.exec Tryz.prog xhn slices_Reverse_byte_byte.O 1 Tryz.f45 slices_Reverse_byte_byte.fh k (R.point Tryz.f45 1) ⟨[(0, .sl 0 0), (2, .int .i64 x2), (3, .int .i64 x3)], [(0, .arr 5 0 (.I .u8 y0) false)], 3⟩
set_option maxRecDepth 100000 in
theorem slices_Reverse_byte_byte.e0 (k : Nat) (y0 : List Int) (x2 : Int) (x3 : Int) : slices_Reverse_byte_byte.x0 (k + 1) y0 x2 x3 = (if x2 < x3 then (if 0 ≤ x3 then (if x3 < (y0.length : Int) then (if 0 ≤ x2 then (if x2 < (y0.length : Int) then (if x3 < ((y0.set x2.toNat (rdI y0 x3)).length : Int) then (slices_Reverse_byte_byte.x0 k ((y0.set x2.toNat (rdI y0 x3)).set x3.toNat (rdI y0 x2)) (wr64 (x2 + 1)) (wr64 (x3 - 1))) else none) else none) else none) else none) else none) else (some (slices_Reverse_byte_byte.en y0))) := by
  refine Eq.trans ?_ (R.icong (fun h0 => (R.icong (fun h1 => (R.icong (fun h2 => (R.icong (fun h3 => (R.icong (fun h4 => (R.idropT (p := 0 ≤ x2) (z := none) h3 (R.idropT (p := x2 < (y0.length : Int)) (z := none) h4 (R.idropT (p := 0 ≤ x3) (z := none) h1 rfl)))) (fun h4 => rfl))) (fun h3 => rfl))) (fun h2 => rfl))) (fun h1 => rfl))) (fun h0 => rfl))
  kernel_rfl
set_option maxRecDepth 100000 in
theorem slices_Reverse_byte_byte.ef (k : Nat) (l1 : List Int) : R.start Tryz.prog xhn slices_Reverse_byte_byte.O 1 Tryz.f45 slices_Reverse_byte_byte.fh k [.sl 0 0] [.arr 5 0 (.I .u8 l1) false] = (slices_Reverse_byte_byte.x0 k l1 0 (wr64 ((l1.length : Int) - 1))) := by kernel_rfl
theorem slices_Reverse_byte_byte.link : ∀ k, (∀ (y0 : List Int) (x2 : Int) (x3 : Int), slices_Reverse_byte_byte.x0 k y0 x2 x3 = (slices_Reverse_byte_byte.l0 k y0 x2 x3).map (slices_Reverse_byte_byte.en))
  | 0 => fun _ _ _ => by simp only [slices_Reverse_byte_byte.l0, R.map_none]; rfl
  | k + 1 => by
    have ih0 := slices_Reverse_byte_byte.link k
    · intro y0 x2 x3
      rw [slices_Reverse_byte_byte.e0]
      simp only [slices_Reverse_byte_byte.l0, R.map_ite, R.map_bind, R.map_none, R.map_some, R.wr64_eq, ← ih0]
theorem slices_Reverse_byte_byte.sf (k : Nat) (l1 : List Int) : R.start Tryz.prog xhn slices_Reverse_byte_byte.O 1 Tryz.f45 slices_Reverse_byte_byte.fh k [.sl 0 0] [.arr 5 0 (.I .u8 l1) false] = (slices_Reverse_byte_byte.f k l1).map (slices_Reverse_byte_byte.en) := by
  have ih0 := slices_Reverse_byte_byte.link k
  rw [slices_Reverse_byte_byte.ef]
  simp only [slices_Reverse_byte_byte.f, R.map_ite, R.map_bind, R.map_none, R.map_some, R.wr64_eq, ← ih0]
theorem slices_Reverse_byte_byte.ok (k : Nat) : slices_Reverse_byte_byte.tw.Ok Tryz.prog k := by
  intro md hmd a r h
  refine fn_ok (H := xhn) (fh := slices_Reverse_byte_byte.fh) (O := slices_Reverse_byte_byte.O) (k := k) Tryz.func45 (by kernel_rfl) (by kernel_rfl) (fun j _ => noO_sound) (by kernel_rfl) (m := 1) rfl ?_
  refine (slices_Reverse_byte_byte.sf k a).trans ?_
  exact congrArg (Option.map _) h
def slices_Repeat_int_int.f (l0 : List Int) (a1 : Int) : Option (List Int) := if l0.length = 1 ∧ 1 ≤ a1 ∧ a1 ≤ 4 then some (List.replicate a1.toNat (rdI l0 0)) else none
def slices_Repeat_int_int.dec : List AV → List R.Obj → Option (List Int × Int)
  | [.imm (.I .i64 l0), .int .i64 a1], [] => some (l0, a1)
  | _, _ => none
def slices_Repeat_int_int.tw : Tw := ⟨79, List Int × Int, List Int, slices_Repeat_int_int.dec, fun a => [.imm (.I .i64 a.1), .int .i64 a.2], fun a => [], fun k a => slices_Repeat_int_int.f a.1 a.2, fun a r => (.sl 0 0, [.arr 3 0 (.I .i64 r) false]), false⟩
theorem slices_Repeat_int_int.dok : slices_Repeat_int_int.tw.DecOk := by
  intro args hc a h
  have h : slices_Repeat_int_int.dec args hc = some a := h
  unfold slices_Repeat_int_int.dec at h
  split at h
  · cases h; exact ⟨rfl, rfl⟩
  · cases h
open Go.Proofs.YthnjbjihphbcpaaGreatW.PrintWords in
theorem slices_Repeat_int_int.ok (k : Nat) : slices_Repeat_int_int.tw.Ok Tryz.prog k := by
  rintro md hmd ⟨l0, a1⟩ r h
  have h : slices_Repeat_int_int.f l0 a1 = some r := h
  refine ⟨callable_of Tryz.func79 (by kernel_rfl) (by kernel_rfl), fun w M I vs E => ?_⟩
  obtain ⟨V0, hV0⟩ : ∃ V0, vs[0]? = some V0 := ⟨vs[0]'(by have := E.len; have : 2 = vs.size := this; omega), Array.getElem?_eq_getElem _⟩
  have e : vs = #[V0, .int .i64 a1] := two_of E.len (fun q => Option.some.inj (q.symm.trans hV0)) (fun q => (E.args 1 _ _ rfl q).int_inv)
  obtain ⟨A0, c0, hs, hc, ha, hcell⟩ := (E.args 0 _ _ rfl hV0).imm_inv.imm_at
  subst hs
  subst e
  have hl : l0.length = 1 := by
    unfold slices_Repeat_int_int.f at h
    split at h
    · rename_i g; exact g.1
    · cases h
  have hr0 : Kd.C (Kd.int .i64) w A0 l0.length l0 := by
    refine ⟨rfl, by omega, fun hp => ?_⟩
    obtain ⟨b, o, rfl⟩ := ha hp
    refine ⟨_, rfl, fun j p hj => ⟨[.int .i64 p], rfl, rfl, fun i u hi => ?_⟩⟩
    have hjl : j < l0.length := (List.getElem?_eq_some_iff.1 hj).1
    match i with
    | 0 =>
      simp only [List.getElem?_cons_zero, Option.some.injEq] at hi
      subst hi
      obtain ⟨v, q1, _, q2⟩ := hcell b o rfl j 0 hjl (by simp [Ct.sz])
      have e1 : (Ct.I .i64 l0).sz = 1 := rfl
      rw [e1, Nat.mul_one, Nat.add_zero] at q1
      have e2 := (VR.closed (M := M) q2).int_inv
      rw [R.add_at, show (Kd.int IntKind.i64).sz = 1 from rfl, Nat.mul_one, Nat.add_zero, q1, e2]
      have e3 : rdI l0 (j : Int) = p := by simp [rdI, hj]
      exact congrArg (fun z => some (Value.int .i64 z)) e3
    | i + 1 => simp at hi
  refine (X.slices_Repeat_int_int.calls A0 c0 l0 a1 r w hr0 hc h).mono fun e w' => ?_
  rintro ⟨v, rfl, hR, hB⟩
  exact ext_ints (Kd.own_of_R (enc := Value.int .i64) (h1 := fun _ => rfl) hR) hB (fun q => Bool.noConfusion (show false = true from hmd q))
mutual
def impl_toEnd.l0 : Nat → ByteArray → (List Int) → (List Int) → Int → Int → Int → (List Int) → (List Int) → (List Stp) → Option (List (List Int))
  | 0, _, _, _, _, _, _, _, _, _ => none
  | k + 1, x1, y1, x18, x19, x20, y0_0, y0_1, y0_2, y0_3 => (if x20 < x19 then (if 0 ≤ x20 then (if x20 < (x18.length : Int) then (if 0 ≤ (rdI x18 x20) then (if (rdI x18 x20) < (y1.length : Int) then (impl_toEnd.l0 k x1 (y1.set (rdI x18 x20).toNat 0) x18 x19 (wrap64 (x20 + 1)) y0_0 y0_1 y0_2 y0_3) else none) else none) else none) else none) else (impl_toEnd.l1 k x1 y1 ([y1]) (wrap64 ((x1.size : Int) - 1)) y0_0 y0_1 y0_2 y0_3))
def impl_toEnd.l1 : Nat → ByteArray → (List Int) → (List (List Int)) → Int → Int → (List Int) → (List Int) → (List Stp) → Option (List (List Int))
  | 0, _, _, _, _, _, _, _, _ => none
  | k + 1, x1, y1, y2, x9, y0_0, y0_1, y0_2, y0_3 => (if x9 ≥ 0 then ((slices_Repeat_int_int.f ([1000000]) y0_0).bind fun t2 => (impl_toEnd.l2 k x1 y1 y2 x9 t2 y0_3 (y0_3.length : Int) 0 y0_0 y0_1 y0_2 y0_3)) else (some y2))
def impl_toEnd.l2 : Nat → ByteArray → (List Int) → (List (List Int)) → Int → (List Int) → (List Stp) → Int → Int → Int → (List Int) → (List Int) → (List Stp) → Option (List (List Int))
  | 0, _, _, _, _, _, _, _, _, _, _, _, _ => none
  | k + 1, x1, y1, y2, x9, y3, x42, x43, x44, y0_0, y0_1, y0_2, y0_3 => (if x44 < x43 then (if 0 ≤ x44 then (if x44 < (x42.length : Int) then (if 0 ≤ x9 then (if x9 ≤ (wrap64 (x9 + 1)) then (if (wrap64 (x9 + 1)) ≤ (x1.size : Int) then (if (rdT x42 x44).f1.toList = (x1.extract x9.toNat (wrap64 (x9 + 1)).toNat).toList then (if 0 ≤ (rdT x42 x44).f0 then (if (rdT x42 x44).f0 < (y3.length : Int) then (if 0 ≤ (rdT x42 x44).f2 then (if (rdT x42 x44).f2 < (y1.length : Int) then (impl_toEnd.l2 k x1 y1 y2 x9 (y3.set (rdT x42 x44).f0.toNat (mn (rdI y3 (rdT x42 x44).f0) (wrap64 ((rdT x42 x44).f3 + (rdI y1 (rdT x42 x44).f2))))) x42 x43 (wrap64 (x44 + 1)) y0_0 y0_1 y0_2 y0_3) else none) else none) else none) else none) else (impl_toEnd.l2 k x1 y1 y2 x9 y3 x42 x43 (wrap64 (x44 + 1)) y0_0 y0_1 y0_2 y0_3)) else none) else none) else none) else none) else none) else (if y2.length < 5864062014805 then (impl_toEnd.l1 k x1 y3 (y2 ++ [y3]) (wrap64 (x9 - 1)) y0_0 y0_1 y0_2 y0_3) else none))
end
def impl_toEnd.f (k : Nat) (a0_0 : Int) (l0_1 : List Int) (l0_2 : List Int) (l0_3 : List Stp) (a1 : ByteArray) : Option (List (List Int)) := ((slices_Repeat_int_int.f ([1000000]) a0_0).bind fun t1 => (impl_toEnd.l0 k a1 t1 l0_2 (l0_2.length : Int) 0 a0_0 l0_1 l0_2 l0_3))
def impl_toEnd.en (r : List (List Int)) : Res := (.sl 0 0, [.arr 23 0 (.L r) false])
def impl_toEnd.dec : List AV → List R.Obj → Option (Int × (List Int) × (List Int) × (List Stp) × ByteArray)
  | [.agg [.int .i64 a0_0, .imm (.I .i64 l0_1), .imm (.I .i64 l0_2), .imm (.T l0_3)], .str a1], [] => some (a0_0, l0_1, l0_2, l0_3, a1)
  | _, _ => none
def impl_toEnd.tw : Tw := ⟨46, Int × (List Int) × (List Int) × (List Stp) × ByteArray, List (List Int), impl_toEnd.dec, fun a => [.agg [.int .i64 a.1, .imm (.I .i64 a.2.1), .imm (.I .i64 a.2.2.1), .imm (.T a.2.2.2.1)], .str a.2.2.2.2], fun a => [], fun k a => impl_toEnd.f k a.1 a.2.1 a.2.2.1 a.2.2.2.1 a.2.2.2.2, fun a r => impl_toEnd.en r, false⟩
theorem impl_toEnd.dok : impl_toEnd.tw.DecOk := by
  intro args hc a h
  have h : impl_toEnd.dec args hc = some a := h
  unfold impl_toEnd.dec at h
  split at h
  · cases h; exact ⟨rfl, rfl⟩
  · cases h
noncomputable def impl_toEnd.O (k : Nat) : Oracle := (slices_Repeat_int_int.tw.orc k noO)
def impl_toEnd.fh : FH := ⟨fun i => match i with | 3 => some [(1, 0), (2, 0), (5, 0), (18, 0), (19, 0), (20, 0)] | 9 => some [(1, 0), (2, 0), (5, 0), (8, 0), (9, 0)] | 13 => some [(1, 0), (2, 0), (5, 0), (8, 0), (9, 0), (10, 0), (42, 0), (43, 0), (44, 0)] | _ => none, [(true, 23)], false⟩
noncomputable def impl_toEnd.x0 (k : Nat) (x1 : ByteArray) (y1 : List Int) (x18 : List Int) (x19 : Int) (x20 : Int) (y0_0 : Int) (y0_1 : List Int) (y0_2 : List Int) (y0_3 : List Stp) : Option Res := R.exec Tryz.prog xhn impl_toEnd.O 0 Tryz.f46 impl_toEnd.fh k (R.point Tryz.f46 3) ⟨[(1, .str x1), (2, .ptr 0 0), (5, .sl 1 0), (18, .imm (.I .i64 x18)), (19, .int .i64 x19), (20, .int .i64 x20)], [(0, .box false [.int .i64 y0_0, .imm (.I .i64 y0_1), .imm (.I .i64 y0_2), .imm (.T y0_3)]), (1, .arr 3 0 (.I .i64 y1) false)], 4⟩
noncomputable def impl_toEnd.x1 (k : Nat) (x1 : ByteArray) (y1 : List Int) (y2 : List (List Int)) (x9 : Int) (y0_0 : Int) (y0_1 : List Int) (y0_2 : List Int) (y0_3 : List Stp) : Option Res := R.exec Tryz.prog xhn impl_toEnd.O 0 Tryz.f46 impl_toEnd.fh k (R.point Tryz.f46 9) ⟨[(1, .str x1), (2, .ptr 0 0), (5, .sl 1 0), (8, .sl 2 0), (9, .int .i64 x9)], [(0, .box false [.int .i64 y0_0, .imm (.I .i64 y0_1), .imm (.I .i64 y0_2), .imm (.T y0_3)]), (1, .arr 3 0 (.I .i64 y1) true), (2, .arr 23 0 (.L y2) false)], 5⟩
noncomputable def impl_toEnd.x2 (k : Nat) (x1 : ByteArray) (y1 : List Int) (y2 : List (List Int)) (x9 : Int) (y3 : List Int) (x42 : List Stp) (x43 : Int) (x44 : Int) (y0_0 : Int) (y0_1 : List Int) (y0_2 : List Int) (y0_3 : List Stp) : Option Res := R.exec Tryz.prog xhn impl_toEnd.O 0 Tryz.f46 impl_toEnd.fh k (R.point Tryz.f46 13) ⟨[(1, .str x1), (2, .ptr 0 0), (5, .sl 1 0), (8, .sl 2 0), (9, .int .i64 x9), (10, .sl 3 0), (42, .imm (.T x42)), (43, .int .i64 x43), (44, .int .i64 x44)], [(0, .box false [.int .i64 y0_0, .imm (.I .i64 y0_1), .imm (.I .i64 y0_2), .imm (.T y0_3)]), (1, .arr 3 0 (.I .i64 y1) true), (2, .arr 23 0 (.L y2) false), (3, .arr 3 0 (.I .i64 y3) false)], 6⟩
set_option maxRecDepth 100000 in
theorem impl_toEnd.e0 (k : Nat) (x1 : ByteArray) (y1 : List Int) (x18 : List Int) (x19 : Int) (x20 : Int) (y0_0 : Int) (y0_1 : List Int) (y0_2 : List Int) (y0_3 : List Stp) : impl_toEnd.x0 (k + 1) x1 y1 x18 x19 x20 y0_0 y0_1 y0_2 y0_3 = (if x20 < x19 then (if 0 ≤ x20 then (if x20 < (x18.length : Int) then (if 0 ≤ (rdI x18 x20) then (if (rdI x18 x20) < (y1.length : Int) then (impl_toEnd.x0 k x1 (y1.set (rdI x18 x20).toNat 0) x18 x19 (wr64 (x20 + 1)) y0_0 y0_1 y0_2 y0_3) else none) else none) else none) else none) else (impl_toEnd.x1 k x1 y1 ([y1]) (wr64 ((x1.size : Int) - 1)) y0_0 y0_1 y0_2 y0_3)) := by kernel_rfl
set_option maxRecDepth 100000 in
theorem impl_toEnd.e1 (k : Nat) (x1 : ByteArray) (y1 : List Int) (y2 : List (List Int)) (x9 : Int) (y0_0 : Int) (y0_1 : List Int) (y0_2 : List Int) (y0_3 : List Stp) : impl_toEnd.x1 (k + 1) x1 y1 y2 x9 y0_0 y0_1 y0_2 y0_3 = (if x9 ≥ 0 then ((slices_Repeat_int_int.f ([1000000]) y0_0).bind fun t2 => (impl_toEnd.x2 k x1 y1 y2 x9 t2 y0_3 (y0_3.length : Int) 0 y0_0 y0_1 y0_2 y0_3)) else (some (impl_toEnd.en y2))) := by kernel_rfl
set_option maxRecDepth 100000 in
theorem impl_toEnd.e2 (k : Nat) (x1 : ByteArray) (y1 : List Int) (y2 : List (List Int)) (x9 : Int) (y3 : List Int) (x42 : List Stp) (x43 : Int) (x44 : Int) (y0_0 : Int) (y0_1 : List Int) (y0_2 : List Int) (y0_3 : List Stp) : impl_toEnd.x2 (k + 1) x1 y1 y2 x9 y3 x42 x43 x44 y0_0 y0_1 y0_2 y0_3 = (if x44 < x43 then (if 0 ≤ x44 then (if x44 < (x42.length : Int) then (if 0 ≤ x9 then (if x9 ≤ (wr64 (x9 + 1)) then (if (wr64 (x9 + 1)) ≤ (x1.size : Int) then (if (rdT x42 x44).f1.toList = (x1.extract x9.toNat (wr64 (x9 + 1)).toNat).toList then (if 0 ≤ (rdT x42 x44).f0 then (if (rdT x42 x44).f0 < (y3.length : Int) then (if 0 ≤ (rdT x42 x44).f2 then (if (rdT x42 x44).f2 < (y1.length : Int) then (impl_toEnd.x2 k x1 y1 y2 x9 (y3.set (rdT x42 x44).f0.toNat (mn (rdI y3 (rdT x42 x44).f0) (wr64 ((rdT x42 x44).f3 + (rdI y1 (rdT x42 x44).f2))))) x42 x43 (wr64 (x44 + 1)) y0_0 y0_1 y0_2 y0_3) else none) else none) else none) else none) else (impl_toEnd.x2 k x1 y1 y2 x9 y3 x42 x43 (wr64 (x44 + 1)) y0_0 y0_1 y0_2 y0_3)) else none) else none) else none) else none) else none) else (if y2.length < 5864062014805 then (impl_toEnd.x1 k x1 y3 (y2 ++ [y3]) (wr64 (x9 - 1)) y0_0 y0_1 y0_2 y0_3) else none)) := by
  refine Eq.trans ?_ (R.icong (fun h0 => (R.icong (fun h1 => (R.icong (fun h2 => (R.icong (fun h3 => (R.icong (fun h4 => (R.icong (fun h5 => (R.icong (fun h6 => (R.icong (fun h7 => (R.icong (fun h8 => (R.icong (fun h9 => (R.icong (fun h10 => (R.idropT (p := 0 ≤ (rdT x42 x44).f0) (z := none) h7 (R.idropT (p := (rdT x42 x44).f0 < (y3.length : Int)) (z := none) h8 rfl))) (fun h10 => rfl))) (fun h9 => rfl))) (fun h8 => rfl))) (fun h7 => rfl))) (fun h6 => rfl))) (fun h5 => rfl))) (fun h4 => rfl))) (fun h3 => rfl))) (fun h2 => rfl))) (fun h1 => rfl))) (fun h0 => rfl))
  kernel_rfl
set_option maxRecDepth 100000 in
theorem impl_toEnd.ef (k : Nat) (a0_0 : Int) (l0_1 : List Int) (l0_2 : List Int) (l0_3 : List Stp) (a1 : ByteArray) : R.start Tryz.prog xhn impl_toEnd.O 0 Tryz.f46 impl_toEnd.fh k [.agg [.int .i64 a0_0, .imm (.I .i64 l0_1), .imm (.I .i64 l0_2), .imm (.T l0_3)], .str a1] [] = ((slices_Repeat_int_int.f ([1000000]) a0_0).bind fun t1 => (impl_toEnd.x0 k a1 t1 l0_2 (l0_2.length : Int) 0 a0_0 l0_1 l0_2 l0_3)) := by kernel_rfl
theorem impl_toEnd.link : ∀ k, (∀ (x1 : ByteArray) (y1 : List Int) (x18 : List Int) (x19 : Int) (x20 : Int) (y0_0 : Int) (y0_1 : List Int) (y0_2 : List Int) (y0_3 : List Stp), impl_toEnd.x0 k x1 y1 x18 x19 x20 y0_0 y0_1 y0_2 y0_3 = (impl_toEnd.l0 k x1 y1 x18 x19 x20 y0_0 y0_1 y0_2 y0_3).map (impl_toEnd.en)) ∧ (∀ (x1 : ByteArray) (y1 : List Int) (y2 : List (List Int)) (x9 : Int) (y0_0 : Int) (y0_1 : List Int) (y0_2 : List Int) (y0_3 : List Stp), impl_toEnd.x1 k x1 y1 y2 x9 y0_0 y0_1 y0_2 y0_3 = (impl_toEnd.l1 k x1 y1 y2 x9 y0_0 y0_1 y0_2 y0_3).map (impl_toEnd.en)) ∧ (∀ (x1 : ByteArray) (y1 : List Int) (y2 : List (List Int)) (x9 : Int) (y3 : List Int) (x42 : List Stp) (x43 : Int) (x44 : Int) (y0_0 : Int) (y0_1 : List Int) (y0_2 : List Int) (y0_3 : List Stp), impl_toEnd.x2 k x1 y1 y2 x9 y3 x42 x43 x44 y0_0 y0_1 y0_2 y0_3 = (impl_toEnd.l2 k x1 y1 y2 x9 y3 x42 x43 x44 y0_0 y0_1 y0_2 y0_3).map (impl_toEnd.en))
  | 0 => ⟨fun _ _ _ _ _ _ _ _ _ => by simp only [impl_toEnd.l0, R.map_none]; rfl, fun _ _ _ _ _ _ _ _ => by simp only [impl_toEnd.l1, R.map_none]; rfl, fun _ _ _ _ _ _ _ _ _ _ _ _ => by simp only [impl_toEnd.l2, R.map_none]; rfl⟩
  | k + 1 => by
    obtain ⟨ih0, ih1, ih2⟩ := impl_toEnd.link k
    refine ⟨?_, ?_, ?_⟩
    · intro x1 y1 x18 x19 x20 y0_0 y0_1 y0_2 y0_3
      rw [impl_toEnd.e0]
      simp only [impl_toEnd.l0, R.map_ite, R.map_bind, R.map_none, R.map_some, R.wr64_eq, ← ih0, ← ih1, ← ih2]
    · intro x1 y1 y2 x9 y0_0 y0_1 y0_2 y0_3
      rw [impl_toEnd.e1]
      simp only [impl_toEnd.l1, R.map_ite, R.map_bind, R.map_none, R.map_some, R.wr64_eq, ← ih0, ← ih1, ← ih2]
    · intro x1 y1 y2 x9 y3 x42 x43 x44 y0_0 y0_1 y0_2 y0_3
      rw [impl_toEnd.e2]
      simp only [impl_toEnd.l2, R.map_ite, R.map_bind, R.map_none, R.map_some, R.wr64_eq, ← ih0, ← ih1, ← ih2]
theorem impl_toEnd.sf (k : Nat) (a0_0 : Int) (l0_1 : List Int) (l0_2 : List Int) (l0_3 : List Stp) (a1 : ByteArray) : R.start Tryz.prog xhn impl_toEnd.O 0 Tryz.f46 impl_toEnd.fh k [.agg [.int .i64 a0_0, .imm (.I .i64 l0_1), .imm (.I .i64 l0_2), .imm (.T l0_3)], .str a1] [] = (impl_toEnd.f k a0_0 l0_1 l0_2 l0_3 a1).map (impl_toEnd.en) := by
  obtain ⟨ih0, ih1, ih2⟩ := impl_toEnd.link k
  rw [impl_toEnd.ef]
  simp only [impl_toEnd.f, R.map_ite, R.map_bind, R.map_none, R.map_some, R.wr64_eq, ← ih0, ← ih1, ← ih2]
theorem impl_toEnd.ok (k : Nat) : impl_toEnd.tw.Ok Tryz.prog k := by
  intro md hmd a r h
  refine fn_ok (H := xhn) (fh := impl_toEnd.fh) (O := impl_toEnd.O) (k := k) Tryz.func46 (by kernel_rfl) (by kernel_rfl) (fun j _ => (Tw.orc_sound slices_Repeat_int_int.dok (slices_Repeat_int_int.ok j) (fun q => Bool.noConfusion (show false = true from hmd q)) noO_sound)) (by kernel_rfl) (m := 0) rfl ?_
  refine (impl_toEnd.sf k a.1 a.2.1 a.2.2.1 a.2.2.2.1 a.2.2.2.2).trans ?_
  exact congrArg (Option.map _) h
mutual
def impl_PrefixCosts.l0 : Nat → (List Int) → (List (List Int)) → Int → Int → Int → (List Int) → (List Int) → (List Stp) → Option ((List Int) × Bool)
  | 0, _, _, _, _, _, _, _, _ => none
  | k + 1, y1, y2, x36, x37, y0_0, y0_1, y0_2, y0_3 => (if x37 < x36 then (if 0 ≤ x37 then (if x37 < (y2.length : Int) then (impl_PrefixCosts.l1 k y1 (rdL y2 x37) 1000000 y2 x36 x37 y0_2 (y0_2.length : Int) 0 y0_0 y0_1 y0_2 y0_3) else none) else none) else (some (y1, true)))
def impl_PrefixCosts.l1 : Nat → (List Int) → (List Int) → Int → (List (List Int)) → Int → Int → (List Int) → Int → Int → Int → (List Int) → (List Int) → (List Stp) → Option ((List Int) × Bool)
  | 0, _, _, _, _, _, _, _, _, _, _, _, _, _ => none
  | k + 1, y1, x11, x12, y2, x36, x37, x42, x43, x44, y0_0, y0_1, y0_2, y0_3 => (if x44 < x43 then (if 0 ≤ x44 then (if x44 < (x42.length : Int) then (if 0 ≤ (rdI x42 x44) then (if (rdI x42 x44) < (x11.length : Int) then (impl_PrefixCosts.l1 k y1 x11 (mn x12 (rdI x11 (rdI x42 x44))) y2 x36 x37 x42 x43 (wrap64 (x44 + 1)) y0_0 y0_1 y0_2 y0_3) else none) else none) else none) else none) else (if y1.length < 17592186044416 then (impl_PrefixCosts.l0 k (y1 ++ [x12]) y2 x36 (wrap64 (x37 + 1)) y0_0 y0_1 y0_2 y0_3) else none))
end
def impl_PrefixCosts.f (k : Nat) (a0_0 : Int) (l0_1 : List Int) (l0_2 : List Int) (l0_3 : List Stp) (a1 : ByteArray) : Option ((List Int) × Bool) := ((impl_ReverseAutomaton.f k a0_0 l0_1 l0_2 l0_3).bind fun t1 => (if t1.2.2.2.2 = true then ((impl_WordValid.f k a1).bind fun t2 => (if t2 = true then (if a1.size ≤ 17592186044416 then ((slices_Reverse_byte_byte.f k (numsOf a1)).bind fun t3 => ((impl_toEnd.f k t1.1 t1.2.1 t1.2.2.1 t1.2.2.2.1 (strOfNums t3)).bind fun t4 => (impl_PrefixCosts.l0 k ([] : List Int) t4 (t4.length : Int) 0 a0_0 l0_1 l0_2 l0_3))) else none) else (some (([] : List Int), false)))) else (some (([] : List Int), false))))
def impl_PrefixCosts.en (r : (List Int) × Bool) : Res := (.tup [.sl 0 0, .lit r.2], [.arr 3 0 (.I .i64 r.1) false])
def impl_PrefixCosts.dec : List AV → List R.Obj → Option (Int × (List Int) × (List Int) × (List Stp) × ByteArray)
  | [.agg [.int .i64 a0_0, .imm (.I .i64 l0_1), .imm (.I .i64 l0_2), .imm (.T l0_3)], .str a1], [] => some (a0_0, l0_1, l0_2, l0_3, a1)
  | _, _ => none
def impl_PrefixCosts.tw : Tw := ⟨12, Int × (List Int) × (List Int) × (List Stp) × ByteArray, (List Int) × Bool, impl_PrefixCosts.dec, fun a => [.agg [.int .i64 a.1, .imm (.I .i64 a.2.1), .imm (.I .i64 a.2.2.1), .imm (.T a.2.2.2.1)], .str a.2.2.2.2], fun a => [], fun k a => impl_PrefixCosts.f k a.1 a.2.1 a.2.2.1 a.2.2.2.1 a.2.2.2.2, fun a r => impl_PrefixCosts.en r, false⟩
theorem impl_PrefixCosts.dok : impl_PrefixCosts.tw.DecOk := by
  intro args hc a h
  have h : impl_PrefixCosts.dec args hc = some a := h
  unfold impl_PrefixCosts.dec at h
  split at h
  · cases h; exact ⟨rfl, rfl⟩
  · cases h
noncomputable def impl_PrefixCosts.O (k : Nat) : Oracle := (impl_ReverseAutomaton.tw.orc k (impl_WordValid.tw.orc k (slices_Reverse_byte_byte.tw.orc k (impl_toEnd.tw.orc k noO))))
def impl_PrefixCosts.fh : FH := ⟨fun i => match i with | 8 => some [(2, 0), (9, 0), (35, 0), (36, 0), (37, 0)] | 12 => some [(2, 0), (9, 0), (11, 0), (12, 0), (35, 0), (36, 0), (37, 0), (42, 0), (43, 0), (44, 0)] | _ => none, [(true, 3)], false⟩
noncomputable def impl_PrefixCosts.x0 (k : Nat) (y1 : List Int) (y2 : List (List Int)) (x36 : Int) (x37 : Int) (y0_0 : Int) (y0_1 : List Int) (y0_2 : List Int) (y0_3 : List Stp) : Option Res := R.exec Tryz.prog xhn impl_PrefixCosts.O 0 Tryz.f12 impl_PrefixCosts.fh k (R.point Tryz.f12 8) ⟨[(2, .ptr 0 0), (9, .sl 1 0), (35, .sl 2 0), (36, .int .i64 x36), (37, .int .i64 x37)], [(0, .box false [.int .i64 y0_0, .imm (.I .i64 y0_1), .imm (.I .i64 y0_2), .imm (.T y0_3)]), (1, .arr 3 0 (.I .i64 y1) false), (2, .arr 23 0 (.L y2) false)], 5⟩
noncomputable def impl_PrefixCosts.x1 (k : Nat) (y1 : List Int) (x11 : List Int) (x12 : Int) (y2 : List (List Int)) (x36 : Int) (x37 : Int) (x42 : List Int) (x43 : Int) (x44 : Int) (y0_0 : Int) (y0_1 : List Int) (y0_2 : List Int) (y0_3 : List Stp) : Option Res := R.exec Tryz.prog xhn impl_PrefixCosts.O 0 Tryz.f12 impl_PrefixCosts.fh k (R.point Tryz.f12 12) ⟨[(2, .ptr 0 0), (9, .sl 1 0), (11, .imm (.I .i64 x11)), (12, .int .i64 x12), (35, .sl 2 0), (36, .int .i64 x36), (37, .int .i64 x37), (42, .imm (.I .i64 x42)), (43, .int .i64 x43), (44, .int .i64 x44)], [(0, .box false [.int .i64 y0_0, .imm (.I .i64 y0_1), .imm (.I .i64 y0_2), .imm (.T y0_3)]), (1, .arr 3 0 (.I .i64 y1) false), (2, .arr 23 0 (.L y2) false)], 5⟩
set_option maxRecDepth 100000 in
theorem impl_PrefixCosts.e0 (k : Nat) (y1 : List Int) (y2 : List (List Int)) (x36 : Int) (x37 : Int) (y0_0 : Int) (y0_1 : List Int) (y0_2 : List Int) (y0_3 : List Stp) : impl_PrefixCosts.x0 (k + 1) y1 y2 x36 x37 y0_0 y0_1 y0_2 y0_3 = (if x37 < x36 then (if 0 ≤ x37 then (if x37 < (y2.length : Int) then (impl_PrefixCosts.x1 k y1 (rdL y2 x37) 1000000 y2 x36 x37 y0_2 (y0_2.length : Int) 0 y0_0 y0_1 y0_2 y0_3) else none) else none) else (some (impl_PrefixCosts.en (y1, true)))) := by kernel_rfl
set_option maxRecDepth 100000 in
theorem impl_PrefixCosts.e1 (k : Nat) (y1 : List Int) (x11 : List Int) (x12 : Int) (y2 : List (List Int)) (x36 : Int) (x37 : Int) (x42 : List Int) (x43 : Int) (x44 : Int) (y0_0 : Int) (y0_1 : List Int) (y0_2 : List Int) (y0_3 : List Stp) : impl_PrefixCosts.x1 (k + 1) y1 x11 x12 y2 x36 x37 x42 x43 x44 y0_0 y0_1 y0_2 y0_3 = (if x44 < x43 then (if 0 ≤ x44 then (if x44 < (x42.length : Int) then (if 0 ≤ (rdI x42 x44) then (if (rdI x42 x44) < (x11.length : Int) then (impl_PrefixCosts.x1 k y1 x11 (mn x12 (rdI x11 (rdI x42 x44))) y2 x36 x37 x42 x43 (wr64 (x44 + 1)) y0_0 y0_1 y0_2 y0_3) else none) else none) else none) else none) else (if y1.length < 17592186044416 then (impl_PrefixCosts.x0 k (y1 ++ [x12]) y2 x36 (wr64 (x37 + 1)) y0_0 y0_1 y0_2 y0_3) else none)) := by kernel_rfl
set_option maxRecDepth 100000 in
theorem impl_PrefixCosts.ef (k : Nat) (a0_0 : Int) (l0_1 : List Int) (l0_2 : List Int) (l0_3 : List Stp) (a1 : ByteArray) : R.start Tryz.prog xhn impl_PrefixCosts.O 0 Tryz.f12 impl_PrefixCosts.fh k [.agg [.int .i64 a0_0, .imm (.I .i64 l0_1), .imm (.I .i64 l0_2), .imm (.T l0_3)], .str a1] [] = ((impl_ReverseAutomaton.f k a0_0 l0_1 l0_2 l0_3).bind fun t1 => (if t1.2.2.2.2 = true then ((impl_WordValid.f k a1).bind fun t2 => (if t2 = true then (if a1.size ≤ 17592186044416 then ((slices_Reverse_byte_byte.f k (numsOf a1)).bind fun t3 => ((impl_toEnd.f k t1.1 t1.2.1 t1.2.2.1 t1.2.2.2.1 (strOfNums t3)).bind fun t4 => (impl_PrefixCosts.x0 k ([] : List Int) t4 (t4.length : Int) 0 a0_0 l0_1 l0_2 l0_3))) else none) else (some (impl_PrefixCosts.en (([] : List Int), false))))) else (some (impl_PrefixCosts.en (([] : List Int), false))))) := by kernel_rfl
theorem impl_PrefixCosts.link : ∀ k, (∀ (y1 : List Int) (y2 : List (List Int)) (x36 : Int) (x37 : Int) (y0_0 : Int) (y0_1 : List Int) (y0_2 : List Int) (y0_3 : List Stp), impl_PrefixCosts.x0 k y1 y2 x36 x37 y0_0 y0_1 y0_2 y0_3 = (impl_PrefixCosts.l0 k y1 y2 x36 x37 y0_0 y0_1 y0_2 y0_3).map (impl_PrefixCosts.en)) ∧ (∀ (y1 : List Int) (x11 : List Int) (x12 : Int) (y2 : List (List Int)) (x36 : Int) (x37 : Int) (x42 : List Int) (x43 : Int) (x44 : Int) (y0_0 : Int) (y0_1 : List Int) (y0_2 : List Int) (y0_3 : List Stp), impl_PrefixCosts.x1 k y1 x11 x12 y2 x36 x37 x42 x43 x44 y0_0 y0_1 y0_2 y0_3 = (impl_PrefixCosts.l1 k y1 x11 x12 y2 x36 x37 x42 x43 x44 y0_0 y0_1 y0_2 y0_3).map (impl_PrefixCosts.en))
  | 0 => ⟨fun _ _ _ _ _ _ _ _ => by simp only [impl_PrefixCosts.l0, R.map_none]; rfl, fun _ _ _ _ _ _ _ _ _ _ _ _ _ => by simp only [impl_PrefixCosts.l1, R.map_none]; rfl⟩
  | k + 1 => by
    obtain ⟨ih0, ih1⟩ := impl_PrefixCosts.link k
    refine ⟨?_, ?_⟩
    · intro y1 y2 x36 x37 y0_0 y0_1 y0_2 y0_3
      rw [impl_PrefixCosts.e0]
      simp only [impl_PrefixCosts.l0, R.map_ite, R.map_bind, R.map_none, R.map_some, R.wr64_eq, ← ih0, ← ih1]
    · intro y1 x11 x12 y2 x36 x37 x42 x43 x44 y0_0 y0_1 y0_2 y0_3
      rw [impl_PrefixCosts.e1]
      simp only [impl_PrefixCosts.l1, R.map_ite, R.map_bind, R.map_none, R.map_some, R.wr64_eq, ← ih0, ← ih1]
theorem impl_PrefixCosts.sf (k : Nat) (a0_0 : Int) (l0_1 : List Int) (l0_2 : List Int) (l0_3 : List Stp) (a1 : ByteArray) : R.start Tryz.prog xhn impl_PrefixCosts.O 0 Tryz.f12 impl_PrefixCosts.fh k [.agg [.int .i64 a0_0, .imm (.I .i64 l0_1), .imm (.I .i64 l0_2), .imm (.T l0_3)], .str a1] [] = (impl_PrefixCosts.f k a0_0 l0_1 l0_2 l0_3 a1).map (impl_PrefixCosts.en) := by
  obtain ⟨ih0, ih1⟩ := impl_PrefixCosts.link k
  rw [impl_PrefixCosts.ef]
  simp only [impl_PrefixCosts.f, R.map_ite, R.map_bind, R.map_none, R.map_some, R.wr64_eq, ← ih0, ← ih1]
theorem impl_PrefixCosts.ok (k : Nat) : impl_PrefixCosts.tw.Ok Tryz.prog k := by
  intro md hmd a r h
  refine fn_ok (H := xhn) (fh := impl_PrefixCosts.fh) (O := impl_PrefixCosts.O) (k := k) Tryz.func12 (by kernel_rfl) (by kernel_rfl) (fun j _ => (Tw.orc_sound impl_ReverseAutomaton.dok (impl_ReverseAutomaton.ok j) (fun q => Bool.noConfusion (show false = true from hmd q)) (Tw.orc_sound impl_WordValid.dok (impl_WordValid.ok j) (fun _ => rfl) (Tw.orc_sound slices_Reverse_byte_byte.dok (slices_Reverse_byte_byte.ok j) (fun _ => rfl) (Tw.orc_sound impl_toEnd.dok (impl_toEnd.ok j) (fun q => Bool.noConfusion (show false = true from hmd q)) noO_sound))))) (by kernel_rfl) (m := 0) rfl ?_
  refine (impl_PrefixCosts.sf k a.1 a.2.1 a.2.2.1 a.2.2.2.1 a.2.2.2.2).trans ?_
  exact congrArg (Option.map _) h
mutual
def spec_l4Least.l0 : Nat → Int → (List Int) → Int → Int → Int → (List Int) → (List Int) → (List Stp) → Int → (List Int) → Option (Int)
  | 0, _, _, _, _, _, _, _, _, _, _ => none
  | k + 1, x5, x11, x12, x13, y0_0, y0_1, y0_2, y0_3, y1_0, y1_1 => (if x13 < x12 then (if 0 ≤ x13 then (if x13 < (x11.length : Int) then (spec_l4Least.l1 k x5 (rdI x11 x13) x11 x12 x13 y0_2 (y0_2.length : Int) 0 y0_0 y0_1 y0_2 y0_3 y1_0 y1_1) else none) else none) else (some x5))
def spec_l4Least.l1 : Nat → Int → Int → (List Int) → Int → Int → (List Int) → Int → Int → Int → (List Int) → (List Int) → (List Stp) → Int → (List Int) → Option (Int)
  | 0, _, _, _, _, _, _, _, _, _, _, _, _, _, _ => none
  | k + 1, x5, x7, x11, x12, x13, x18, x19, x20, y0_0, y0_1, y0_2, y0_3, y1_0, y1_1 => (if x20 < x19 then (if 0 ≤ x20 then (if x20 < (x18.length : Int) then (if 0 ≤ (wrap64 ((wrap64 (x7 * y0_0)) + (rdI x18 x20))) then (if (wrap64 ((wrap64 (x7 * y0_0)) + (rdI x18 x20))) < (y1_1.length : Int) then (spec_l4Least.l1 k (mn x5 (rdI y1_1 (wrap64 ((wrap64 (x7 * y0_0)) + (rdI x18 x20))))) x7 x11 x12 x13 x18 x19 (wrap64 (x20 + 1)) y0_0 y0_1 y0_2 y0_3 y1_0 y1_1) else none) else none) else none) else none) else (spec_l4Least.l0 k x5 x11 x12 (wrap64 (x13 + 1)) y0_0 y0_1 y0_2 y0_3 y1_0 y1_1))
end
def spec_l4Least.f (k : Nat) (a0_0 : Int) (l0_1 : List Int) (l0_2 : List Int) (l0_3 : List Stp) (a1_0 : Int) (l1_1 : List Int) : Option (Int) := (spec_l4Least.l0 k 1000000 l0_1 (l0_1.length : Int) 0 a0_0 l0_1 l0_2 l0_3 a1_0 l1_1)
def spec_l4Least.en (r : Int) : Res := (.int .i64 r, [])
def spec_l4Least.dec : List AV → List R.Obj → Option (Int × (List Int) × (List Int) × (List Stp) × Int × (List Int))
  | [.agg [.int .i64 a0_0, .imm (.I .i64 l0_1), .imm (.I .i64 l0_2), .imm (.T l0_3)], .agg [.int .i64 a1_0, .imm (.I .i64 l1_1)]], [] => some (a0_0, l0_1, l0_2, l0_3, a1_0, l1_1)
  | _, _ => none
def spec_l4Least.tw : Tw := ⟨80, Int × (List Int) × (List Int) × (List Stp) × Int × (List Int), Int, spec_l4Least.dec, fun a => [.agg [.int .i64 a.1, .imm (.I .i64 a.2.1), .imm (.I .i64 a.2.2.1), .imm (.T a.2.2.2.1)], .agg [.int .i64 a.2.2.2.2.1, .imm (.I .i64 a.2.2.2.2.2)]], fun a => [], fun k a => spec_l4Least.f k a.1 a.2.1 a.2.2.1 a.2.2.2.1 a.2.2.2.2.1 a.2.2.2.2.2, fun a r => spec_l4Least.en r, true⟩
theorem spec_l4Least.dok : spec_l4Least.tw.DecOk := by
  intro args hc a h
  have h : spec_l4Least.dec args hc = some a := h
  unfold spec_l4Least.dec at h
  split at h
  · cases h; exact ⟨rfl, rfl⟩
  · cases h
noncomputable def spec_l4Least.O (k : Nat) : Oracle := noO
def spec_l4Least.fh : FH := ⟨fun i => match i with | 3 => some [(2, 0), (3, 0), (5, 0), (11, 0), (12, 0), (13, 0)] | 6 => some [(2, 0), (3, 0), (5, 0), (7, 0), (11, 0), (12, 0), (13, 0), (18, 0), (19, 0), (20, 0)] | _ => none, [], false⟩
noncomputable def spec_l4Least.x0 (k : Nat) (x5 : Int) (x11 : List Int) (x12 : Int) (x13 : Int) (y0_0 : Int) (y0_1 : List Int) (y0_2 : List Int) (y0_3 : List Stp) (y1_0 : Int) (y1_1 : List Int) : Option Res := R.exec Tryz.prog xhn spec_l4Least.O 0 Tryz.f80 spec_l4Least.fh k (R.point Tryz.f80 3) ⟨[(2, .ptr 0 0), (3, .ptr 1 0), (5, .int .i64 x5), (11, .imm (.I .i64 x11)), (12, .int .i64 x12), (13, .int .i64 x13)], [(0, .box false [.int .i64 y0_0, .imm (.I .i64 y0_1), .imm (.I .i64 y0_2), .imm (.T y0_3)]), (1, .box false [.int .i64 y1_0, .imm (.I .i64 y1_1)])], 4⟩
noncomputable def spec_l4Least.x1 (k : Nat) (x5 : Int) (x7 : Int) (x11 : List Int) (x12 : Int) (x13 : Int) (x18 : List Int) (x19 : Int) (x20 : Int) (y0_0 : Int) (y0_1 : List Int) (y0_2 : List Int) (y0_3 : List Stp) (y1_0 : Int) (y1_1 : List Int) : Option Res := R.exec Tryz.prog xhn spec_l4Least.O 0 Tryz.f80 spec_l4Least.fh k (R.point Tryz.f80 6) ⟨[(2, .ptr 0 0), (3, .ptr 1 0), (5, .int .i64 x5), (7, .int .i64 x7), (11, .imm (.I .i64 x11)), (12, .int .i64 x12), (13, .int .i64 x13), (18, .imm (.I .i64 x18)), (19, .int .i64 x19), (20, .int .i64 x20)], [(0, .box false [.int .i64 y0_0, .imm (.I .i64 y0_1), .imm (.I .i64 y0_2), .imm (.T y0_3)]), (1, .box false [.int .i64 y1_0, .imm (.I .i64 y1_1)])], 4⟩
set_option maxRecDepth 100000 in
theorem spec_l4Least.e0 (k : Nat) (x5 : Int) (x11 : List Int) (x12 : Int) (x13 : Int) (y0_0 : Int) (y0_1 : List Int) (y0_2 : List Int) (y0_3 : List Stp) (y1_0 : Int) (y1_1 : List Int) : spec_l4Least.x0 (k + 1) x5 x11 x12 x13 y0_0 y0_1 y0_2 y0_3 y1_0 y1_1 = (if x13 < x12 then (if 0 ≤ x13 then (if x13 < (x11.length : Int) then (spec_l4Least.x1 k x5 (rdI x11 x13) x11 x12 x13 y0_2 (y0_2.length : Int) 0 y0_0 y0_1 y0_2 y0_3 y1_0 y1_1) else none) else none) else (some (spec_l4Least.en x5))) := by kernel_rfl
set_option maxRecDepth 100000 in
theorem spec_l4Least.e1 (k : Nat) (x5 : Int) (x7 : Int) (x11 : List Int) (x12 : Int) (x13 : Int) (x18 : List Int) (x19 : Int) (x20 : Int) (y0_0 : Int) (y0_1 : List Int) (y0_2 : List Int) (y0_3 : List Stp) (y1_0 : Int) (y1_1 : List Int) : spec_l4Least.x1 (k + 1) x5 x7 x11 x12 x13 x18 x19 x20 y0_0 y0_1 y0_2 y0_3 y1_0 y1_1 = (if x20 < x19 then (if 0 ≤ x20 then (if x20 < (x18.length : Int) then (if 0 ≤ (wr64 ((wr64 (x7 * y0_0)) + (rdI x18 x20))) then (if (wr64 ((wr64 (x7 * y0_0)) + (rdI x18 x20))) < (y1_1.length : Int) then (spec_l4Least.x1 k (mn x5 (rdI y1_1 (wr64 ((wr64 (x7 * y0_0)) + (rdI x18 x20))))) x7 x11 x12 x13 x18 x19 (wr64 (x20 + 1)) y0_0 y0_1 y0_2 y0_3 y1_0 y1_1) else none) else none) else none) else none) else (spec_l4Least.x0 k x5 x11 x12 (wr64 (x13 + 1)) y0_0 y0_1 y0_2 y0_3 y1_0 y1_1)) := by kernel_rfl
set_option maxRecDepth 100000 in
theorem spec_l4Least.ef (k : Nat) (a0_0 : Int) (l0_1 : List Int) (l0_2 : List Int) (l0_3 : List Stp) (a1_0 : Int) (l1_1 : List Int) : R.start Tryz.prog xhn spec_l4Least.O 0 Tryz.f80 spec_l4Least.fh k [.agg [.int .i64 a0_0, .imm (.I .i64 l0_1), .imm (.I .i64 l0_2), .imm (.T l0_3)], .agg [.int .i64 a1_0, .imm (.I .i64 l1_1)]] [] = (spec_l4Least.x0 k 1000000 l0_1 (l0_1.length : Int) 0 a0_0 l0_1 l0_2 l0_3 a1_0 l1_1) := by kernel_rfl
theorem spec_l4Least.link : ∀ k, (∀ (x5 : Int) (x11 : List Int) (x12 : Int) (x13 : Int) (y0_0 : Int) (y0_1 : List Int) (y0_2 : List Int) (y0_3 : List Stp) (y1_0 : Int) (y1_1 : List Int), spec_l4Least.x0 k x5 x11 x12 x13 y0_0 y0_1 y0_2 y0_3 y1_0 y1_1 = (spec_l4Least.l0 k x5 x11 x12 x13 y0_0 y0_1 y0_2 y0_3 y1_0 y1_1).map (spec_l4Least.en)) ∧ (∀ (x5 : Int) (x7 : Int) (x11 : List Int) (x12 : Int) (x13 : Int) (x18 : List Int) (x19 : Int) (x20 : Int) (y0_0 : Int) (y0_1 : List Int) (y0_2 : List Int) (y0_3 : List Stp) (y1_0 : Int) (y1_1 : List Int), spec_l4Least.x1 k x5 x7 x11 x12 x13 x18 x19 x20 y0_0 y0_1 y0_2 y0_3 y1_0 y1_1 = (spec_l4Least.l1 k x5 x7 x11 x12 x13 x18 x19 x20 y0_0 y0_1 y0_2 y0_3 y1_0 y1_1).map (spec_l4Least.en))
  | 0 => ⟨fun _ _ _ _ _ _ _ _ _ _ => by simp only [spec_l4Least.l0, R.map_none]; rfl, fun _ _ _ _ _ _ _ _ _ _ _ _ _ _ => by simp only [spec_l4Least.l1, R.map_none]; rfl⟩
  | k + 1 => by
    obtain ⟨ih0, ih1⟩ := spec_l4Least.link k
    refine ⟨?_, ?_⟩
    · intro x5 x11 x12 x13 y0_0 y0_1 y0_2 y0_3 y1_0 y1_1
      rw [spec_l4Least.e0]
      simp only [spec_l4Least.l0, R.map_ite, R.map_bind, R.map_none, R.map_some, R.wr64_eq, ← ih0, ← ih1]
    · intro x5 x7 x11 x12 x13 x18 x19 x20 y0_0 y0_1 y0_2 y0_3 y1_0 y1_1
      rw [spec_l4Least.e1]
      simp only [spec_l4Least.l1, R.map_ite, R.map_bind, R.map_none, R.map_some, R.wr64_eq, ← ih0, ← ih1]
theorem spec_l4Least.sf (k : Nat) (a0_0 : Int) (l0_1 : List Int) (l0_2 : List Int) (l0_3 : List Stp) (a1_0 : Int) (l1_1 : List Int) : R.start Tryz.prog xhn spec_l4Least.O 0 Tryz.f80 spec_l4Least.fh k [.agg [.int .i64 a0_0, .imm (.I .i64 l0_1), .imm (.I .i64 l0_2), .imm (.T l0_3)], .agg [.int .i64 a1_0, .imm (.I .i64 l1_1)]] [] = (spec_l4Least.f k a0_0 l0_1 l0_2 l0_3 a1_0 l1_1).map (spec_l4Least.en) := by
  obtain ⟨ih0, ih1⟩ := spec_l4Least.link k
  rw [spec_l4Least.ef]
  simp only [spec_l4Least.f, R.map_ite, R.map_bind, R.map_none, R.map_some, R.wr64_eq, ← ih0, ← ih1]
theorem spec_l4Least.ok (k : Nat) : spec_l4Least.tw.Ok Tryz.prog k := by
  intro md hmd a r h
  refine fn_ok (H := xhn) (fh := spec_l4Least.fh) (O := spec_l4Least.O) (k := k) Tryz.func80 (by kernel_rfl) (by kernel_rfl) (fun j _ => noO_sound) (by kernel_rfl) (m := 0) rfl ?_
  refine (spec_l4Least.sf k a.1 a.2.1 a.2.2.1 a.2.2.2.1 a.2.2.2.2.1 a.2.2.2.2.2).trans ?_
  exact congrArg (Option.map _) h
def spec_l4Cost.f (k : Nat) (a0_0 : Int) (l0_1 : List Int) (l0_2 : List Int) (l0_3 : List Stp) (a1 : ByteArray) : Option (Int) := ((spec_l4Matrix.f k a0_0 l0_1 l0_2 l0_3 a1).bind fun t1 => ((spec_l4Least.f k a0_0 l0_1 l0_2 l0_3 t1.1 t1.2).bind fun t2 => (some t2)))
def spec_l4Cost.en (r : Int) : Res := (.int .i64 r, [])
def spec_l4Cost.dec : List AV → List R.Obj → Option (Int × (List Int) × (List Int) × (List Stp) × ByteArray)
  | [.agg [.int .i64 a0_0, .imm (.I .i64 l0_1), .imm (.I .i64 l0_2), .imm (.T l0_3)], .str a1], [] => some (a0_0, l0_1, l0_2, l0_3, a1)
  | _, _ => none
def spec_l4Cost.tw : Tw := ⟨47, Int × (List Int) × (List Int) × (List Stp) × ByteArray, Int, spec_l4Cost.dec, fun a => [.agg [.int .i64 a.1, .imm (.I .i64 a.2.1), .imm (.I .i64 a.2.2.1), .imm (.T a.2.2.2.1)], .str a.2.2.2.2], fun a => [], fun k a => spec_l4Cost.f k a.1 a.2.1 a.2.2.1 a.2.2.2.1 a.2.2.2.2, fun a r => spec_l4Cost.en r, true⟩
theorem spec_l4Cost.dok : spec_l4Cost.tw.DecOk := by
  intro args hc a h
  have h : spec_l4Cost.dec args hc = some a := h
  unfold spec_l4Cost.dec at h
  split at h
  · cases h; exact ⟨rfl, rfl⟩
  · cases h
noncomputable def spec_l4Cost.O (k : Nat) : Oracle := (spec_l4Matrix.tw.orc k (spec_l4Least.tw.orc k noO))
def spec_l4Cost.fh : FH := ⟨fun i => match i with | _ => none, [], false⟩
set_option maxRecDepth 100000 in
theorem spec_l4Cost.ef (k : Nat) (a0_0 : Int) (l0_1 : List Int) (l0_2 : List Int) (l0_3 : List Stp) (a1 : ByteArray) : R.start Tryz.prog xhn spec_l4Cost.O 0 Tryz.f47 spec_l4Cost.fh k [.agg [.int .i64 a0_0, .imm (.I .i64 l0_1), .imm (.I .i64 l0_2), .imm (.T l0_3)], .str a1] [] = ((spec_l4Matrix.f k a0_0 l0_1 l0_2 l0_3 a1).bind fun t1 => ((spec_l4Least.f k a0_0 l0_1 l0_2 l0_3 t1.1 t1.2).bind fun t2 => (some (spec_l4Cost.en t2)))) := by kernel_rfl
theorem spec_l4Cost.sf (k : Nat) (a0_0 : Int) (l0_1 : List Int) (l0_2 : List Int) (l0_3 : List Stp) (a1 : ByteArray) : R.start Tryz.prog xhn spec_l4Cost.O 0 Tryz.f47 spec_l4Cost.fh k [.agg [.int .i64 a0_0, .imm (.I .i64 l0_1), .imm (.I .i64 l0_2), .imm (.T l0_3)], .str a1] [] = (spec_l4Cost.f k a0_0 l0_1 l0_2 l0_3 a1).map (spec_l4Cost.en) := by
  rw [spec_l4Cost.ef]
  simp only [spec_l4Cost.f, R.map_ite, R.map_bind, R.map_none, R.map_some, R.wr64_eq]
theorem spec_l4Cost.ok (k : Nat) : spec_l4Cost.tw.Ok Tryz.prog k := by
  intro md hmd a r h
  refine fn_ok (H := xhn) (fh := spec_l4Cost.fh) (O := spec_l4Cost.O) (k := k) Tryz.func47 (by kernel_rfl) (by kernel_rfl) (fun j _ => (Tw.orc_sound spec_l4Matrix.dok (spec_l4Matrix.ok j) (fun _ => rfl) (Tw.orc_sound spec_l4Least.dok (spec_l4Least.ok j) (fun _ => rfl) noO_sound))) (by kernel_rfl) (m := 0) rfl ?_
  refine (spec_l4Cost.sf k a.1 a.2.1 a.2.2.1 a.2.2.2.1 a.2.2.2.2).trans ?_
  exact congrArg (Option.map _) h
def spec_PrefixCosts.l0 : Nat → ByteArray → (List Int) → Int → Int → Int → (List Int) → (List Int) → (List Stp) → Option ((List Int) × Bool)
  | 0, _, _, _, _, _, _, _, _ => none
  | k + 1, x1, y1, x16, x17, y0_0, y0_1, y0_2, y0_3 => (if x17 < x16 then (if 0 ≤ x17 then (if x17 ≤ (x1.size : Int) then ((spec_l4Cost.f k y0_0 y0_1 y0_2 y0_3 (x1.extract 0 x17.toNat)).bind fun t2 => (if y1.length < 17592186044416 then (spec_PrefixCosts.l0 k x1 (y1 ++ [t2]) x16 (wrap64 (x17 + 1)) y0_0 y0_1 y0_2 y0_3) else none)) else none) else none) else (some (y1, true)))
def spec_PrefixCosts.f (k : Nat) (a0_0 : Int) (l0_1 : List Int) (l0_2 : List Int) (l0_3 : List Stp) (a1 : ByteArray) : Option ((List Int) × Bool) := ((spec_l4Asked.f k a0_0 l0_1 l0_2 l0_3 a1).bind fun t1 => (if t1 = true then (spec_PrefixCosts.l0 k a1 ([] : List Int) (wrap64 ((a1.size : Int) + 1)) 0 a0_0 l0_1 l0_2 l0_3) else (some (([] : List Int), false))))
def spec_PrefixCosts.en (r : (List Int) × Bool) : Res := (.tup [.sl 0 0, .lit r.2], [.arr 3 0 (.I .i64 r.1) false])
def spec_PrefixCosts.dec : List AV → List R.Obj → Option (Int × (List Int) × (List Int) × (List Stp) × ByteArray)
  | [.agg [.int .i64 a0_0, .imm (.I .i64 l0_1), .imm (.I .i64 l0_2), .imm (.T l0_3)], .str a1], [] => some (a0_0, l0_1, l0_2, l0_3, a1)
  | _, _ => none
def spec_PrefixCosts.tw : Tw := ⟨13, Int × (List Int) × (List Int) × (List Stp) × ByteArray, (List Int) × Bool, spec_PrefixCosts.dec, fun a => [.agg [.int .i64 a.1, .imm (.I .i64 a.2.1), .imm (.I .i64 a.2.2.1), .imm (.T a.2.2.2.1)], .str a.2.2.2.2], fun a => [], fun k a => spec_PrefixCosts.f k a.1 a.2.1 a.2.2.1 a.2.2.2.1 a.2.2.2.2, fun a r => spec_PrefixCosts.en r, true⟩
theorem spec_PrefixCosts.dok : spec_PrefixCosts.tw.DecOk := by
  intro args hc a h
  have h : spec_PrefixCosts.dec args hc = some a := h
  unfold spec_PrefixCosts.dec at h
  split at h
  · cases h; exact ⟨rfl, rfl⟩
  · cases h
noncomputable def spec_PrefixCosts.O (k : Nat) : Oracle := (spec_l4Asked.tw.orc k (spec_l4Cost.tw.orc k noO))
def spec_PrefixCosts.fh : FH := ⟨fun i => match i with | 5 => some [(1, 0), (2, 0), (6, 0), (16, 0), (17, 0)] | _ => none, [(true, 3)], false⟩
noncomputable def spec_PrefixCosts.x0 (k : Nat) (x1 : ByteArray) (y1 : List Int) (x16 : Int) (x17 : Int) (y0_0 : Int) (y0_1 : List Int) (y0_2 : List Int) (y0_3 : List Stp) : Option Res := R.exec Tryz.prog xhn spec_PrefixCosts.O 0 Tryz.f13 spec_PrefixCosts.fh k (R.point Tryz.f13 5) ⟨[(1, .str x1), (2, .ptr 0 0), (6, .sl 1 0), (16, .int .i64 x16), (17, .int .i64 x17)], [(0, .box false [.int .i64 y0_0, .imm (.I .i64 y0_1), .imm (.I .i64 y0_2), .imm (.T y0_3)]), (1, .arr 3 0 (.I .i64 y1) false)], 4⟩
set_option maxRecDepth 100000 in
theorem spec_PrefixCosts.e0 (k : Nat) (x1 : ByteArray) (y1 : List Int) (x16 : Int) (x17 : Int) (y0_0 : Int) (y0_1 : List Int) (y0_2 : List Int) (y0_3 : List Stp) : spec_PrefixCosts.x0 (k + 1) x1 y1 x16 x17 y0_0 y0_1 y0_2 y0_3 = (if x17 < x16 then (if 0 ≤ x17 then (if x17 ≤ (x1.size : Int) then ((spec_l4Cost.f k y0_0 y0_1 y0_2 y0_3 (x1.extract 0 x17.toNat)).bind fun t2 => (if y1.length < 17592186044416 then (spec_PrefixCosts.x0 k x1 (y1 ++ [t2]) x16 (wr64 (x17 + 1)) y0_0 y0_1 y0_2 y0_3) else none)) else none) else none) else (some (spec_PrefixCosts.en (y1, true)))) := by kernel_rfl
set_option maxRecDepth 100000 in
theorem spec_PrefixCosts.ef (k : Nat) (a0_0 : Int) (l0_1 : List Int) (l0_2 : List Int) (l0_3 : List Stp) (a1 : ByteArray) : R.start Tryz.prog xhn spec_PrefixCosts.O 0 Tryz.f13 spec_PrefixCosts.fh k [.agg [.int .i64 a0_0, .imm (.I .i64 l0_1), .imm (.I .i64 l0_2), .imm (.T l0_3)], .str a1] [] = ((spec_l4Asked.f k a0_0 l0_1 l0_2 l0_3 a1).bind fun t1 => (if t1 = true then (spec_PrefixCosts.x0 k a1 ([] : List Int) (wr64 ((a1.size : Int) + 1)) 0 a0_0 l0_1 l0_2 l0_3) else (some (spec_PrefixCosts.en (([] : List Int), false))))) := by kernel_rfl
theorem spec_PrefixCosts.link : ∀ k, (∀ (x1 : ByteArray) (y1 : List Int) (x16 : Int) (x17 : Int) (y0_0 : Int) (y0_1 : List Int) (y0_2 : List Int) (y0_3 : List Stp), spec_PrefixCosts.x0 k x1 y1 x16 x17 y0_0 y0_1 y0_2 y0_3 = (spec_PrefixCosts.l0 k x1 y1 x16 x17 y0_0 y0_1 y0_2 y0_3).map (spec_PrefixCosts.en))
  | 0 => fun _ _ _ _ _ _ _ _ => by simp only [spec_PrefixCosts.l0, R.map_none]; rfl
  | k + 1 => by
    have ih0 := spec_PrefixCosts.link k
    · intro x1 y1 x16 x17 y0_0 y0_1 y0_2 y0_3
      rw [spec_PrefixCosts.e0]
      simp only [spec_PrefixCosts.l0, R.map_ite, R.map_bind, R.map_none, R.map_some, R.wr64_eq, ← ih0]
theorem spec_PrefixCosts.sf (k : Nat) (a0_0 : Int) (l0_1 : List Int) (l0_2 : List Int) (l0_3 : List Stp) (a1 : ByteArray) : R.start Tryz.prog xhn spec_PrefixCosts.O 0 Tryz.f13 spec_PrefixCosts.fh k [.agg [.int .i64 a0_0, .imm (.I .i64 l0_1), .imm (.I .i64 l0_2), .imm (.T l0_3)], .str a1] [] = (spec_PrefixCosts.f k a0_0 l0_1 l0_2 l0_3 a1).map (spec_PrefixCosts.en) := by
  have ih0 := spec_PrefixCosts.link k
  rw [spec_PrefixCosts.ef]
  simp only [spec_PrefixCosts.f, R.map_ite, R.map_bind, R.map_none, R.map_some, R.wr64_eq, ← ih0]
theorem spec_PrefixCosts.ok (k : Nat) : spec_PrefixCosts.tw.Ok Tryz.prog k := by
  intro md hmd a r h
  refine fn_ok (H := xhn) (fh := spec_PrefixCosts.fh) (O := spec_PrefixCosts.O) (k := k) Tryz.func13 (by kernel_rfl) (by kernel_rfl) (fun j _ => (Tw.orc_sound spec_l4Asked.dok (spec_l4Asked.ok j) (fun _ => rfl) (Tw.orc_sound spec_l4Cost.dok (spec_l4Cost.ok j) (fun _ => rfl) noO_sound))) (by kernel_rfl) (m := 0) rfl ?_
  refine (spec_PrefixCosts.sf k a.1 a.2.1 a.2.2.1 a.2.2.2.1 a.2.2.2.2).trans ?_
  exact congrArg (Option.map _) h
def impl_CostOf.l0 : Nat → ByteArray → (List (List Int)) → Int → (List Int) → Int → Int → Option (Int)
  | 0, _, _, _, _, _, _ => none
  | k + 1, x1, y0, x6, x21, x22, x23 => (if x23 < x22 then (if 0 ≤ x23 then (if x23 < (x21.length : Int) then (if 0 ≤ (x1.size : Int) then (if (x1.size : Int) < (y0.length : Int) then (if 0 ≤ (rdI x21 x23) then (if (rdI x21 x23) < ((rdL y0 (x1.size : Int)).length : Int) then (impl_CostOf.l0 k x1 y0 (mn x6 (rdI (rdL y0 (x1.size : Int)) (rdI x21 x23))) x21 x22 (wrap64 (x23 + 1))) else none) else none) else none) else none) else none) else none) else (some x6))
def impl_CostOf.f (k : Nat) (a0_0 : Int) (l0_1 : List Int) (l0_2 : List Int) (l0_3 : List Stp) (a1 : ByteArray) : Option (Int) := ((impl_AutomatonValid.f k a0_0 l0_1 l0_2 l0_3).bind fun t1 => (if t1 = true then ((impl_WordValid.f k a1).bind fun t2 => (if t2 = true then ((impl_toEnd.f k a0_0 l0_1 l0_2 l0_3 a1).bind fun t3 => (impl_CostOf.l0 k a1 t3 1000000 l0_1 (l0_1.length : Int) 0)) else (some (-1)))) else (some (-1))))
def impl_CostOf.en (r : Int) : Res := (.int .i64 r, [])
def impl_CostOf.dec : List AV → List R.Obj → Option (Int × (List Int) × (List Int) × (List Stp) × ByteArray)
  | [.agg [.int .i64 a0_0, .imm (.I .i64 l0_1), .imm (.I .i64 l0_2), .imm (.T l0_3)], .str a1], [] => some (a0_0, l0_1, l0_2, l0_3, a1)
  | _, _ => none
def impl_CostOf.tw : Tw := ⟨15, Int × (List Int) × (List Int) × (List Stp) × ByteArray, Int, impl_CostOf.dec, fun a => [.agg [.int .i64 a.1, .imm (.I .i64 a.2.1), .imm (.I .i64 a.2.2.1), .imm (.T a.2.2.2.1)], .str a.2.2.2.2], fun a => [], fun k a => impl_CostOf.f k a.1 a.2.1 a.2.2.1 a.2.2.2.1 a.2.2.2.2, fun a r => impl_CostOf.en r, false⟩
theorem impl_CostOf.dok : impl_CostOf.tw.DecOk := by
  intro args hc a h
  have h : impl_CostOf.dec args hc = some a := h
  unfold impl_CostOf.dec at h
  split at h
  · cases h; exact ⟨rfl, rfl⟩
  · cases h
noncomputable def impl_CostOf.O (k : Nat) : Oracle := (impl_AutomatonValid.tw.orc k (impl_WordValid.tw.orc k (impl_toEnd.tw.orc k noO)))
def impl_CostOf.fh : FH := ⟨fun i => match i with | 6 => some [(1, 0), (5, 0), (6, 0), (21, 0), (22, 0), (23, 0)] | _ => none, [], false⟩
noncomputable def impl_CostOf.x0 (k : Nat) (x1 : ByteArray) (y0 : List (List Int)) (x6 : Int) (x21 : List Int) (x22 : Int) (x23 : Int) : Option Res := R.exec Tryz.prog xhn impl_CostOf.O 0 Tryz.f15 impl_CostOf.fh k (R.point Tryz.f15 6) ⟨[(1, .str x1), (5, .sl 0 0), (6, .int .i64 x6), (21, .imm (.I .i64 x21)), (22, .int .i64 x22), (23, .int .i64 x23)], [(0, .arr 23 0 (.L y0) false)], 3⟩
set_option maxRecDepth 100000 in
theorem impl_CostOf.e0 (k : Nat) (x1 : ByteArray) (y0 : List (List Int)) (x6 : Int) (x21 : List Int) (x22 : Int) (x23 : Int) : impl_CostOf.x0 (k + 1) x1 y0 x6 x21 x22 x23 = (if x23 < x22 then (if 0 ≤ x23 then (if x23 < (x21.length : Int) then (if 0 ≤ (x1.size : Int) then (if (x1.size : Int) < (y0.length : Int) then (if 0 ≤ (rdI x21 x23) then (if (rdI x21 x23) < ((rdL y0 (x1.size : Int)).length : Int) then (impl_CostOf.x0 k x1 y0 (mn x6 (rdI (rdL y0 (x1.size : Int)) (rdI x21 x23))) x21 x22 (wr64 (x23 + 1))) else none) else none) else none) else none) else none) else none) else (some (impl_CostOf.en x6))) := by kernel_rfl
set_option maxRecDepth 100000 in
theorem impl_CostOf.ef (k : Nat) (a0_0 : Int) (l0_1 : List Int) (l0_2 : List Int) (l0_3 : List Stp) (a1 : ByteArray) : R.start Tryz.prog xhn impl_CostOf.O 0 Tryz.f15 impl_CostOf.fh k [.agg [.int .i64 a0_0, .imm (.I .i64 l0_1), .imm (.I .i64 l0_2), .imm (.T l0_3)], .str a1] [] = ((impl_AutomatonValid.f k a0_0 l0_1 l0_2 l0_3).bind fun t1 => (if t1 = true then ((impl_WordValid.f k a1).bind fun t2 => (if t2 = true then ((impl_toEnd.f k a0_0 l0_1 l0_2 l0_3 a1).bind fun t3 => (impl_CostOf.x0 k a1 t3 1000000 l0_1 (l0_1.length : Int) 0)) else (some (impl_CostOf.en (-1))))) else (some (impl_CostOf.en (-1))))) := by kernel_rfl
theorem impl_CostOf.link : ∀ k, (∀ (x1 : ByteArray) (y0 : List (List Int)) (x6 : Int) (x21 : List Int) (x22 : Int) (x23 : Int), impl_CostOf.x0 k x1 y0 x6 x21 x22 x23 = (impl_CostOf.l0 k x1 y0 x6 x21 x22 x23).map (impl_CostOf.en))
  | 0 => fun _ _ _ _ _ _ => by simp only [impl_CostOf.l0, R.map_none]; rfl
  | k + 1 => by
    have ih0 := impl_CostOf.link k
    · intro x1 y0 x6 x21 x22 x23
      rw [impl_CostOf.e0]
      simp only [impl_CostOf.l0, R.map_ite, R.map_bind, R.map_none, R.map_some, R.wr64_eq, ← ih0]
theorem impl_CostOf.sf (k : Nat) (a0_0 : Int) (l0_1 : List Int) (l0_2 : List Int) (l0_3 : List Stp) (a1 : ByteArray) : R.start Tryz.prog xhn impl_CostOf.O 0 Tryz.f15 impl_CostOf.fh k [.agg [.int .i64 a0_0, .imm (.I .i64 l0_1), .imm (.I .i64 l0_2), .imm (.T l0_3)], .str a1] [] = (impl_CostOf.f k a0_0 l0_1 l0_2 l0_3 a1).map (impl_CostOf.en) := by
  have ih0 := impl_CostOf.link k
  rw [impl_CostOf.ef]
  simp only [impl_CostOf.f, R.map_ite, R.map_bind, R.map_none, R.map_some, R.wr64_eq, ← ih0]
theorem impl_CostOf.ok (k : Nat) : impl_CostOf.tw.Ok Tryz.prog k := by
  intro md hmd a r h
  refine fn_ok (H := xhn) (fh := impl_CostOf.fh) (O := impl_CostOf.O) (k := k) Tryz.func15 (by kernel_rfl) (by kernel_rfl) (fun j _ => (Tw.orc_sound impl_AutomatonValid.dok (impl_AutomatonValid.ok j) (fun _ => rfl) (Tw.orc_sound impl_WordValid.dok (impl_WordValid.ok j) (fun _ => rfl) (Tw.orc_sound impl_toEnd.dok (impl_toEnd.ok j) (fun q => Bool.noConfusion (show false = true from hmd q)) noO_sound)))) (by kernel_rfl) (m := 0) rfl ?_
  refine (impl_CostOf.sf k a.1 a.2.1 a.2.2.1 a.2.2.2.1 a.2.2.2.2).trans ?_
  exact congrArg (Option.map _) h
end Go.Proofs.YthnjbjihphbcpaaGreat.V
end
