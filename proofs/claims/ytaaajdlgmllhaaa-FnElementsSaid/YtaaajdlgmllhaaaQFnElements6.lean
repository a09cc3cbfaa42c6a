import Derived.Test.YtaaajdlgmllhaaaQFnElements5
import Derived.Test.YtaaajdlgmllhaaaQFnElements4
import Derived.Test.YtaaajdlgmllhaaaProg
import Derived.WalkKit
import Derived.ProofKit
import Derived.Lib.Bytealg
import Derived.Test.YtaaajdlgmllhaaaQFnElements2
import Derived.Below
section
set_option linter.unusedVariables false
set_option linter.unusedSimpArgs false
namespace Go.Proofs.Ytaaajdlgmllhaaa.V
open Go Go.Proofs.Ytaaajdlgmllhaaa.R Go.RowKit
def slices_ContainsFunc_int_int_b.f (k : Nat) (l0 : List Int) : Option (Bool) := ((slices_IndexFunc_int_int_b.f k l0).bind fun t1 => (some (decide (t1 ≥ 0))))
def slices_ContainsFunc_int_int_b.en (r : Bool) : Res := (.lit r, [])
def slices_ContainsFunc_int_int_b.dec : List AV → List R.Obj → Option (List Int)
  | [.imm (.I .i64 l0), .clo 114 []], [] => some l0
  | _, _ => none
def slices_ContainsFunc_int_int_b.tw : Tw := ⟨113, List Int, Bool, slices_ContainsFunc_int_int_b.dec, fun a => [.imm (.I .i64 a), .clo 114 []], fun a => [], fun k a => slices_ContainsFunc_int_int_b.f k a, fun a r => slices_ContainsFunc_int_int_b.en r⟩
theorem slices_ContainsFunc_int_int_b.dok : slices_ContainsFunc_int_int_b.tw.DecOk := by
  intro args hc a h
  have h : slices_ContainsFunc_int_int_b.dec args hc = some a := h
  unfold slices_ContainsFunc_int_int_b.dec at h
  split at h
  · cases h; exact ⟨rfl, rfl⟩
  · cases h
noncomputable def slices_ContainsFunc_int_int_b.O (k : Nat) : Oracle := (slices_IndexFunc_int_int_b.tw.orc k noO)
def slices_ContainsFunc_int_int_b.fh : FH := ⟨fun i => match i with | _ => none, [], false⟩
set_option maxRecDepth 100000 in
theorem slices_ContainsFunc_int_int_b.ef (k : Nat) (l0 : List Int) : R.start Try.prog xhn slices_ContainsFunc_int_int_b.O 0 Try.f113 slices_ContainsFunc_int_int_b.fh k [.imm (.I .i64 l0), .clo 114 []] [] = ((slices_IndexFunc_int_int_b.f k l0).bind fun t1 => (some (slices_ContainsFunc_int_int_b.en (decide (t1 ≥ 0))))) := by kernel_rfl
theorem slices_ContainsFunc_int_int_b.sf (k : Nat) (l0 : List Int) : R.start Try.prog xhn slices_ContainsFunc_int_int_b.O 0 Try.f113 slices_ContainsFunc_int_int_b.fh k [.imm (.I .i64 l0), .clo 114 []] [] = (slices_ContainsFunc_int_int_b.f k l0).map (slices_ContainsFunc_int_int_b.en) := by
  rw [slices_ContainsFunc_int_int_b.ef]
  simp only [slices_ContainsFunc_int_int_b.f, R.map_ite, R.map_bind, R.map_none, R.map_some, R.wr64_eq]
theorem slices_ContainsFunc_int_int_b.ok (k : Nat) : slices_ContainsFunc_int_int_b.tw.Ok Try.prog k := by
  intro a r h
  refine fn_ok (H := xhn) (fh := slices_ContainsFunc_int_int_b.fh) (O := slices_ContainsFunc_int_int_b.O) (k := k) Try.func113 (by kernel_rfl) (by kernel_rfl) (fun j _ => (Tw.orc_sound slices_IndexFunc_int_int_b.dok (slices_IndexFunc_int_int_b.ok j) noO_sound)) (by kernel_rfl) (m := 0) rfl ?_
  refine (slices_ContainsFunc_int_int_b.sf k a).trans ?_
  exact congrArg (Option.map _) h
def impl_GradesValid.f (k : Nat) (a0_0 : Int) (l0_1 : List Int) : Option (Bool) := ((impl_MatrixValid.f k a0_0 l0_1).bind fun t1 => (if t1 = true then ((slices_ContainsFunc_int_int_b.f k l0_1).bind fun t2 => (some (!decide (t2 = true)))) else (some false)))
def impl_GradesValid.en (r : Bool) : Res := (.lit r, [])
def impl_GradesValid.dec : List AV → List R.Obj → Option (Int × (List Int))
  | [.agg [.int .i64 a0_0, .imm (.I .i64 l0_1)]], [] => some (a0_0, l0_1)
  | _, _ => none
def impl_GradesValid.tw : Tw := ⟨46, Int × (List Int), Bool, impl_GradesValid.dec, fun a => [.agg [.int .i64 a.1, .imm (.I .i64 a.2)]], fun a => [], fun k a => impl_GradesValid.f k a.1 a.2, fun a r => impl_GradesValid.en r⟩
theorem impl_GradesValid.dok : impl_GradesValid.tw.DecOk := by
  intro args hc a h
  have h : impl_GradesValid.dec args hc = some a := h
  unfold impl_GradesValid.dec at h
  split at h
  · cases h; exact ⟨rfl, rfl⟩
  · cases h
noncomputable def impl_GradesValid.O (k : Nat) : Oracle := (impl_MatrixValid.tw.orc k (slices_ContainsFunc_int_int_b.tw.orc k noO))
def impl_GradesValid.fh : FH := ⟨fun i => match i with | _ => none, [], false⟩
set_option maxRecDepth 100000 in
theorem impl_GradesValid.ef (k : Nat) (a0_0 : Int) (l0_1 : List Int) : R.start Try.prog xhn impl_GradesValid.O 0 Try.f46 impl_GradesValid.fh k [.agg [.int .i64 a0_0, .imm (.I .i64 l0_1)]] [] = ((impl_MatrixValid.f k a0_0 l0_1).bind fun t1 => (if t1 = true then ((slices_ContainsFunc_int_int_b.f k l0_1).bind fun t2 => (some (impl_GradesValid.en (!decide (t2 = true))))) else (some (impl_GradesValid.en false)))) := by kernel_rfl
theorem impl_GradesValid.sf (k : Nat) (a0_0 : Int) (l0_1 : List Int) : R.start Try.prog xhn impl_GradesValid.O 0 Try.f46 impl_GradesValid.fh k [.agg [.int .i64 a0_0, .imm (.I .i64 l0_1)]] [] = (impl_GradesValid.f k a0_0 l0_1).map (impl_GradesValid.en) := by
  rw [impl_GradesValid.ef]
  simp only [impl_GradesValid.f, R.map_ite, R.map_bind, R.map_none, R.map_some, R.wr64_eq]
theorem impl_GradesValid.ok (k : Nat) : impl_GradesValid.tw.Ok Try.prog k := by
  intro a r h
  refine fn_ok (H := xhn) (fh := impl_GradesValid.fh) (O := impl_GradesValid.O) (k := k) Try.func46 (by kernel_rfl) (by kernel_rfl) (fun j _ => (Tw.orc_sound impl_MatrixValid.dok (impl_MatrixValid.ok j) (Tw.orc_sound slices_ContainsFunc_int_int_b.dok (slices_ContainsFunc_int_int_b.ok j) noO_sound))) (by kernel_rfl) (m := 0) rfl ?_
  refine (impl_GradesValid.sf k a.1 a.2).trans ?_
  exact congrArg (Option.map _) h
def impl_MulGrades_1.l0 : Nat → Int → Int → Int → Int → Int → Int → (List Int) → Int → (List Int) → Option (Int)
  | 0, _, _, _, _, _, _, _, _, _ => none
  | k + 1, x0, x1, x7, x10, x11, y0_0, y0_1, y1_0, y1_1 => (if x11 < x10 then ((impl_Matrix_at.f y0_0 y0_1 x0 x11).bind fun t1 => ((impl_Matrix_at.f y1_0 y1_1 x11 x1).bind fun t2 => (impl_MulGrades_1.l0 k x0 x1 (mn x7 (mx t1 t2)) x10 (wrap64 (x11 + 1)) y0_0 y0_1 y1_0 y1_1))) else (some x7))
def impl_MulGrades_1.f (k : Nat) (a0 : Int) (a1 : Int) (a4_0 : Int) (l4_1 : List Int) (a5_0 : Int) (l5_1 : List Int) : Option (Int) := (impl_MulGrades_1.l0 k a0 a1 3 a4_0 0 a4_0 l4_1 a5_0 l5_1)
def impl_MulGrades_1.en (a4_0 : Int) (l4_1 : List Int) (a5_0 : Int) (l5_1 : List Int) (r : Int) : Res := (.int .i64 r, [.box true [.int .i64 a4_0, .imm (.I .i64 l4_1)], .box true [.int .i64 a5_0, .imm (.I .i64 l5_1)]])
def impl_MulGrades_1.dec : List AV → List R.Obj → Option (Int × Int × Int × (List Int) × Int × (List Int))
  | [.int .i64 a0, .int .i64 a1, .ptr 0 0, .ptr 1 0], [.box true [.int .i64 a4_0, .imm (.I .i64 l4_1)], .box true [.int .i64 a5_0, .imm (.I .i64 l5_1)]] => some (a0, a1, a4_0, l4_1, a5_0, l5_1)
  | _, _ => none
def impl_MulGrades_1.tw : Tw := ⟨112, Int × Int × Int × (List Int) × Int × (List Int), Int, impl_MulGrades_1.dec, fun a => [.int .i64 a.1, .int .i64 a.2.1, .ptr 0 0, .ptr 1 0], fun a => [.box true [.int .i64 a.2.2.1, .imm (.I .i64 a.2.2.2.1)], .box true [.int .i64 a.2.2.2.2.1, .imm (.I .i64 a.2.2.2.2.2)]], fun k a => impl_MulGrades_1.f k a.1 a.2.1 a.2.2.1 a.2.2.2.1 a.2.2.2.2.1 a.2.2.2.2.2, fun a r => impl_MulGrades_1.en a.2.2.1 a.2.2.2.1 a.2.2.2.2.1 a.2.2.2.2.2 r⟩
theorem impl_MulGrades_1.dok : impl_MulGrades_1.tw.DecOk := by
  intro args hc a h
  have h : impl_MulGrades_1.dec args hc = some a := h
  unfold impl_MulGrades_1.dec at h
  split at h
  · cases h; exact ⟨rfl, rfl⟩
  · cases h
noncomputable def impl_MulGrades_1.O (k : Nat) : Oracle := (impl_Matrix_at.tw.orc k noO)
def impl_MulGrades_1.fh : FH := ⟨fun i => match i with | 3 => some [(0, 0), (1, 0), (2, 0), (3, 0), (7, 0), (10, 0), (11, 0)] | _ => none, [], false⟩
noncomputable def impl_MulGrades_1.x0 (k : Nat) (x0 : Int) (x1 : Int) (x7 : Int) (x10 : Int) (x11 : Int) (y0_0 : Int) (y0_1 : List Int) (y1_0 : Int) (y1_1 : List Int) : Option Res := R.exec Try.prog xhn impl_MulGrades_1.O 2 Try.f112 impl_MulGrades_1.fh k (R.point Try.f112 3) ⟨[(0, .int .i64 x0), (1, .int .i64 x1), (2, .ptr 0 0), (3, .ptr 1 0), (7, .int .i64 x7), (10, .int .i64 x10), (11, .int .i64 x11)], [(0, .box true [.int .i64 y0_0, .imm (.I .i64 y0_1)]), (1, .box true [.int .i64 y1_0, .imm (.I .i64 y1_1)])], 4⟩
set_option maxRecDepth 100000 in
theorem impl_MulGrades_1.e0 (k : Nat) (x0 : Int) (x1 : Int) (x7 : Int) (x10 : Int) (x11 : Int) (y0_0 : Int) (y0_1 : List Int) (y1_0 : Int) (y1_1 : List Int) : impl_MulGrades_1.x0 (k + 1) x0 x1 x7 x10 x11 y0_0 y0_1 y1_0 y1_1 = (if x11 < x10 then ((impl_Matrix_at.f y0_0 y0_1 x0 x11).bind fun t1 => ((impl_Matrix_at.f y1_0 y1_1 x11 x1).bind fun t2 => (impl_MulGrades_1.x0 k x0 x1 (mn x7 (mx t1 t2)) x10 (wr64 (x11 + 1)) y0_0 y0_1 y1_0 y1_1))) else (some (impl_MulGrades_1.en y0_0 y0_1 y1_0 y1_1 x7))) := by kernel_rfl
set_option maxRecDepth 100000 in
theorem impl_MulGrades_1.ef (k : Nat) (a0 : Int) (a1 : Int) (a4_0 : Int) (l4_1 : List Int) (a5_0 : Int) (l5_1 : List Int) : R.start Try.prog xhn impl_MulGrades_1.O 2 Try.f112 impl_MulGrades_1.fh k [.int .i64 a0, .int .i64 a1, .ptr 0 0, .ptr 1 0] [.box true [.int .i64 a4_0, .imm (.I .i64 l4_1)], .box true [.int .i64 a5_0, .imm (.I .i64 l5_1)]] = (impl_MulGrades_1.x0 k a0 a1 3 a4_0 0 a4_0 l4_1 a5_0 l5_1) := by kernel_rfl
theorem impl_MulGrades_1.link : ∀ k, (∀ (x0 : Int) (x1 : Int) (x7 : Int) (x10 : Int) (x11 : Int) (y0_0 : Int) (y0_1 : List Int) (y1_0 : Int) (y1_1 : List Int), impl_MulGrades_1.x0 k x0 x1 x7 x10 x11 y0_0 y0_1 y1_0 y1_1 = (impl_MulGrades_1.l0 k x0 x1 x7 x10 x11 y0_0 y0_1 y1_0 y1_1).map (impl_MulGrades_1.en y0_0 y0_1 y1_0 y1_1))
  | 0 => fun _ _ _ _ _ _ _ _ _ => by simp only [impl_MulGrades_1.l0, R.map_none]; rfl
  | k + 1 => by
    have ih0 := impl_MulGrades_1.link k
    · intro x0 x1 x7 x10 x11 y0_0 y0_1 y1_0 y1_1
      rw [impl_MulGrades_1.e0]
      simp only [impl_MulGrades_1.l0, R.map_ite, R.map_bind, R.map_none, R.map_some, R.wr64_eq, ← ih0]
theorem impl_MulGrades_1.sf (k : Nat) (a0 : Int) (a1 : Int) (a4_0 : Int) (l4_1 : List Int) (a5_0 : Int) (l5_1 : List Int) : R.start Try.prog xhn impl_MulGrades_1.O 2 Try.f112 impl_MulGrades_1.fh k [.int .i64 a0, .int .i64 a1, .ptr 0 0, .ptr 1 0] [.box true [.int .i64 a4_0, .imm (.I .i64 l4_1)], .box true [.int .i64 a5_0, .imm (.I .i64 l5_1)]] = (impl_MulGrades_1.f k a0 a1 a4_0 l4_1 a5_0 l5_1).map (impl_MulGrades_1.en a4_0 l4_1 a5_0 l5_1) := by
  have ih0 := impl_MulGrades_1.link k
  rw [impl_MulGrades_1.ef]
  simp only [impl_MulGrades_1.f, R.map_ite, R.map_bind, R.map_none, R.map_some, R.wr64_eq, ← ih0]
theorem impl_MulGrades_1.ok (k : Nat) : impl_MulGrades_1.tw.Ok Try.prog k := by
  intro a r h
  refine fn_ok (H := xhn) (fh := impl_MulGrades_1.fh) (O := impl_MulGrades_1.O) (k := k) Try.func112 (by kernel_rfl) (by kernel_rfl) (fun j _ => (Tw.orc_sound impl_Matrix_at.dok (impl_Matrix_at.ok j) noO_sound)) (by kernel_rfl) (m := 2) rfl ?_
  refine (impl_MulGrades_1.sf k a.1 a.2.1 a.2.2.1 a.2.2.2.1 a.2.2.2.2.1 a.2.2.2.2.2).trans ?_
  exact congrArg (Option.map _) h
mutual
def impl_filled_c.l0 : Nat → Int → Int → Int → Int → (List Int) → Int → (List Int) → Int → (List Int) → Option (Int × (List Int))
  | 0, _, _, _, _, _, _, _, _, _ => none
  | k + 1, x0, x10, x11, y0_0, y0_1, y1_0, y1_1, y3_0, y5 => (if x11 < x10 then (impl_filled_c.l1 k x0 x11 x10 x11 x0 0 y0_0 y0_1 y1_0 y1_1 y3_0 y5) else (some (y3_0, y5)))
def impl_filled_c.l1 : Nat → Int → Int → Int → Int → Int → Int → Int → (List Int) → Int → (List Int) → Int → (List Int) → Option (Int × (List Int))
  | 0, _, _, _, _, _, _, _, _, _, _, _, _ => none
  | k + 1, x0, x6, x10, x11, x14, x15, y0_0, y0_1, y1_0, y1_1, y3_0, y5 => (if x15 < x14 then ((impl_MulGrades_1.f k x6 x15 y0_0 y0_1 y1_0 y1_1).bind fun t1 => (if y5.length < 17592186044416 then (impl_filled_c.l1 k x0 x6 x10 x11 x14 (wrap64 (x15 + 1)) y0_0 y0_1 y1_0 y1_1 y3_0 (y5 ++ [t1])) else none)) else (impl_filled_c.l0 k x0 x10 (wrap64 (x11 + 1)) y0_0 y0_1 y1_0 y1_1 y3_0 y5))
end
def impl_filled_c.f (k : Nat) (a0 : Int) (a2_0 : Int) (l2_1 : List Int) (a3_0 : Int) (l3_1 : List Int) : Option (Int × (List Int)) := (impl_filled_c.l0 k a0 a0 0 a2_0 l2_1 a3_0 l3_1 a0 ([] : List Int))
def impl_filled_c.en (a2_0 : Int) (l2_1 : List Int) (a3_0 : Int) (l3_1 : List Int) (r : Int × (List Int)) : Res := (.agg [.int .i64 r.1, .sl 2 0], [.box true [.int .i64 a2_0, .imm (.I .i64 l2_1)], .box true [.int .i64 a3_0, .imm (.I .i64 l3_1)], .arr 3 0 (.I .i64 r.2) false])
def impl_filled_c.dec : List AV → List R.Obj → Option (Int × Int × (List Int) × Int × (List Int))
  | [.int .i64 a0, .clo 112 [.ptr 0 0, .ptr 1 0]], [.box true [.int .i64 a2_0, .imm (.I .i64 l2_1)], .box true [.int .i64 a3_0, .imm (.I .i64 l3_1)]] => some (a0, a2_0, l2_1, a3_0, l3_1)
  | _, _ => none
def impl_filled_c.tw : Tw := ⟨107, Int × Int × (List Int) × Int × (List Int), Int × (List Int), impl_filled_c.dec, fun a => [.int .i64 a.1, .clo 112 [.ptr 0 0, .ptr 1 0]], fun a => [.box true [.int .i64 a.2.1, .imm (.I .i64 a.2.2.1)], .box true [.int .i64 a.2.2.2.1, .imm (.I .i64 a.2.2.2.2)]], fun k a => impl_filled_c.f k a.1 a.2.1 a.2.2.1 a.2.2.2.1 a.2.2.2.2, fun a r => impl_filled_c.en a.2.1 a.2.2.1 a.2.2.2.1 a.2.2.2.2 r⟩
theorem impl_filled_c.dok : impl_filled_c.tw.DecOk := by
  intro args hc a h
  have h : impl_filled_c.dec args hc = some a := h
  unfold impl_filled_c.dec at h
  split at h
  · cases h; exact ⟨rfl, rfl⟩
  · cases h
noncomputable def impl_filled_c.O (k : Nat) : Oracle := (impl_MulGrades_1.tw.orc k noO)
def impl_filled_c.fh : FH := ⟨fun i => match i with | 3 => some [(0, 0), (1, 0), (4, 0), (5, 0), (10, 0), (11, 0)] | 6 => some [(0, 0), (1, 0), (4, 0), (5, 0), (6, 0), (10, 0), (11, 0), (14, 0), (15, 0)] | _ => none, [(true, 3)], false⟩
noncomputable def impl_filled_c.x0 (k : Nat) (x0 : Int) (x10 : Int) (x11 : Int) (y0_0 : Int) (y0_1 : List Int) (y1_0 : Int) (y1_1 : List Int) (y3_0 : Int) (y5 : List Int) : Option Res := R.exec Try.prog xhn impl_filled_c.O 2 Try.f107 impl_filled_c.fh k (R.point Try.f107 3) ⟨[(0, .int .i64 x0), (1, .clo 112 [.ptr 0 0, .ptr 1 0]), (4, .ptr 2 0), (5, .ptr 3 0), (10, .int .i64 x10), (11, .int .i64 x11)], [(0, .box true [.int .i64 y0_0, .imm (.I .i64 y0_1)]), (1, .box true [.int .i64 y1_0, .imm (.I .i64 y1_1)]), (2, .box false [.int .i64 0, .sl 4 0]), (3, .box false [.int .i64 y3_0, .sl 5 0]), (4, .arr 3 0 (.I .i64 ([] : List Int)) false), (5, .arr 3 0 (.I .i64 y5) false)], 8⟩
noncomputable def impl_filled_c.x1 (k : Nat) (x0 : Int) (x6 : Int) (x10 : Int) (x11 : Int) (x14 : Int) (x15 : Int) (y0_0 : Int) (y0_1 : List Int) (y1_0 : Int) (y1_1 : List Int) (y3_0 : Int) (y5 : List Int) : Option Res := R.exec Try.prog xhn impl_filled_c.O 2 Try.f107 impl_filled_c.fh k (R.point Try.f107 6) ⟨[(0, .int .i64 x0), (1, .clo 112 [.ptr 0 0, .ptr 1 0]), (4, .ptr 2 0), (5, .ptr 3 0), (6, .int .i64 x6), (10, .int .i64 x10), (11, .int .i64 x11), (14, .int .i64 x14), (15, .int .i64 x15)], [(0, .box true [.int .i64 y0_0, .imm (.I .i64 y0_1)]), (1, .box true [.int .i64 y1_0, .imm (.I .i64 y1_1)]), (2, .box false [.int .i64 0, .sl 4 0]), (3, .box false [.int .i64 y3_0, .sl 5 0]), (4, .arr 3 0 (.I .i64 ([] : List Int)) false), (5, .arr 3 0 (.I .i64 y5) false)], 8⟩
set_option maxRecDepth 100000 in
theorem impl_filled_c.e0 (k : Nat) (x0 : Int) (x10 : Int) (x11 : Int) (y0_0 : Int) (y0_1 : List Int) (y1_0 : Int) (y1_1 : List Int) (y3_0 : Int) (y5 : List Int) : impl_filled_c.x0 (k + 1) x0 x10 x11 y0_0 y0_1 y1_0 y1_1 y3_0 y5 = (if x11 < x10 then (impl_filled_c.x1 k x0 x11 x10 x11 x0 0 y0_0 y0_1 y1_0 y1_1 y3_0 y5) else (some (impl_filled_c.en y0_0 y0_1 y1_0 y1_1 (y3_0, y5)))) := by kernel_rfl
set_option maxRecDepth 100000 in
theorem impl_filled_c.e1 (k : Nat) (x0 : Int) (x6 : Int) (x10 : Int) (x11 : Int) (x14 : Int) (x15 : Int) (y0_0 : Int) (y0_1 : List Int) (y1_0 : Int) (y1_1 : List Int) (y3_0 : Int) (y5 : List Int) : impl_filled_c.x1 (k + 1) x0 x6 x10 x11 x14 x15 y0_0 y0_1 y1_0 y1_1 y3_0 y5 = (if x15 < x14 then ((impl_MulGrades_1.f k x6 x15 y0_0 y0_1 y1_0 y1_1).bind fun t1 => (if y5.length < 17592186044416 then (impl_filled_c.x1 k x0 x6 x10 x11 x14 (wr64 (x15 + 1)) y0_0 y0_1 y1_0 y1_1 y3_0 (y5 ++ [t1])) else none)) else (impl_filled_c.x0 k x0 x10 (wr64 (x11 + 1)) y0_0 y0_1 y1_0 y1_1 y3_0 y5)) := by kernel_rfl
set_option maxRecDepth 100000 in
theorem impl_filled_c.ef (k : Nat) (a0 : Int) (a2_0 : Int) (l2_1 : List Int) (a3_0 : Int) (l3_1 : List Int) : R.start Try.prog xhn impl_filled_c.O 2 Try.f107 impl_filled_c.fh k [.int .i64 a0, .clo 112 [.ptr 0 0, .ptr 1 0]] [.box true [.int .i64 a2_0, .imm (.I .i64 l2_1)], .box true [.int .i64 a3_0, .imm (.I .i64 l3_1)]] = (impl_filled_c.x0 k a0 a0 0 a2_0 l2_1 a3_0 l3_1 a0 ([] : List Int)) := by kernel_rfl
theorem impl_filled_c.link : ∀ k, (∀ (x0 : Int) (x10 : Int) (x11 : Int) (y0_0 : Int) (y0_1 : List Int) (y1_0 : Int) (y1_1 : List Int) (y3_0 : Int) (y5 : List Int), impl_filled_c.x0 k x0 x10 x11 y0_0 y0_1 y1_0 y1_1 y3_0 y5 = (impl_filled_c.l0 k x0 x10 x11 y0_0 y0_1 y1_0 y1_1 y3_0 y5).map (impl_filled_c.en y0_0 y0_1 y1_0 y1_1)) ∧ (∀ (x0 : Int) (x6 : Int) (x10 : Int) (x11 : Int) (x14 : Int) (x15 : Int) (y0_0 : Int) (y0_1 : List Int) (y1_0 : Int) (y1_1 : List Int) (y3_0 : Int) (y5 : List Int), impl_filled_c.x1 k x0 x6 x10 x11 x14 x15 y0_0 y0_1 y1_0 y1_1 y3_0 y5 = (impl_filled_c.l1 k x0 x6 x10 x11 x14 x15 y0_0 y0_1 y1_0 y1_1 y3_0 y5).map (impl_filled_c.en y0_0 y0_1 y1_0 y1_1))
  | 0 => ⟨fun _ _ _ _ _ _ _ _ _ => by simp only [impl_filled_c.l0, R.map_none]; rfl, fun _ _ _ _ _ _ _ _ _ _ _ _ => by simp only [impl_filled_c.l1, R.map_none]; rfl⟩
  | k + 1 => by
    obtain ⟨ih0, ih1⟩ := impl_filled_c.link k
    refine ⟨?_, ?_⟩
    · intro x0 x10 x11 y0_0 y0_1 y1_0 y1_1 y3_0 y5
      rw [impl_filled_c.e0]
      simp only [impl_filled_c.l0, R.map_ite, R.map_bind, R.map_none, R.map_some, R.wr64_eq, ← ih0, ← ih1]
    · intro x0 x6 x10 x11 x14 x15 y0_0 y0_1 y1_0 y1_1 y3_0 y5
      rw [impl_filled_c.e1]
      simp only [impl_filled_c.l1, R.map_ite, R.map_bind, R.map_none, R.map_some, R.wr64_eq, ← ih0, ← ih1]
theorem impl_filled_c.sf (k : Nat) (a0 : Int) (a2_0 : Int) (l2_1 : List Int) (a3_0 : Int) (l3_1 : List Int) : R.start Try.prog xhn impl_filled_c.O 2 Try.f107 impl_filled_c.fh k [.int .i64 a0, .clo 112 [.ptr 0 0, .ptr 1 0]] [.box true [.int .i64 a2_0, .imm (.I .i64 l2_1)], .box true [.int .i64 a3_0, .imm (.I .i64 l3_1)]] = (impl_filled_c.f k a0 a2_0 l2_1 a3_0 l3_1).map (impl_filled_c.en a2_0 l2_1 a3_0 l3_1) := by
  obtain ⟨ih0, ih1⟩ := impl_filled_c.link k
  rw [impl_filled_c.ef]
  simp only [impl_filled_c.f, R.map_ite, R.map_bind, R.map_none, R.map_some, R.wr64_eq, ← ih0, ← ih1]
theorem impl_filled_c.ok (k : Nat) : impl_filled_c.tw.Ok Try.prog k := by
  intro a r h
  refine fn_ok (H := xhn) (fh := impl_filled_c.fh) (O := impl_filled_c.O) (k := k) Try.func107 (by kernel_rfl) (by kernel_rfl) (fun j _ => (Tw.orc_sound impl_MulGrades_1.dok (impl_MulGrades_1.ok j) noO_sound)) (by kernel_rfl) (m := 2) rfl ?_
  refine (impl_filled_c.sf k a.1 a.2.1 a.2.2.1 a.2.2.2.1 a.2.2.2.2).trans ?_
  exact congrArg (Option.map _) h
def impl_MulGrades.f (k : Nat) (a0_0 : Int) (l0_1 : List Int) (a1_0 : Int) (l1_1 : List Int) : Option (Int × (List Int) × Bool) := ((impl_GradesValid.f k a0_0 l0_1).bind fun t1 => (if t1 = true then ((impl_GradesValid.f k a1_0 l1_1).bind fun t2 => (if t2 = true then (if a0_0 = a1_0 then ((impl_filled_c.f k a0_0 a0_0 l0_1 a1_0 l1_1).bind fun t3 => (some (t3.1, t3.2, true))) else (some (0, ([] : List Int), false))) else (some (0, ([] : List Int), false)))) else (some (0, ([] : List Int), false))))
def impl_MulGrades.en (r : Int × (List Int) × Bool) : Res := (.tup [.agg [.int .i64 r.1, .sl 0 0], .lit r.2.2], [.arr 3 0 (.I .i64 r.2.1) false])
def impl_MulGrades.dec : List AV → List R.Obj → Option (Int × (List Int) × Int × (List Int))
  | [.agg [.int .i64 a0_0, .imm (.I .i64 l0_1)], .agg [.int .i64 a1_0, .imm (.I .i64 l1_1)]], [] => some (a0_0, l0_1, a1_0, l1_1)
  | _, _ => none
def impl_MulGrades.tw : Tw := ⟨44, Int × (List Int) × Int × (List Int), Int × (List Int) × Bool, impl_MulGrades.dec, fun a => [.agg [.int .i64 a.1, .imm (.I .i64 a.2.1)], .agg [.int .i64 a.2.2.1, .imm (.I .i64 a.2.2.2)]], fun a => [], fun k a => impl_MulGrades.f k a.1 a.2.1 a.2.2.1 a.2.2.2, fun a r => impl_MulGrades.en r⟩
theorem impl_MulGrades.dok : impl_MulGrades.tw.DecOk := by
  intro args hc a h
  have h : impl_MulGrades.dec args hc = some a := h
  unfold impl_MulGrades.dec at h
  split at h
  · cases h; exact ⟨rfl, rfl⟩
  · cases h
noncomputable def impl_MulGrades.O (k : Nat) : Oracle := (impl_GradesValid.tw.orc k (impl_filled_c.tw.orc k noO))
def impl_MulGrades.fh : FH := ⟨fun i => match i with | _ => none, [(true, 3)], false⟩
set_option maxRecDepth 100000 in
theorem impl_MulGrades.ef (k : Nat) (a0_0 : Int) (l0_1 : List Int) (a1_0 : Int) (l1_1 : List Int) : R.start Try.prog xhn impl_MulGrades.O 0 Try.f44 impl_MulGrades.fh k [.agg [.int .i64 a0_0, .imm (.I .i64 l0_1)], .agg [.int .i64 a1_0, .imm (.I .i64 l1_1)]] [] = ((impl_GradesValid.f k a0_0 l0_1).bind fun t1 => (if t1 = true then ((impl_GradesValid.f k a1_0 l1_1).bind fun t2 => (if t2 = true then (if a0_0 = a1_0 then ((impl_filled_c.f k a0_0 a0_0 l0_1 a1_0 l1_1).bind fun t3 => (some (impl_MulGrades.en (t3.1, t3.2, true)))) else (some (impl_MulGrades.en (0, ([] : List Int), false)))) else (some (impl_MulGrades.en (0, ([] : List Int), false))))) else (some (impl_MulGrades.en (0, ([] : List Int), false))))) := by kernel_rfl
theorem impl_MulGrades.sf (k : Nat) (a0_0 : Int) (l0_1 : List Int) (a1_0 : Int) (l1_1 : List Int) : R.start Try.prog xhn impl_MulGrades.O 0 Try.f44 impl_MulGrades.fh k [.agg [.int .i64 a0_0, .imm (.I .i64 l0_1)], .agg [.int .i64 a1_0, .imm (.I .i64 l1_1)]] [] = (impl_MulGrades.f k a0_0 l0_1 a1_0 l1_1).map (impl_MulGrades.en) := by
  rw [impl_MulGrades.ef]
  simp only [impl_MulGrades.f, R.map_ite, R.map_bind, R.map_none, R.map_some, R.wr64_eq]
theorem impl_MulGrades.ok (k : Nat) : impl_MulGrades.tw.Ok Try.prog k := by
  intro a r h
  refine fn_ok (H := xhn) (fh := impl_MulGrades.fh) (O := impl_MulGrades.O) (k := k) Try.func44 (by kernel_rfl) (by kernel_rfl) (fun j _ => (Tw.orc_sound impl_GradesValid.dok (impl_GradesValid.ok j) (Tw.orc_sound impl_filled_c.dok (impl_filled_c.ok j) noO_sound))) (by kernel_rfl) (m := 0) rfl ?_
  refine (impl_MulGrades.sf k a.1 a.2.1 a.2.2.1 a.2.2.2).trans ?_
  exact congrArg (Option.map _) h
def slices_Equal_int_int.l0 : Nat → (List Int) → (List Int) → Int → Int → Option (Bool)
  | 0, _, _, _, _ => none
  | k + 1, x0, x1, x12, x13 => (if x13 < x12 then (if 0 ≤ x13 then (if x13 < (x0.length : Int) then (if x13 < (x1.length : Int) then (if (rdI x0 x13) = (rdI x1 x13) then (slices_Equal_int_int.l0 k x0 x1 x12 (wrap64 (x13 + 1))) else (some false)) else none) else none) else none) else (some true))
def slices_Equal_int_int.f (k : Nat) (l0 : List Int) (l1 : List Int) : Option (Bool) := (if (l0.length : Int) = (l1.length : Int) then (slices_Equal_int_int.l0 k l0 l1 (l0.length : Int) 0) else (some false))
def slices_Equal_int_int.en (r : Bool) : Res := (.lit r, [])
def slices_Equal_int_int.dec : List AV → List R.Obj → Option ((List Int) × (List Int))
  | [.imm (.I .i64 l0), .imm (.I .i64 l1)], [] => some (l0, l1)
  | _, _ => none
def slices_Equal_int_int.tw : Tw := ⟨165, (List Int) × (List Int), Bool, slices_Equal_int_int.dec, fun a => [.imm (.I .i64 a.1), .imm (.I .i64 a.2)], fun a => [], fun k a => slices_Equal_int_int.f k a.1 a.2, fun a r => slices_Equal_int_int.en r⟩
theorem slices_Equal_int_int.dok : slices_Equal_int_int.tw.DecOk := by
  intro args hc a h
  have h : slices_Equal_int_int.dec args hc = some a := h
  unfold slices_Equal_int_int.dec at h
  split at h
  · cases h; exact ⟨rfl, rfl⟩
  · cases h
noncomputable def slices_Equal_int_int.O (k : Nat) : Oracle := noO
def slices_Equal_int_int.fh : FH := ⟨fun i => match i with | 4 => some [(0, 0), (1, 0), (12, 0), (13, 0)] | _ => none, [], false⟩
noncomputable def slices_Equal_int_int.x0 (k : Nat) (x0 : List Int) (x1 : List Int) (x12 : Int) (x13 : Int) : Option Res := R.exec Try.prog xhn slices_Equal_int_int.O 0 Try.f165 slices_Equal_int_int.fh k (R.point Try.f165 4) ⟨[(0, .imm (.I .i64 x0)), (1, .imm (.I .i64 x1)), (12, .int .i64 x12), (13, .int .i64 x13)], [], 2⟩
set_option maxRecDepth 100000 in
theorem slices_Equal_int_int.e0 (k : Nat) (x0 : List Int) (x1 : List Int) (x12 : Int) (x13 : Int) : slices_Equal_int_int.x0 (k + 1) x0 x1 x12 x13 = (if x13 < x12 then (if 0 ≤ x13 then (if x13 < (x0.length : Int) then (if x13 < (x1.length : Int) then (if (rdI x0 x13) = (rdI x1 x13) then (slices_Equal_int_int.x0 k x0 x1 x12 (wr64 (x13 + 1))) else (some (slices_Equal_int_int.en false))) else none) else none) else none) else (some (slices_Equal_int_int.en true))) := by
  refine Eq.trans ?_ (R.icong (fun h0 => (R.icong (fun h1 => (R.icong (fun h2 => (R.idropT (p := 0 ≤ x13) (z := none) h1 rfl)) (fun h2 => rfl))) (fun h1 => rfl))) (fun h0 => rfl))
  kernel_rfl
set_option maxRecDepth 100000 in
theorem slices_Equal_int_int.ef (k : Nat) (l0 : List Int) (l1 : List Int) : R.start Try.prog xhn slices_Equal_int_int.O 0 Try.f165 slices_Equal_int_int.fh k [.imm (.I .i64 l0), .imm (.I .i64 l1)] [] = (if (l0.length : Int) = (l1.length : Int) then (slices_Equal_int_int.x0 k l0 l1 (l0.length : Int) 0) else (some (slices_Equal_int_int.en false))) := by kernel_rfl
theorem slices_Equal_int_int.link : ∀ k, (∀ (x0 : List Int) (x1 : List Int) (x12 : Int) (x13 : Int), slices_Equal_int_int.x0 k x0 x1 x12 x13 = (slices_Equal_int_int.l0 k x0 x1 x12 x13).map (slices_Equal_int_int.en))
  | 0 => fun _ _ _ _ => by simp only [slices_Equal_int_int.l0, R.map_none]; rfl
  | k + 1 => by
    have ih0 := slices_Equal_int_int.link k
    · intro x0 x1 x12 x13
      rw [slices_Equal_int_int.e0]
      simp only [slices_Equal_int_int.l0, R.map_ite, R.map_bind, R.map_none, R.map_some, R.wr64_eq, ← ih0]
theorem slices_Equal_int_int.sf (k : Nat) (l0 : List Int) (l1 : List Int) : R.start Try.prog xhn slices_Equal_int_int.O 0 Try.f165 slices_Equal_int_int.fh k [.imm (.I .i64 l0), .imm (.I .i64 l1)] [] = (slices_Equal_int_int.f k l0 l1).map (slices_Equal_int_int.en) := by
  have ih0 := slices_Equal_int_int.link k
  rw [slices_Equal_int_int.ef]
  simp only [slices_Equal_int_int.f, R.map_ite, R.map_bind, R.map_none, R.map_some, R.wr64_eq, ← ih0]
theorem slices_Equal_int_int.ok (k : Nat) : slices_Equal_int_int.tw.Ok Try.prog k := by
  intro a r h
  refine fn_ok (H := xhn) (fh := slices_Equal_int_int.fh) (O := slices_Equal_int_int.O) (k := k) Try.func165 (by kernel_rfl) (by kernel_rfl) (fun j _ => noO_sound) (by kernel_rfl) (m := 0) rfl ?_
  refine (slices_Equal_int_int.sf k a.1 a.2).trans ?_
  exact congrArg (Option.map _) h
def impl_SameMatrix.f (k : Nat) (a0_0 : Int) (l0_1 : List Int) (a1_0 : Int) (l1_1 : List Int) : Option (Bool) := (if a0_0 = a1_0 then ((slices_Equal_int_int.f k l0_1 l1_1).bind fun t1 => (some t1)) else (some false))
def impl_SameMatrix.en (r : Bool) : Res := (.lit r, [])
def impl_SameMatrix.dec : List AV → List R.Obj → Option (Int × (List Int) × Int × (List Int))
  | [.agg [.int .i64 a0_0, .imm (.I .i64 l0_1)], .agg [.int .i64 a1_0, .imm (.I .i64 l1_1)]], [] => some (a0_0, l0_1, a1_0, l1_1)
  | _, _ => none
def impl_SameMatrix.tw : Tw := ⟨116, Int × (List Int) × Int × (List Int), Bool, impl_SameMatrix.dec, fun a => [.agg [.int .i64 a.1, .imm (.I .i64 a.2.1)], .agg [.int .i64 a.2.2.1, .imm (.I .i64 a.2.2.2)]], fun a => [], fun k a => impl_SameMatrix.f k a.1 a.2.1 a.2.2.1 a.2.2.2, fun a r => impl_SameMatrix.en r⟩
theorem impl_SameMatrix.dok : impl_SameMatrix.tw.DecOk := by
  intro args hc a h
  have h : impl_SameMatrix.dec args hc = some a := h
  unfold impl_SameMatrix.dec at h
  split at h
  · cases h; exact ⟨rfl, rfl⟩
  · cases h
noncomputable def impl_SameMatrix.O (k : Nat) : Oracle := (slices_Equal_int_int.tw.orc k noO)
def impl_SameMatrix.fh : FH := ⟨fun i => match i with | _ => none, [], false⟩
set_option maxRecDepth 100000 in
theorem impl_SameMatrix.ef (k : Nat) (a0_0 : Int) (l0_1 : List Int) (a1_0 : Int) (l1_1 : List Int) : R.start Try.prog xhn impl_SameMatrix.O 0 Try.f116 impl_SameMatrix.fh k [.agg [.int .i64 a0_0, .imm (.I .i64 l0_1)], .agg [.int .i64 a1_0, .imm (.I .i64 l1_1)]] [] = (if a0_0 = a1_0 then ((slices_Equal_int_int.f k l0_1 l1_1).bind fun t1 => (some (impl_SameMatrix.en t1))) else (some (impl_SameMatrix.en false))) := by kernel_rfl
theorem impl_SameMatrix.sf (k : Nat) (a0_0 : Int) (l0_1 : List Int) (a1_0 : Int) (l1_1 : List Int) : R.start Try.prog xhn impl_SameMatrix.O 0 Try.f116 impl_SameMatrix.fh k [.agg [.int .i64 a0_0, .imm (.I .i64 l0_1)], .agg [.int .i64 a1_0, .imm (.I .i64 l1_1)]] [] = (impl_SameMatrix.f k a0_0 l0_1 a1_0 l1_1).map (impl_SameMatrix.en) := by
  rw [impl_SameMatrix.ef]
  simp only [impl_SameMatrix.f, R.map_ite, R.map_bind, R.map_none, R.map_some, R.wr64_eq]
theorem impl_SameMatrix.ok (k : Nat) : impl_SameMatrix.tw.Ok Try.prog k := by
  intro a r h
  refine fn_ok (H := xhn) (fh := impl_SameMatrix.fh) (O := impl_SameMatrix.O) (k := k) Try.func116 (by kernel_rfl) (by kernel_rfl) (fun j _ => (Tw.orc_sound slices_Equal_int_int.dok (slices_Equal_int_int.ok j) noO_sound)) (by kernel_rfl) (m := 0) rfl ?_
  refine (impl_SameMatrix.sf k a.1 a.2.1 a.2.2.1 a.2.2.2).trans ?_
  exact congrArg (Option.map _) h
def impl_IsIdempotent.f (k : Nat) (a0_0 : Int) (l0_1 : List Int) : Option (Bool) := ((impl_MulGrades.f k a0_0 l0_1 a0_0 l0_1).bind fun t1 => (if t1.2.2 = true then ((impl_SameMatrix.f k t1.1 t1.2.1 a0_0 l0_1).bind fun t2 => (some t2)) else (some false)))
def impl_IsIdempotent.en (r : Bool) : Res := (.lit r, [])
def impl_IsIdempotent.dec : List AV → List R.Obj → Option (Int × (List Int))
  | [.agg [.int .i64 a0_0, .imm (.I .i64 l0_1)]], [] => some (a0_0, l0_1)
  | _, _ => none
def impl_IsIdempotent.tw : Tw := ⟨132, Int × (List Int), Bool, impl_IsIdempotent.dec, fun a => [.agg [.int .i64 a.1, .imm (.I .i64 a.2)]], fun a => [], fun k a => impl_IsIdempotent.f k a.1 a.2, fun a r => impl_IsIdempotent.en r⟩
theorem impl_IsIdempotent.dok : impl_IsIdempotent.tw.DecOk := by
  intro args hc a h
  have h : impl_IsIdempotent.dec args hc = some a := h
  unfold impl_IsIdempotent.dec at h
  split at h
  · cases h; exact ⟨rfl, rfl⟩
  · cases h
noncomputable def impl_IsIdempotent.O (k : Nat) : Oracle := (impl_MulGrades.tw.orc k (impl_SameMatrix.tw.orc k noO))
def impl_IsIdempotent.fh : FH := ⟨fun i => match i with | _ => none, [], false⟩
set_option maxRecDepth 100000 in
theorem impl_IsIdempotent.ef (k : Nat) (a0_0 : Int) (l0_1 : List Int) : R.start Try.prog xhn impl_IsIdempotent.O 0 Try.f132 impl_IsIdempotent.fh k [.agg [.int .i64 a0_0, .imm (.I .i64 l0_1)]] [] = ((impl_MulGrades.f k a0_0 l0_1 a0_0 l0_1).bind fun t1 => (if t1.2.2 = true then ((impl_SameMatrix.f k t1.1 t1.2.1 a0_0 l0_1).bind fun t2 => (some (impl_IsIdempotent.en t2))) else (some (impl_IsIdempotent.en false)))) := by kernel_rfl
theorem impl_IsIdempotent.sf (k : Nat) (a0_0 : Int) (l0_1 : List Int) : R.start Try.prog xhn impl_IsIdempotent.O 0 Try.f132 impl_IsIdempotent.fh k [.agg [.int .i64 a0_0, .imm (.I .i64 l0_1)]] [] = (impl_IsIdempotent.f k a0_0 l0_1).map (impl_IsIdempotent.en) := by
  rw [impl_IsIdempotent.ef]
  simp only [impl_IsIdempotent.f, R.map_ite, R.map_bind, R.map_none, R.map_some, R.wr64_eq]
theorem impl_IsIdempotent.ok (k : Nat) : impl_IsIdempotent.tw.Ok Try.prog k := by
  intro a r h
  refine fn_ok (H := xhn) (fh := impl_IsIdempotent.fh) (O := impl_IsIdempotent.O) (k := k) Try.func132 (by kernel_rfl) (by kernel_rfl) (fun j _ => (Tw.orc_sound impl_MulGrades.dok (impl_MulGrades.ok j) (Tw.orc_sound impl_SameMatrix.dok (impl_SameMatrix.ok j) noO_sound))) (by kernel_rfl) (m := 0) rfl ?_
  refine (impl_IsIdempotent.sf k a.1 a.2).trans ?_
  exact congrArg (Option.map _) h
def impl_Stabilise_1.l0 : Nat → Int → Int → Int → Int → Int → Int → (List Int) → Option (Int)
  | 0, _, _, _, _, _, _, _ => none
  | k + 1, x0, x1, x6, x10, x11, y0_0, y0_1 => (if x11 < x10 then ((impl_Matrix_at.f y0_0 y0_1 x11 x11).bind fun t1 => (if t1 = 1 then ((impl_Matrix_at.f y0_0 y0_1 x0 x11).bind fun t2 => ((impl_Matrix_at.f y0_0 y0_1 x11 x1).bind fun t3 => (impl_Stabilise_1.l0 k x0 x1 (mn x6 (mx (mx t2 2) t3)) x10 (wrap64 (x11 + 1)) y0_0 y0_1))) else ((impl_Matrix_at.f y0_0 y0_1 x0 x11).bind fun t4 => ((impl_Matrix_at.f y0_0 y0_1 x11 x1).bind fun t5 => (impl_Stabilise_1.l0 k x0 x1 (mn x6 (mx (mx t4 t1) t5)) x10 (wrap64 (x11 + 1)) y0_0 y0_1))))) else (some x6))
def impl_Stabilise_1.f (k : Nat) (a0 : Int) (a1 : Int) (a3_0 : Int) (l3_1 : List Int) : Option (Int) := (impl_Stabilise_1.l0 k a0 a1 3 a3_0 0 a3_0 l3_1)
def impl_Stabilise_1.en (a3_0 : Int) (l3_1 : List Int) (r : Int) : Res := (.int .i64 r, [.box true [.int .i64 a3_0, .imm (.I .i64 l3_1)]])
def impl_Stabilise_1.dec : List AV → List R.Obj → Option (Int × Int × Int × (List Int))
  | [.int .i64 a0, .int .i64 a1, .ptr 0 0], [.box true [.int .i64 a3_0, .imm (.I .i64 l3_1)]] => some (a0, a1, a3_0, l3_1)
  | _, _ => none
def impl_Stabilise_1.tw : Tw := ⟨133, Int × Int × Int × (List Int), Int, impl_Stabilise_1.dec, fun a => [.int .i64 a.1, .int .i64 a.2.1, .ptr 0 0], fun a => [.box true [.int .i64 a.2.2.1, .imm (.I .i64 a.2.2.2)]], fun k a => impl_Stabilise_1.f k a.1 a.2.1 a.2.2.1 a.2.2.2, fun a r => impl_Stabilise_1.en a.2.2.1 a.2.2.2 r⟩
theorem impl_Stabilise_1.dok : impl_Stabilise_1.tw.DecOk := by
  intro args hc a h
  have h : impl_Stabilise_1.dec args hc = some a := h
  unfold impl_Stabilise_1.dec at h
  split at h
  · cases h; exact ⟨rfl, rfl⟩
  · cases h
noncomputable def impl_Stabilise_1.O (k : Nat) : Oracle := (impl_Matrix_at.tw.orc k noO)
def impl_Stabilise_1.fh : FH := ⟨fun i => match i with | 3 => some [(0, 0), (1, 0), (2, 0), (6, 0), (10, 0), (11, 0)] | _ => none, [], false⟩
noncomputable def impl_Stabilise_1.x0 (k : Nat) (x0 : Int) (x1 : Int) (x6 : Int) (x10 : Int) (x11 : Int) (y0_0 : Int) (y0_1 : List Int) : Option Res := R.exec Try.prog xhn impl_Stabilise_1.O 1 Try.f133 impl_Stabilise_1.fh k (R.point Try.f133 3) ⟨[(0, .int .i64 x0), (1, .int .i64 x1), (2, .ptr 0 0), (6, .int .i64 x6), (10, .int .i64 x10), (11, .int .i64 x11)], [(0, .box true [.int .i64 y0_0, .imm (.I .i64 y0_1)])], 3⟩
set_option maxRecDepth 100000 in
theorem impl_Stabilise_1.e0 (k : Nat) (x0 : Int) (x1 : Int) (x6 : Int) (x10 : Int) (x11 : Int) (y0_0 : Int) (y0_1 : List Int) : impl_Stabilise_1.x0 (k + 1) x0 x1 x6 x10 x11 y0_0 y0_1 = (if x11 < x10 then ((impl_Matrix_at.f y0_0 y0_1 x11 x11).bind fun t1 => (if t1 = 1 then ((impl_Matrix_at.f y0_0 y0_1 x0 x11).bind fun t2 => ((impl_Matrix_at.f y0_0 y0_1 x11 x1).bind fun t3 => (impl_Stabilise_1.x0 k x0 x1 (mn x6 (mx (mx t2 2) t3)) x10 (wr64 (x11 + 1)) y0_0 y0_1))) else ((impl_Matrix_at.f y0_0 y0_1 x0 x11).bind fun t4 => ((impl_Matrix_at.f y0_0 y0_1 x11 x1).bind fun t5 => (impl_Stabilise_1.x0 k x0 x1 (mn x6 (mx (mx t4 t1) t5)) x10 (wr64 (x11 + 1)) y0_0 y0_1))))) else (some (impl_Stabilise_1.en y0_0 y0_1 x6))) := by kernel_rfl
set_option maxRecDepth 100000 in
theorem impl_Stabilise_1.ef (k : Nat) (a0 : Int) (a1 : Int) (a3_0 : Int) (l3_1 : List Int) : R.start Try.prog xhn impl_Stabilise_1.O 1 Try.f133 impl_Stabilise_1.fh k [.int .i64 a0, .int .i64 a1, .ptr 0 0] [.box true [.int .i64 a3_0, .imm (.I .i64 l3_1)]] = (impl_Stabilise_1.x0 k a0 a1 3 a3_0 0 a3_0 l3_1) := by kernel_rfl
theorem impl_Stabilise_1.link : ∀ k, (∀ (x0 : Int) (x1 : Int) (x6 : Int) (x10 : Int) (x11 : Int) (y0_0 : Int) (y0_1 : List Int), impl_Stabilise_1.x0 k x0 x1 x6 x10 x11 y0_0 y0_1 = (impl_Stabilise_1.l0 k x0 x1 x6 x10 x11 y0_0 y0_1).map (impl_Stabilise_1.en y0_0 y0_1))
  | 0 => fun _ _ _ _ _ _ _ => by simp only [impl_Stabilise_1.l0, R.map_none]; rfl
  | k + 1 => by
    have ih0 := impl_Stabilise_1.link k
    · intro x0 x1 x6 x10 x11 y0_0 y0_1
      rw [impl_Stabilise_1.e0]
      simp only [impl_Stabilise_1.l0, R.map_ite, R.map_bind, R.map_none, R.map_some, R.wr64_eq, ← ih0]
theorem impl_Stabilise_1.sf (k : Nat) (a0 : Int) (a1 : Int) (a3_0 : Int) (l3_1 : List Int) : R.start Try.prog xhn impl_Stabilise_1.O 1 Try.f133 impl_Stabilise_1.fh k [.int .i64 a0, .int .i64 a1, .ptr 0 0] [.box true [.int .i64 a3_0, .imm (.I .i64 l3_1)]] = (impl_Stabilise_1.f k a0 a1 a3_0 l3_1).map (impl_Stabilise_1.en a3_0 l3_1) := by
  have ih0 := impl_Stabilise_1.link k
  rw [impl_Stabilise_1.ef]
  simp only [impl_Stabilise_1.f, R.map_ite, R.map_bind, R.map_none, R.map_some, R.wr64_eq, ← ih0]
theorem impl_Stabilise_1.ok (k : Nat) : impl_Stabilise_1.tw.Ok Try.prog k := by
  intro a r h
  refine fn_ok (H := xhn) (fh := impl_Stabilise_1.fh) (O := impl_Stabilise_1.O) (k := k) Try.func133 (by kernel_rfl) (by kernel_rfl) (fun j _ => (Tw.orc_sound impl_Matrix_at.dok (impl_Matrix_at.ok j) noO_sound)) (by kernel_rfl) (m := 1) rfl ?_
  refine (impl_Stabilise_1.sf k a.1 a.2.1 a.2.2.1 a.2.2.2).trans ?_
  exact congrArg (Option.map _) h
mutual
def impl_filled_d.l0 : Nat → Int → Int → Int → Int → (List Int) → Int → (List Int) → Option (Int × (List Int))
  | 0, _, _, _, _, _, _, _ => none
  | k + 1, x0, x10, x11, y0_0, y0_1, y2_0, y4 => (if x11 < x10 then (impl_filled_d.l1 k x0 x11 x10 x11 x0 0 y0_0 y0_1 y2_0 y4) else (some (y2_0, y4)))
def impl_filled_d.l1 : Nat → Int → Int → Int → Int → Int → Int → Int → (List Int) → Int → (List Int) → Option (Int × (List Int))
  | 0, _, _, _, _, _, _, _, _, _, _ => none
  | k + 1, x0, x6, x10, x11, x14, x15, y0_0, y0_1, y2_0, y4 => (if x15 < x14 then ((impl_Stabilise_1.f k x6 x15 y0_0 y0_1).bind fun t1 => (if y4.length < 17592186044416 then (impl_filled_d.l1 k x0 x6 x10 x11 x14 (wrap64 (x15 + 1)) y0_0 y0_1 y2_0 (y4 ++ [t1])) else none)) else (impl_filled_d.l0 k x0 x10 (wrap64 (x11 + 1)) y0_0 y0_1 y2_0 y4))
end
def impl_filled_d.f (k : Nat) (a0 : Int) (a2_0 : Int) (l2_1 : List Int) : Option (Int × (List Int)) := (impl_filled_d.l0 k a0 a0 0 a2_0 l2_1 a0 ([] : List Int))
def impl_filled_d.en (a2_0 : Int) (l2_1 : List Int) (r : Int × (List Int)) : Res := (.agg [.int .i64 r.1, .sl 1 0], [.box true [.int .i64 a2_0, .imm (.I .i64 l2_1)], .arr 3 0 (.I .i64 r.2) false])
def impl_filled_d.dec : List AV → List R.Obj → Option (Int × Int × (List Int))
  | [.int .i64 a0, .clo 133 [.ptr 0 0]], [.box true [.int .i64 a2_0, .imm (.I .i64 l2_1)]] => some (a0, a2_0, l2_1)
  | _, _ => none
def impl_filled_d.tw : Tw := ⟨107, Int × Int × (List Int), Int × (List Int), impl_filled_d.dec, fun a => [.int .i64 a.1, .clo 133 [.ptr 0 0]], fun a => [.box true [.int .i64 a.2.1, .imm (.I .i64 a.2.2)]], fun k a => impl_filled_d.f k a.1 a.2.1 a.2.2, fun a r => impl_filled_d.en a.2.1 a.2.2 r⟩
theorem impl_filled_d.dok : impl_filled_d.tw.DecOk := by
  intro args hc a h
  have h : impl_filled_d.dec args hc = some a := h
  unfold impl_filled_d.dec at h
  split at h
  · cases h; exact ⟨rfl, rfl⟩
  · cases h
noncomputable def impl_filled_d.O (k : Nat) : Oracle := (impl_Stabilise_1.tw.orc k noO)
def impl_filled_d.fh : FH := ⟨fun i => match i with | 3 => some [(0, 0), (1, 0), (4, 0), (5, 0), (10, 0), (11, 0)] | 6 => some [(0, 0), (1, 0), (4, 0), (5, 0), (6, 0), (10, 0), (11, 0), (14, 0), (15, 0)] | _ => none, [(true, 3)], false⟩
noncomputable def impl_filled_d.x0 (k : Nat) (x0 : Int) (x10 : Int) (x11 : Int) (y0_0 : Int) (y0_1 : List Int) (y2_0 : Int) (y4 : List Int) : Option Res := R.exec Try.prog xhn impl_filled_d.O 1 Try.f107 impl_filled_d.fh k (R.point Try.f107 3) ⟨[(0, .int .i64 x0), (1, .clo 133 [.ptr 0 0]), (4, .ptr 1 0), (5, .ptr 2 0), (10, .int .i64 x10), (11, .int .i64 x11)], [(0, .box true [.int .i64 y0_0, .imm (.I .i64 y0_1)]), (1, .box false [.int .i64 0, .sl 3 0]), (2, .box false [.int .i64 y2_0, .sl 4 0]), (3, .arr 3 0 (.I .i64 ([] : List Int)) false), (4, .arr 3 0 (.I .i64 y4) false)], 7⟩
noncomputable def impl_filled_d.x1 (k : Nat) (x0 : Int) (x6 : Int) (x10 : Int) (x11 : Int) (x14 : Int) (x15 : Int) (y0_0 : Int) (y0_1 : List Int) (y2_0 : Int) (y4 : List Int) : Option Res := R.exec Try.prog xhn impl_filled_d.O 1 Try.f107 impl_filled_d.fh k (R.point Try.f107 6) ⟨[(0, .int .i64 x0), (1, .clo 133 [.ptr 0 0]), (4, .ptr 1 0), (5, .ptr 2 0), (6, .int .i64 x6), (10, .int .i64 x10), (11, .int .i64 x11), (14, .int .i64 x14), (15, .int .i64 x15)], [(0, .box true [.int .i64 y0_0, .imm (.I .i64 y0_1)]), (1, .box false [.int .i64 0, .sl 3 0]), (2, .box false [.int .i64 y2_0, .sl 4 0]), (3, .arr 3 0 (.I .i64 ([] : List Int)) false), (4, .arr 3 0 (.I .i64 y4) false)], 7⟩
set_option maxRecDepth 100000 in
theorem impl_filled_d.e0 (k : Nat) (x0 : Int) (x10 : Int) (x11 : Int) (y0_0 : Int) (y0_1 : List Int) (y2_0 : Int) (y4 : List Int) : impl_filled_d.x0 (k + 1) x0 x10 x11 y0_0 y0_1 y2_0 y4 = (if x11 < x10 then (impl_filled_d.x1 k x0 x11 x10 x11 x0 0 y0_0 y0_1 y2_0 y4) else (some (impl_filled_d.en y0_0 y0_1 (y2_0, y4)))) := by kernel_rfl
set_option maxRecDepth 100000 in
theorem impl_filled_d.e1 (k : Nat) (x0 : Int) (x6 : Int) (x10 : Int) (x11 : Int) (x14 : Int) (x15 : Int) (y0_0 : Int) (y0_1 : List Int) (y2_0 : Int) (y4 : List Int) : impl_filled_d.x1 (k + 1) x0 x6 x10 x11 x14 x15 y0_0 y0_1 y2_0 y4 = (if x15 < x14 then ((impl_Stabilise_1.f k x6 x15 y0_0 y0_1).bind fun t1 => (if y4.length < 17592186044416 then (impl_filled_d.x1 k x0 x6 x10 x11 x14 (wr64 (x15 + 1)) y0_0 y0_1 y2_0 (y4 ++ [t1])) else none)) else (impl_filled_d.x0 k x0 x10 (wr64 (x11 + 1)) y0_0 y0_1 y2_0 y4)) := by kernel_rfl
set_option maxRecDepth 100000 in
theorem impl_filled_d.ef (k : Nat) (a0 : Int) (a2_0 : Int) (l2_1 : List Int) : R.start Try.prog xhn impl_filled_d.O 1 Try.f107 impl_filled_d.fh k [.int .i64 a0, .clo 133 [.ptr 0 0]] [.box true [.int .i64 a2_0, .imm (.I .i64 l2_1)]] = (impl_filled_d.x0 k a0 a0 0 a2_0 l2_1 a0 ([] : List Int)) := by kernel_rfl
theorem impl_filled_d.link : ∀ k, (∀ (x0 : Int) (x10 : Int) (x11 : Int) (y0_0 : Int) (y0_1 : List Int) (y2_0 : Int) (y4 : List Int), impl_filled_d.x0 k x0 x10 x11 y0_0 y0_1 y2_0 y4 = (impl_filled_d.l0 k x0 x10 x11 y0_0 y0_1 y2_0 y4).map (impl_filled_d.en y0_0 y0_1)) ∧ (∀ (x0 : Int) (x6 : Int) (x10 : Int) (x11 : Int) (x14 : Int) (x15 : Int) (y0_0 : Int) (y0_1 : List Int) (y2_0 : Int) (y4 : List Int), impl_filled_d.x1 k x0 x6 x10 x11 x14 x15 y0_0 y0_1 y2_0 y4 = (impl_filled_d.l1 k x0 x6 x10 x11 x14 x15 y0_0 y0_1 y2_0 y4).map (impl_filled_d.en y0_0 y0_1))
  | 0 => ⟨fun _ _ _ _ _ _ _ => by simp only [impl_filled_d.l0, R.map_none]; rfl, fun _ _ _ _ _ _ _ _ _ _ => by simp only [impl_filled_d.l1, R.map_none]; rfl⟩
  | k + 1 => by
    obtain ⟨ih0, ih1⟩ := impl_filled_d.link k
    refine ⟨?_, ?_⟩
    · intro x0 x10 x11 y0_0 y0_1 y2_0 y4
      rw [impl_filled_d.e0]
      simp only [impl_filled_d.l0, R.map_ite, R.map_bind, R.map_none, R.map_some, R.wr64_eq, ← ih0, ← ih1]
    · intro x0 x6 x10 x11 x14 x15 y0_0 y0_1 y2_0 y4
      rw [impl_filled_d.e1]
      simp only [impl_filled_d.l1, R.map_ite, R.map_bind, R.map_none, R.map_some, R.wr64_eq, ← ih0, ← ih1]
theorem impl_filled_d.sf (k : Nat) (a0 : Int) (a2_0 : Int) (l2_1 : List Int) : R.start Try.prog xhn impl_filled_d.O 1 Try.f107 impl_filled_d.fh k [.int .i64 a0, .clo 133 [.ptr 0 0]] [.box true [.int .i64 a2_0, .imm (.I .i64 l2_1)]] = (impl_filled_d.f k a0 a2_0 l2_1).map (impl_filled_d.en a2_0 l2_1) := by
  obtain ⟨ih0, ih1⟩ := impl_filled_d.link k
  rw [impl_filled_d.ef]
  simp only [impl_filled_d.f, R.map_ite, R.map_bind, R.map_none, R.map_some, R.wr64_eq, ← ih0, ← ih1]
theorem impl_filled_d.ok (k : Nat) : impl_filled_d.tw.Ok Try.prog k := by
  intro a r h
  refine fn_ok (H := xhn) (fh := impl_filled_d.fh) (O := impl_filled_d.O) (k := k) Try.func107 (by kernel_rfl) (by kernel_rfl) (fun j _ => (Tw.orc_sound impl_Stabilise_1.dok (impl_Stabilise_1.ok j) noO_sound)) (by kernel_rfl) (m := 1) rfl ?_
  refine (impl_filled_d.sf k a.1 a.2.1 a.2.2).trans ?_
  exact congrArg (Option.map _) h
def impl_Stabilise.f (k : Nat) (a0_0 : Int) (l0_1 : List Int) : Option (Int × (List Int) × Bool) := ((impl_IsIdempotent.f k a0_0 l0_1).bind fun t1 => (if t1 = true then ((impl_filled_d.f k a0_0 a0_0 l0_1).bind fun t2 => (some (t2.1, t2.2, true))) else (some (0, ([] : List Int), false))))
def impl_Stabilise.en (r : Int × (List Int) × Bool) : Res := (.tup [.agg [.int .i64 r.1, .sl 0 0], .lit r.2.2], [.arr 3 0 (.I .i64 r.2.1) false])
def impl_Stabilise.dec : List AV → List R.Obj → Option (Int × (List Int))
  | [.agg [.int .i64 a0_0, .imm (.I .i64 l0_1)]], [] => some (a0_0, l0_1)
  | _, _ => none
def impl_Stabilise.tw : Tw := ⟨66, Int × (List Int), Int × (List Int) × Bool, impl_Stabilise.dec, fun a => [.agg [.int .i64 a.1, .imm (.I .i64 a.2)]], fun a => [], fun k a => impl_Stabilise.f k a.1 a.2, fun a r => impl_Stabilise.en r⟩
theorem impl_Stabilise.dok : impl_Stabilise.tw.DecOk := by
  intro args hc a h
  have h : impl_Stabilise.dec args hc = some a := h
  unfold impl_Stabilise.dec at h
  split at h
  · cases h; exact ⟨rfl, rfl⟩
  · cases h
noncomputable def impl_Stabilise.O (k : Nat) : Oracle := (impl_IsIdempotent.tw.orc k (impl_filled_d.tw.orc k noO))
def impl_Stabilise.fh : FH := ⟨fun i => match i with | _ => none, [(true, 3)], false⟩
set_option maxRecDepth 100000 in
theorem impl_Stabilise.ef (k : Nat) (a0_0 : Int) (l0_1 : List Int) : R.start Try.prog xhn impl_Stabilise.O 0 Try.f66 impl_Stabilise.fh k [.agg [.int .i64 a0_0, .imm (.I .i64 l0_1)]] [] = ((impl_IsIdempotent.f k a0_0 l0_1).bind fun t1 => (if t1 = true then ((impl_filled_d.f k a0_0 a0_0 l0_1).bind fun t2 => (some (impl_Stabilise.en (t2.1, t2.2, true)))) else (some (impl_Stabilise.en (0, ([] : List Int), false))))) := by kernel_rfl
theorem impl_Stabilise.sf (k : Nat) (a0_0 : Int) (l0_1 : List Int) : R.start Try.prog xhn impl_Stabilise.O 0 Try.f66 impl_Stabilise.fh k [.agg [.int .i64 a0_0, .imm (.I .i64 l0_1)]] [] = (impl_Stabilise.f k a0_0 l0_1).map (impl_Stabilise.en) := by
  rw [impl_Stabilise.ef]
  simp only [impl_Stabilise.f, R.map_ite, R.map_bind, R.map_none, R.map_some, R.wr64_eq]
theorem impl_Stabilise.ok (k : Nat) : impl_Stabilise.tw.Ok Try.prog k := by
  intro a r h
  refine fn_ok (H := xhn) (fh := impl_Stabilise.fh) (O := impl_Stabilise.O) (k := k) Try.func66 (by kernel_rfl) (by kernel_rfl) (fun j _ => (Tw.orc_sound impl_IsIdempotent.dok (impl_IsIdempotent.ok j) (Tw.orc_sound impl_filled_d.dok (impl_filled_d.ok j) noO_sound))) (by kernel_rfl) (m := 0) rfl ?_
  refine (impl_Stabilise.sf k a.1 a.2).trans ?_
  exact congrArg (Option.map _) h
mutual
def impl_value.l0 : Nat → (List Part) → Int → Int → Int → (List Int) → (List Int) → (List Stp) → Int → (List Int) → Option (Int × (List Int) × Bool)
  | 0, _, _, _, _, _, _, _, _, _ => none
  | k + 1, x13, x14, x15, y0_0, y0_1, y0_2, y0_3, y2_0, y4 => (if x15 < x14 then (if 0 ≤ x15 then (if x15 < (x13.length : Int) then (if (rdP x13 x15).f0.toList = ([] : List UInt8) then ((impl_value.f k y0_0 y0_1 y0_2 y0_3 ((rdP x13 x15).f1)).bind fun t1 => (if t1.2.2 = true then ((impl_Stabilise.f k t1.1 t1.2.1).bind fun t2 => (if t2.2.2 = true then (if x15 > 0 then ((impl_MulGrades.f k y2_0 y4 t2.1 t2.2.1).bind fun t3 => (impl_value.l0 k x13 x14 (wrap64 (x15 + 1)) y0_0 y0_1 y0_2 y0_3 t3.1 t3.2.1)) else (impl_value.l0 k x13 x14 (wrap64 (x15 + 1)) y0_0 y0_1 y0_2 y0_3 t2.1 t2.2.1)) else (some (0, ([] : List Int), false)))) else (some (0, ([] : List Int), false)))) else ((impl_StepMatrix.f k y0_0 y0_1 y0_2 y0_3 ((rdP x13 x15).f0)).bind fun t5 => ((impl_GradesOf.f k t5.1 t5.2.1).bind fun t6 => (if x15 > 0 then ((impl_MulGrades.f k y2_0 y4 t6.1 t6.2.1).bind fun t7 => (impl_value.l0 k x13 x14 (wrap64 (x15 + 1)) y0_0 y0_1 y0_2 y0_3 t7.1 t7.2.1)) else (impl_value.l0 k x13 x14 (wrap64 (x15 + 1)) y0_0 y0_1 y0_2 y0_3 t6.1 t6.2.1))))) else none) else none) else (some (y2_0, y4, true)))
def impl_value.f : Nat → Int → (List Int) → (List Int) → (List Stp) → (List Part) → Option (Int × (List Int) × Bool)
  | 0, _, _, _, _, _ => none
  | k + 1, a0_0, l0_1, l0_2, l0_3, l1 => (impl_value.l0 k l1 (l1.length : Int) 0 a0_0 l0_1 l0_2 l0_3 0 ([] : List Int))
end
def impl_value.en (r : Int × (List Int) × Bool) : Res := (.tup [.agg [.int .i64 r.1, .sl 0 0], .lit r.2.2], [.arr 3 0 (.I .i64 r.2.1) false])
def impl_value.dec : List AV → List R.Obj → Option (Int × (List Int) × (List Int) × (List Stp) × (List Part))
  | [.agg [.int .i64 a0_0, .imm (.I .i64 l0_1), .imm (.I .i64 l0_2), .imm (.T l0_3)], .imm (.P l1)], [] => some (a0_0, l0_1, l0_2, l0_3, l1)
  | _, _ => none
def impl_value.tw : Tw := ⟨131, Int × (List Int) × (List Int) × (List Stp) × (List Part), Int × (List Int) × Bool, impl_value.dec, fun a => [.agg [.int .i64 a.1, .imm (.I .i64 a.2.1), .imm (.I .i64 a.2.2.1), .imm (.T a.2.2.2.1)], .imm (.P a.2.2.2.2)], fun a => [], fun k a => impl_value.f k a.1 a.2.1 a.2.2.1 a.2.2.2.1 a.2.2.2.2, fun a r => impl_value.en r⟩
theorem impl_value.dok : impl_value.tw.DecOk := by
  intro args hc a h
  have h : impl_value.dec args hc = some a := h
  unfold impl_value.dec at h
  split at h
  · cases h; exact ⟨rfl, rfl⟩
  · cases h
noncomputable def impl_value.O (k : Nat) : Oracle := (impl_Stabilise.tw.orc k (impl_MulGrades.tw.orc k (impl_StepMatrix.tw.orc k (impl_GradesOf.tw.orc k (impl_value.tw.orc k noO)))))
def impl_value.fh : FH := ⟨fun i => match i with | 3 => some [(2, 0), (4, 0), (6, 0), (13, 0), (14, 0), (15, 0)] | _ => none, [(true, 3)], false⟩
noncomputable def impl_value.x0 (k : Nat) (x13 : List Part) (x14 : Int) (x15 : Int) (y0_0 : Int) (y0_1 : List Int) (y0_2 : List Int) (y0_3 : List Stp) (y2_0 : Int) (y4 : List Int) : Option Res := R.exec Try.prog xhn impl_value.O 0 Try.f131 impl_value.fh k (R.point Try.f131 3) ⟨[(2, .ptr 0 0), (4, .ptr 1 0), (6, .ptr 2 0), (13, .imm (.P x13)), (14, .int .i64 x14), (15, .int .i64 x15)], [(0, .box false [.int .i64 y0_0, .imm (.I .i64 y0_1), .imm (.I .i64 y0_2), .imm (.T y0_3)]), (1, .box false [.int .i64 0, .sl 3 0]), (2, .box false [.int .i64 y2_0, .sl 4 0]), (3, .arr 3 0 (.I .i64 ([] : List Int)) false), (4, .arr 3 0 (.I .i64 y4) false)], 7⟩
set_option maxRecDepth 100000 in
theorem impl_value.e0 (k : Nat) (x13 : List Part) (x14 : Int) (x15 : Int) (y0_0 : Int) (y0_1 : List Int) (y0_2 : List Int) (y0_3 : List Stp) (y2_0 : Int) (y4 : List Int) : impl_value.x0 (k + 1) x13 x14 x15 y0_0 y0_1 y0_2 y0_3 y2_0 y4 = (if x15 < x14 then (if 0 ≤ x15 then (if x15 < (x13.length : Int) then (if (rdP x13 x15).f0.toList = ([] : List UInt8) then ((impl_value.f k y0_0 y0_1 y0_2 y0_3 ((rdP x13 x15).f1)).bind fun t1 => (if t1.2.2 = true then ((impl_Stabilise.f k t1.1 t1.2.1).bind fun t2 => (if t2.2.2 = true then (if x15 > 0 then ((impl_MulGrades.f k y2_0 y4 t2.1 t2.2.1).bind fun t3 => (impl_value.x0 k x13 x14 (wr64 (x15 + 1)) y0_0 y0_1 y0_2 y0_3 t3.1 t3.2.1)) else (impl_value.x0 k x13 x14 (wr64 (x15 + 1)) y0_0 y0_1 y0_2 y0_3 t2.1 t2.2.1)) else (some (impl_value.en (0, ([] : List Int), false))))) else (some (impl_value.en (0, ([] : List Int), false))))) else ((impl_StepMatrix.f k y0_0 y0_1 y0_2 y0_3 ((rdP x13 x15).f0)).bind fun t5 => ((impl_GradesOf.f k t5.1 t5.2.1).bind fun t6 => (if x15 > 0 then ((impl_MulGrades.f k y2_0 y4 t6.1 t6.2.1).bind fun t7 => (impl_value.x0 k x13 x14 (wr64 (x15 + 1)) y0_0 y0_1 y0_2 y0_3 t7.1 t7.2.1)) else (impl_value.x0 k x13 x14 (wr64 (x15 + 1)) y0_0 y0_1 y0_2 y0_3 t6.1 t6.2.1))))) else none) else none) else (some (impl_value.en (y2_0, y4, true)))) := by
  refine Eq.trans ?_ (R.icong (fun h0 => (R.icong (fun h1 => (R.icong (fun h2 => (R.icong (fun h3 => (R.bcong fun t1 => (R.icong (fun h4 => rfl) (fun h4 => (R.idropF (p := t1.2.2 = true) (z := (if x15 > 0 then ((impl_MulGrades.f k y2_0 y4 t1.1 t1.2.1).bind fun t4 => (impl_value.x0 k x13 x14 (wr64 (x15 + 1)) y0_0 y0_1 y0_2 y0_3 t4.1 t4.2.1)) else (impl_value.x0 k x13 x14 (wr64 (x15 + 1)) y0_0 y0_1 y0_2 y0_3 t1.1 t1.2.1))) h4 rfl))))) (fun h3 => rfl))) (fun h2 => rfl))) (fun h1 => rfl))) (fun h0 => rfl))
  kernel_rfl
set_option maxRecDepth 100000 in
theorem impl_value.ef (k : Nat) (a0_0 : Int) (l0_1 : List Int) (l0_2 : List Int) (l0_3 : List Stp) (l1 : List Part) : R.start Try.prog xhn impl_value.O 0 Try.f131 impl_value.fh k [.agg [.int .i64 a0_0, .imm (.I .i64 l0_1), .imm (.I .i64 l0_2), .imm (.T l0_3)], .imm (.P l1)] [] = (impl_value.x0 k l1 (l1.length : Int) 0 a0_0 l0_1 l0_2 l0_3 0 ([] : List Int)) := by kernel_rfl
theorem impl_value.link : ∀ k, (∀ (x13 : List Part) (x14 : Int) (x15 : Int) (y0_0 : Int) (y0_1 : List Int) (y0_2 : List Int) (y0_3 : List Stp) (y2_0 : Int) (y4 : List Int), impl_value.x0 k x13 x14 x15 y0_0 y0_1 y0_2 y0_3 y2_0 y4 = (impl_value.l0 k x13 x14 x15 y0_0 y0_1 y0_2 y0_3 y2_0 y4).map (impl_value.en))
  | 0 => fun _ _ _ _ _ _ _ _ _ => by simp only [impl_value.l0, R.map_none]; rfl
  | k + 1 => by
    have ih0 := impl_value.link k
    · intro x13 x14 x15 y0_0 y0_1 y0_2 y0_3 y2_0 y4
      rw [impl_value.e0]
      simp only [impl_value.l0, R.map_ite, R.map_bind, R.map_none, R.map_some, R.wr64_eq, ← ih0]
theorem impl_value.sf (k : Nat) (a0_0 : Int) (l0_1 : List Int) (l0_2 : List Int) (l0_3 : List Stp) (l1 : List Part) : R.start Try.prog xhn impl_value.O 0 Try.f131 impl_value.fh k [.agg [.int .i64 a0_0, .imm (.I .i64 l0_1), .imm (.I .i64 l0_2), .imm (.T l0_3)], .imm (.P l1)] [] = (impl_value.f (k + 1) a0_0 l0_1 l0_2 l0_3 l1).map (impl_value.en) := by
  have ih0 := impl_value.link k
  rw [impl_value.ef]
  simp only [impl_value.f, R.map_ite, R.map_bind, R.map_none, R.map_some, R.wr64_eq, ← ih0]
theorem impl_value.ok : ∀ k, impl_value.tw.Ok Try.prog k := by
  intro k
  induction k using Nat.strongRecOn with
  | ind k ih =>
    cases k with
    | zero =>
      intro a r h
      have h : impl_value.f 0 a.1 a.2.1 a.2.2.1 a.2.2.2.1 a.2.2.2.2 = some r := h
      simp only [impl_value.f] at h
      cases h
    | succ k =>
      intro a r h
      refine fn_ok (H := xhn) (fh := impl_value.fh) (O := impl_value.O) (k := k) Try.func131 (by kernel_rfl) (by kernel_rfl) (fun j hj => (Tw.orc_sound impl_Stabilise.dok (impl_Stabilise.ok j) (Tw.orc_sound impl_MulGrades.dok (impl_MulGrades.ok j) (Tw.orc_sound impl_StepMatrix.dok (impl_StepMatrix.ok j) (Tw.orc_sound impl_GradesOf.dok (impl_GradesOf.ok j) (Tw.orc_sound impl_value.dok (ih j (by omega)) noO_sound)))))) (by kernel_rfl) (m := 0) rfl ?_
      refine (impl_value.sf k a.1 a.2.1 a.2.2.1 a.2.2.2.1 a.2.2.2.2).trans ?_
      exact congrArg (Option.map _) h
def impl_ValueOf.f (k : Nat) (a0_0 : Int) (l0_1 : List Int) (l0_2 : List Int) (l0_3 : List Stp) (a1 : ByteArray) : Option (Int × (List Int) × Bool) := ((impl_parts.f k a1).bind fun t1 => (if t1.2 = true then ((impl_AutomatonValid.f k a0_0 l0_1 l0_2 l0_3).bind fun t2 => (if t2 = true then ((impl_value.f k a0_0 l0_1 l0_2 l0_3 t1.1).bind fun t3 => (some (t3.1, t3.2.1, t3.2.2))) else (some (0, ([] : List Int), false)))) else (some (0, ([] : List Int), false))))
def impl_ValueOf.en (r : Int × (List Int) × Bool) : Res := (.tup [.agg [.int .i64 r.1, .sl 0 0], .lit r.2.2], [.arr 3 0 (.I .i64 r.2.1) false])
def impl_ValueOf.dec : List AV → List R.Obj → Option (Int × (List Int) × (List Int) × (List Stp) × ByteArray)
  | [.agg [.int .i64 a0_0, .imm (.I .i64 l0_1), .imm (.I .i64 l0_2), .imm (.T l0_3)], .str a1], [] => some (a0_0, l0_1, l0_2, l0_3, a1)
  | _, _ => none
def impl_ValueOf.tw : Tw := ⟨65, Int × (List Int) × (List Int) × (List Stp) × ByteArray, Int × (List Int) × Bool, impl_ValueOf.dec, fun a => [.agg [.int .i64 a.1, .imm (.I .i64 a.2.1), .imm (.I .i64 a.2.2.1), .imm (.T a.2.2.2.1)], .str a.2.2.2.2], fun a => [], fun k a => impl_ValueOf.f k a.1 a.2.1 a.2.2.1 a.2.2.2.1 a.2.2.2.2, fun a r => impl_ValueOf.en r⟩
theorem impl_ValueOf.dok : impl_ValueOf.tw.DecOk := by
  intro args hc a h
  have h : impl_ValueOf.dec args hc = some a := h
  unfold impl_ValueOf.dec at h
  split at h
  · cases h; exact ⟨rfl, rfl⟩
  · cases h
noncomputable def impl_ValueOf.O (k : Nat) : Oracle := (impl_parts.tw.orc k (impl_AutomatonValid.tw.orc k (impl_value.tw.orc k noO)))
def impl_ValueOf.fh : FH := ⟨fun i => match i with | _ => none, [(true, 3)], false⟩
set_option maxRecDepth 100000 in
theorem impl_ValueOf.ef (k : Nat) (a0_0 : Int) (l0_1 : List Int) (l0_2 : List Int) (l0_3 : List Stp) (a1 : ByteArray) : R.start Try.prog xhn impl_ValueOf.O 0 Try.f65 impl_ValueOf.fh k [.agg [.int .i64 a0_0, .imm (.I .i64 l0_1), .imm (.I .i64 l0_2), .imm (.T l0_3)], .str a1] [] = ((impl_parts.f k a1).bind fun t1 => (if t1.2 = true then ((impl_AutomatonValid.f k a0_0 l0_1 l0_2 l0_3).bind fun t2 => (if t2 = true then ((impl_value.f k a0_0 l0_1 l0_2 l0_3 t1.1).bind fun t3 => (some (impl_ValueOf.en (t3.1, t3.2.1, t3.2.2)))) else (some (impl_ValueOf.en (0, ([] : List Int), false))))) else (some (impl_ValueOf.en (0, ([] : List Int), false))))) := by kernel_rfl
theorem impl_ValueOf.sf (k : Nat) (a0_0 : Int) (l0_1 : List Int) (l0_2 : List Int) (l0_3 : List Stp) (a1 : ByteArray) : R.start Try.prog xhn impl_ValueOf.O 0 Try.f65 impl_ValueOf.fh k [.agg [.int .i64 a0_0, .imm (.I .i64 l0_1), .imm (.I .i64 l0_2), .imm (.T l0_3)], .str a1] [] = (impl_ValueOf.f k a0_0 l0_1 l0_2 l0_3 a1).map (impl_ValueOf.en) := by
  rw [impl_ValueOf.ef]
  simp only [impl_ValueOf.f, R.map_ite, R.map_bind, R.map_none, R.map_some, R.wr64_eq]
theorem impl_ValueOf.ok (k : Nat) : impl_ValueOf.tw.Ok Try.prog k := by
  intro a r h
  refine fn_ok (H := xhn) (fh := impl_ValueOf.fh) (O := impl_ValueOf.O) (k := k) Try.func65 (by kernel_rfl) (by kernel_rfl) (fun j _ => (Tw.orc_sound impl_parts.dok (impl_parts.ok j) (Tw.orc_sound impl_AutomatonValid.dok (impl_AutomatonValid.ok j) (Tw.orc_sound impl_value.dok (impl_value.ok j) noO_sound)))) (by kernel_rfl) (m := 0) rfl ?_
  refine (impl_ValueOf.sf k a.1 a.2.1 a.2.2.1 a.2.2.2.1 a.2.2.2.2).trans ?_
  exact congrArg (Option.map _) h
def impl_found_put_1.f (k : Nat) (a0_0 : Int) (l0_1 : List Int) (a0_2 : ByteArray) (a2_0 : Int) (l2_1 : List Int) : Option (Bool) := ((impl_SameMatrix.f k a0_0 l0_1 a2_0 l2_1).bind fun t1 => (some t1))
def impl_found_put_1.en (a2_0 : Int) (l2_1 : List Int) (r : Bool) : Res := (.lit r, [.box true [.int .i64 a2_0, .imm (.I .i64 l2_1)]])
def impl_found_put_1.dec : List AV → List R.Obj → Option (Int × (List Int) × ByteArray × Int × (List Int))
  | [.agg [.int .i64 a0_0, .imm (.I .i64 l0_1), .str a0_2], .ptr 0 0], [.box true [.int .i64 a2_0, .imm (.I .i64 l2_1)]] => some (a0_0, l0_1, a0_2, a2_0, l2_1)
  | _, _ => none
def impl_found_put_1.tw : Tw := ⟨171, Int × (List Int) × ByteArray × Int × (List Int), Bool, impl_found_put_1.dec, fun a => [.agg [.int .i64 a.1, .imm (.I .i64 a.2.1), .str a.2.2.1], .ptr 0 0], fun a => [.box true [.int .i64 a.2.2.2.1, .imm (.I .i64 a.2.2.2.2)]], fun k a => impl_found_put_1.f k a.1 a.2.1 a.2.2.1 a.2.2.2.1 a.2.2.2.2, fun a r => impl_found_put_1.en a.2.2.2.1 a.2.2.2.2 r⟩
theorem impl_found_put_1.dok : impl_found_put_1.tw.DecOk := by
  intro args hc a h
  have h : impl_found_put_1.dec args hc = some a := h
  unfold impl_found_put_1.dec at h
  split at h
  · cases h; exact ⟨rfl, rfl⟩
  · cases h
noncomputable def impl_found_put_1.O (k : Nat) : Oracle := (impl_SameMatrix.tw.orc k noO)
def impl_found_put_1.fh : FH := ⟨fun i => match i with | _ => none, [], false⟩
set_option maxRecDepth 100000 in
theorem impl_found_put_1.ef (k : Nat) (a0_0 : Int) (l0_1 : List Int) (a0_2 : ByteArray) (a2_0 : Int) (l2_1 : List Int) : R.start Try.prog xhn impl_found_put_1.O 1 Try.f171 impl_found_put_1.fh k [.agg [.int .i64 a0_0, .imm (.I .i64 l0_1), .str a0_2], .ptr 0 0] [.box true [.int .i64 a2_0, .imm (.I .i64 l2_1)]] = ((impl_SameMatrix.f k a0_0 l0_1 a2_0 l2_1).bind fun t1 => (some (impl_found_put_1.en a2_0 l2_1 t1))) := by kernel_rfl
theorem impl_found_put_1.sf (k : Nat) (a0_0 : Int) (l0_1 : List Int) (a0_2 : ByteArray) (a2_0 : Int) (l2_1 : List Int) : R.start Try.prog xhn impl_found_put_1.O 1 Try.f171 impl_found_put_1.fh k [.agg [.int .i64 a0_0, .imm (.I .i64 l0_1), .str a0_2], .ptr 0 0] [.box true [.int .i64 a2_0, .imm (.I .i64 l2_1)]] = (impl_found_put_1.f k a0_0 l0_1 a0_2 a2_0 l2_1).map (impl_found_put_1.en a2_0 l2_1) := by
  rw [impl_found_put_1.ef]
  simp only [impl_found_put_1.f, R.map_ite, R.map_bind, R.map_none, R.map_some, R.wr64_eq]
theorem impl_found_put_1.ok (k : Nat) : impl_found_put_1.tw.Ok Try.prog k := by
  intro a r h
  refine fn_ok (H := xhn) (fh := impl_found_put_1.fh) (O := impl_found_put_1.O) (k := k) Try.func171 (by kernel_rfl) (by kernel_rfl) (fun j _ => (Tw.orc_sound impl_SameMatrix.dok (impl_SameMatrix.ok j) noO_sound)) (by kernel_rfl) (m := 1) rfl ?_
  refine (impl_found_put_1.sf k a.1 a.2.1 a.2.2.1 a.2.2.2.1 a.2.2.2.2).trans ?_
  exact congrArg (Option.map _) h
def slices_IndexFunc_impl_Element_impl_Element.l0 : Nat → (List Elm) → Int → Int → Int → (List Int) → Option (Int)
  | 0, _, _, _, _, _ => none
  | k + 1, x0, x7, x8, y0_0, y0_1 => (if x8 < x7 then (if 0 ≤ x8 then (if x8 < (x0.length : Int) then ((impl_found_put_1.f k ((rdE x0 x8).f0) ((rdE x0 x8).f1) ((rdE x0 x8).f2) y0_0 y0_1).bind fun t1 => (if t1 = true then (some x8) else (slices_IndexFunc_impl_Element_impl_Element.l0 k x0 x7 (wrap64 (x8 + 1)) y0_0 y0_1))) else none) else none) else (some (-1)))
def slices_IndexFunc_impl_Element_impl_Element.f (k : Nat) (l0 : List Elm) (a2_0 : Int) (l2_1 : List Int) : Option (Int) := (slices_IndexFunc_impl_Element_impl_Element.l0 k l0 (l0.length : Int) 0 a2_0 l2_1)
def slices_IndexFunc_impl_Element_impl_Element.en (a2_0 : Int) (l2_1 : List Int) (r : Int) : Res := (.int .i64 r, [.box true [.int .i64 a2_0, .imm (.I .i64 l2_1)]])
def slices_IndexFunc_impl_Element_impl_Element.dec : List AV → List R.Obj → Option ((List Elm) × Int × (List Int))
  | [.imm (.E l0), .clo 171 [.ptr 0 0]], [.box true [.int .i64 a2_0, .imm (.I .i64 l2_1)]] => some (l0, a2_0, l2_1)
  | _, _ => none
def slices_IndexFunc_impl_Element_impl_Element.tw : Tw := ⟨191, (List Elm) × Int × (List Int), Int, slices_IndexFunc_impl_Element_impl_Element.dec, fun a => [.imm (.E a.1), .clo 171 [.ptr 0 0]], fun a => [.box true [.int .i64 a.2.1, .imm (.I .i64 a.2.2)]], fun k a => slices_IndexFunc_impl_Element_impl_Element.f k a.1 a.2.1 a.2.2, fun a r => slices_IndexFunc_impl_Element_impl_Element.en a.2.1 a.2.2 r⟩
theorem slices_IndexFunc_impl_Element_impl_Element.dok : slices_IndexFunc_impl_Element_impl_Element.tw.DecOk := by
  intro args hc a h
  have h : slices_IndexFunc_impl_Element_impl_Element.dec args hc = some a := h
  unfold slices_IndexFunc_impl_Element_impl_Element.dec at h
  split at h
  · cases h; exact ⟨rfl, rfl⟩
  · cases h
noncomputable def slices_IndexFunc_impl_Element_impl_Element.O (k : Nat) : Oracle := (impl_found_put_1.tw.orc k noO)
def slices_IndexFunc_impl_Element_impl_Element.fh : FH := ⟨fun i => match i with | 2 => some [(0, 0), (1, 0), (7, 0), (8, 0)] | _ => none, [], false⟩
noncomputable def slices_IndexFunc_impl_Element_impl_Element.x0 (k : Nat) (x0 : List Elm) (x7 : Int) (x8 : Int) (y0_0 : Int) (y0_1 : List Int) : Option Res := R.exec Try.prog xhn slices_IndexFunc_impl_Element_impl_Element.O 1 Try.f191 slices_IndexFunc_impl_Element_impl_Element.fh k (R.point Try.f191 2) ⟨[(0, .imm (.E x0)), (1, .clo 171 [.ptr 0 0]), (7, .int .i64 x7), (8, .int .i64 x8)], [(0, .box true [.int .i64 y0_0, .imm (.I .i64 y0_1)])], 3⟩
set_option maxRecDepth 100000 in
theorem slices_IndexFunc_impl_Element_impl_Element.e0 (k : Nat) (x0 : List Elm) (x7 : Int) (x8 : Int) (y0_0 : Int) (y0_1 : List Int) : slices_IndexFunc_impl_Element_impl_Element.x0 (k + 1) x0 x7 x8 y0_0 y0_1 = (if x8 < x7 then (if 0 ≤ x8 then (if x8 < (x0.length : Int) then ((impl_found_put_1.f k ((rdE x0 x8).f0) ((rdE x0 x8).f1) ((rdE x0 x8).f2) y0_0 y0_1).bind fun t1 => (if t1 = true then (some (slices_IndexFunc_impl_Element_impl_Element.en y0_0 y0_1 x8)) else (slices_IndexFunc_impl_Element_impl_Element.x0 k x0 x7 (wr64 (x8 + 1)) y0_0 y0_1))) else none) else none) else (some (slices_IndexFunc_impl_Element_impl_Element.en y0_0 y0_1 (-1)))) := by kernel_rfl
set_option maxRecDepth 100000 in
theorem slices_IndexFunc_impl_Element_impl_Element.ef (k : Nat) (l0 : List Elm) (a2_0 : Int) (l2_1 : List Int) : R.start Try.prog xhn slices_IndexFunc_impl_Element_impl_Element.O 1 Try.f191 slices_IndexFunc_impl_Element_impl_Element.fh k [.imm (.E l0), .clo 171 [.ptr 0 0]] [.box true [.int .i64 a2_0, .imm (.I .i64 l2_1)]] = (slices_IndexFunc_impl_Element_impl_Element.x0 k l0 (l0.length : Int) 0 a2_0 l2_1) := by kernel_rfl
theorem slices_IndexFunc_impl_Element_impl_Element.link : ∀ k, (∀ (x0 : List Elm) (x7 : Int) (x8 : Int) (y0_0 : Int) (y0_1 : List Int), slices_IndexFunc_impl_Element_impl_Element.x0 k x0 x7 x8 y0_0 y0_1 = (slices_IndexFunc_impl_Element_impl_Element.l0 k x0 x7 x8 y0_0 y0_1).map (slices_IndexFunc_impl_Element_impl_Element.en y0_0 y0_1))
  | 0 => fun _ _ _ _ _ => by simp only [slices_IndexFunc_impl_Element_impl_Element.l0, R.map_none]; rfl
  | k + 1 => by
    have ih0 := slices_IndexFunc_impl_Element_impl_Element.link k
    · intro x0 x7 x8 y0_0 y0_1
      rw [slices_IndexFunc_impl_Element_impl_Element.e0]
      simp only [slices_IndexFunc_impl_Element_impl_Element.l0, R.map_ite, R.map_bind, R.map_none, R.map_some, R.wr64_eq, ← ih0]
theorem slices_IndexFunc_impl_Element_impl_Element.sf (k : Nat) (l0 : List Elm) (a2_0 : Int) (l2_1 : List Int) : R.start Try.prog xhn slices_IndexFunc_impl_Element_impl_Element.O 1 Try.f191 slices_IndexFunc_impl_Element_impl_Element.fh k [.imm (.E l0), .clo 171 [.ptr 0 0]] [.box true [.int .i64 a2_0, .imm (.I .i64 l2_1)]] = (slices_IndexFunc_impl_Element_impl_Element.f k l0 a2_0 l2_1).map (slices_IndexFunc_impl_Element_impl_Element.en a2_0 l2_1) := by
  have ih0 := slices_IndexFunc_impl_Element_impl_Element.link k
  rw [slices_IndexFunc_impl_Element_impl_Element.ef]
  simp only [slices_IndexFunc_impl_Element_impl_Element.f, R.map_ite, R.map_bind, R.map_none, R.map_some, R.wr64_eq, ← ih0]
theorem slices_IndexFunc_impl_Element_impl_Element.ok (k : Nat) : slices_IndexFunc_impl_Element_impl_Element.tw.Ok Try.prog k := by
  intro a r h
  refine fn_ok (H := xhn) (fh := slices_IndexFunc_impl_Element_impl_Element.fh) (O := slices_IndexFunc_impl_Element_impl_Element.O) (k := k) Try.func191 (by kernel_rfl) (by kernel_rfl) (fun j _ => (Tw.orc_sound impl_found_put_1.dok (impl_found_put_1.ok j) noO_sound)) (by kernel_rfl) (m := 1) rfl ?_
  refine (slices_IndexFunc_impl_Element_impl_Element.sf k a.1 a.2.1 a.2.2).trans ?_
  exact congrArg (Option.map _) h
def slices_ContainsFunc_impl_Element_impl_Element.f (k : Nat) (l0 : List Elm) (a2_0 : Int) (l2_1 : List Int) : Option (Bool) := ((slices_IndexFunc_impl_Element_impl_Element.f k l0 a2_0 l2_1).bind fun t1 => (some (decide (t1 ≥ 0))))
def slices_ContainsFunc_impl_Element_impl_Element.en (a2_0 : Int) (l2_1 : List Int) (r : Bool) : Res := (.lit r, [.box true [.int .i64 a2_0, .imm (.I .i64 l2_1)]])
def slices_ContainsFunc_impl_Element_impl_Element.dec : List AV → List R.Obj → Option ((List Elm) × Int × (List Int))
  | [.imm (.E l0), .clo 171 [.ptr 0 0]], [.box true [.int .i64 a2_0, .imm (.I .i64 l2_1)]] => some (l0, a2_0, l2_1)
  | _, _ => none
def slices_ContainsFunc_impl_Element_impl_Element.tw : Tw := ⟨170, (List Elm) × Int × (List Int), Bool, slices_ContainsFunc_impl_Element_impl_Element.dec, fun a => [.imm (.E a.1), .clo 171 [.ptr 0 0]], fun a => [.box true [.int .i64 a.2.1, .imm (.I .i64 a.2.2)]], fun k a => slices_ContainsFunc_impl_Element_impl_Element.f k a.1 a.2.1 a.2.2, fun a r => slices_ContainsFunc_impl_Element_impl_Element.en a.2.1 a.2.2 r⟩
theorem slices_ContainsFunc_impl_Element_impl_Element.dok : slices_ContainsFunc_impl_Element_impl_Element.tw.DecOk := by
  intro args hc a h
  have h : slices_ContainsFunc_impl_Element_impl_Element.dec args hc = some a := h
  unfold slices_ContainsFunc_impl_Element_impl_Element.dec at h
  split at h
  · cases h; exact ⟨rfl, rfl⟩
  · cases h
noncomputable def slices_ContainsFunc_impl_Element_impl_Element.O (k : Nat) : Oracle := (slices_IndexFunc_impl_Element_impl_Element.tw.orc k noO)
def slices_ContainsFunc_impl_Element_impl_Element.fh : FH := ⟨fun i => match i with | _ => none, [], false⟩
set_option maxRecDepth 100000 in
theorem slices_ContainsFunc_impl_Element_impl_Element.ef (k : Nat) (l0 : List Elm) (a2_0 : Int) (l2_1 : List Int) : R.start Try.prog xhn slices_ContainsFunc_impl_Element_impl_Element.O 1 Try.f170 slices_ContainsFunc_impl_Element_impl_Element.fh k [.imm (.E l0), .clo 171 [.ptr 0 0]] [.box true [.int .i64 a2_0, .imm (.I .i64 l2_1)]] = ((slices_IndexFunc_impl_Element_impl_Element.f k l0 a2_0 l2_1).bind fun t1 => (some (slices_ContainsFunc_impl_Element_impl_Element.en a2_0 l2_1 (decide (t1 ≥ 0))))) := by kernel_rfl
theorem slices_ContainsFunc_impl_Element_impl_Element.sf (k : Nat) (l0 : List Elm) (a2_0 : Int) (l2_1 : List Int) : R.start Try.prog xhn slices_ContainsFunc_impl_Element_impl_Element.O 1 Try.f170 slices_ContainsFunc_impl_Element_impl_Element.fh k [.imm (.E l0), .clo 171 [.ptr 0 0]] [.box true [.int .i64 a2_0, .imm (.I .i64 l2_1)]] = (slices_ContainsFunc_impl_Element_impl_Element.f k l0 a2_0 l2_1).map (slices_ContainsFunc_impl_Element_impl_Element.en a2_0 l2_1) := by
  rw [slices_ContainsFunc_impl_Element_impl_Element.ef]
  simp only [slices_ContainsFunc_impl_Element_impl_Element.f, R.map_ite, R.map_bind, R.map_none, R.map_some, R.wr64_eq]
theorem slices_ContainsFunc_impl_Element_impl_Element.ok (k : Nat) : slices_ContainsFunc_impl_Element_impl_Element.tw.Ok Try.prog k := by
  intro a r h
  refine fn_ok (H := xhn) (fh := slices_ContainsFunc_impl_Element_impl_Element.fh) (O := slices_ContainsFunc_impl_Element_impl_Element.O) (k := k) Try.func170 (by kernel_rfl) (by kernel_rfl) (fun j _ => (Tw.orc_sound slices_IndexFunc_impl_Element_impl_Element.dok (slices_IndexFunc_impl_Element_impl_Element.ok j) noO_sound)) (by kernel_rfl) (m := 1) rfl ?_
  refine (slices_ContainsFunc_impl_Element_impl_Element.sf k a.1 a.2.1 a.2.2).trans ?_
  exact congrArg (Option.map _) h
def impl_found_put.f (k : Nat) (a1_0 : Int) (l1_1 : List Int) (a2 : ByteArray) (l4 : List Elm) (a3_1 : Bool) : Option ((List Elm) × Bool) := ((slices_ContainsFunc_impl_Element_impl_Element.f k l4 a1_0 l1_1).bind fun t1 => (if t1 = true then (some (l4, a3_1)) else (if (l4.length : Int) ≥ 120 then (some (l4, false)) else (if (a2.size : Int) > 120 then (some (l4, false)) else (if l4.length < 2932031007402 then (some ((l4 ++ [(⟨a1_0, l1_1, a2⟩ : Elm)]), a3_1)) else none)))))
def impl_found_put.en (r : (List Elm) × Bool) : Res := (.tup [], [.box false [.sl 1 1, .lit r.2], .arr 82 1 (.E r.1) true])
def impl_found_put.dec : List AV → List R.Obj → Option (Int × (List Int) × ByteArray × (List Elm) × Bool)
  | [.ptr 0 0, .agg [.int .i64 a1_0, .imm (.I .i64 l1_1)], .str a2], [.box false [.sl 1 0, .lit a3_1], .arr 82 0 (.E l4) false] => some (a1_0, l1_1, a2, l4, a3_1)
  | _, _ => none
def impl_found_put.tw : Tw := ⟨125, Int × (List Int) × ByteArray × (List Elm) × Bool, (List Elm) × Bool, impl_found_put.dec, fun a => [.ptr 0 0, .agg [.int .i64 a.1, .imm (.I .i64 a.2.1)], .str a.2.2.1], fun a => [.box false [.sl 1 0, .lit a.2.2.2.2], .arr 82 0 (.E a.2.2.2.1) false], fun k a => impl_found_put.f k a.1 a.2.1 a.2.2.1 a.2.2.2.1 a.2.2.2.2, fun a r => impl_found_put.en r⟩
theorem impl_found_put.dok : impl_found_put.tw.DecOk := by
  intro args hc a h
  have h : impl_found_put.dec args hc = some a := h
  unfold impl_found_put.dec at h
  split at h
  · cases h; exact ⟨rfl, rfl⟩
  · cases h
noncomputable def impl_found_put.O (k : Nat) : Oracle := (slices_ContainsFunc_impl_Element_impl_Element.tw.orc k noO)
def impl_found_put.fh : FH := ⟨fun i => match i with | _ => none, [], true⟩
set_option maxRecDepth 100000 in
theorem impl_found_put.ef (k : Nat) (a1_0 : Int) (l1_1 : List Int) (a2 : ByteArray) (l4 : List Elm) (a3_1 : Bool) : R.start Try.prog xhn impl_found_put.O 2 Try.f125 impl_found_put.fh k [.ptr 0 0, .agg [.int .i64 a1_0, .imm (.I .i64 l1_1)], .str a2] [.box false [.sl 1 0, .lit a3_1], .arr 82 0 (.E l4) false] = ((slices_ContainsFunc_impl_Element_impl_Element.f k l4 a1_0 l1_1).bind fun t1 => (if t1 = true then (some (impl_found_put.en (l4, a3_1))) else (if (l4.length : Int) ≥ 120 then (some (impl_found_put.en (l4, false))) else (if (a2.size : Int) > 120 then (some (impl_found_put.en (l4, false))) else (if l4.length < 2932031007402 then (some (impl_found_put.en ((l4 ++ [(⟨a1_0, l1_1, a2⟩ : Elm)]), a3_1))) else none))))) := by kernel_rfl
theorem impl_found_put.sf (k : Nat) (a1_0 : Int) (l1_1 : List Int) (a2 : ByteArray) (l4 : List Elm) (a3_1 : Bool) : R.start Try.prog xhn impl_found_put.O 2 Try.f125 impl_found_put.fh k [.ptr 0 0, .agg [.int .i64 a1_0, .imm (.I .i64 l1_1)], .str a2] [.box false [.sl 1 0, .lit a3_1], .arr 82 0 (.E l4) false] = (impl_found_put.f k a1_0 l1_1 a2 l4 a3_1).map (impl_found_put.en) := by
  rw [impl_found_put.ef]
  simp only [impl_found_put.f, R.map_ite, R.map_bind, R.map_none, R.map_some, R.wr64_eq]
theorem impl_found_put.ok (k : Nat) : impl_found_put.tw.Ok Try.prog k := by
  intro a r h
  refine fn_ok (H := xhn) (fh := impl_found_put.fh) (O := impl_found_put.O) (k := k) Try.func125 (by kernel_rfl) (by kernel_rfl) (fun j _ => (Tw.orc_sound slices_ContainsFunc_impl_Element_impl_Element.dok (slices_ContainsFunc_impl_Element_impl_Element.ok j) noO_sound)) (by kernel_rfl) (m := 2) rfl ?_
  refine (impl_found_put.sf k a.1 a.2.1 a.2.2.1 a.2.2.2.1 a.2.2.2.2).trans ?_
  exact congrArg (Option.map _) h
def impl_found_put_b.f (k : Nat) (a1_0 : Int) (l1_1 : List Int) (a2 : ByteArray) (l4 : List Elm) (a3_1 : Bool) : Option ((List Elm) × Bool) := ((slices_ContainsFunc_impl_Element_impl_Element.f k l4 a1_0 l1_1).bind fun t1 => (if t1 = true then (some (l4, a3_1)) else (if (l4.length : Int) ≥ 120 then (some (l4, false)) else (if (a2.size : Int) > 120 then (some (l4, false)) else (if l4.length < 2932031007402 then (some ((l4 ++ [(⟨a1_0, l1_1, a2⟩ : Elm)]), a3_1)) else none)))))
def impl_found_put_b.en (r : (List Elm) × Bool) : Res := (.tup [], [.box false [.sl 1 1, .lit r.2], .arr 82 1 (.E r.1) true])
def impl_found_put_b.dec : List AV → List R.Obj → Option (Int × (List Int) × ByteArray × (List Elm) × Bool)
  | [.ptr 0 0, .agg [.int .i64 a1_0, .imm (.I .i64 l1_1)], .str a2], [.box false [.sl 1 0, .lit a3_1], .arr 82 0 (.E l4) true] => some (a1_0, l1_1, a2, l4, a3_1)
  | _, _ => none
def impl_found_put_b.tw : Tw := ⟨125, Int × (List Int) × ByteArray × (List Elm) × Bool, (List Elm) × Bool, impl_found_put_b.dec, fun a => [.ptr 0 0, .agg [.int .i64 a.1, .imm (.I .i64 a.2.1)], .str a.2.2.1], fun a => [.box false [.sl 1 0, .lit a.2.2.2.2], .arr 82 0 (.E a.2.2.2.1) true], fun k a => impl_found_put_b.f k a.1 a.2.1 a.2.2.1 a.2.2.2.1 a.2.2.2.2, fun a r => impl_found_put_b.en r⟩
theorem impl_found_put_b.dok : impl_found_put_b.tw.DecOk := by
  intro args hc a h
  have h : impl_found_put_b.dec args hc = some a := h
  unfold impl_found_put_b.dec at h
  split at h
  · cases h; exact ⟨rfl, rfl⟩
  · cases h
noncomputable def impl_found_put_b.O (k : Nat) : Oracle := (slices_ContainsFunc_impl_Element_impl_Element.tw.orc k noO)
def impl_found_put_b.fh : FH := ⟨fun i => match i with | _ => none, [], true⟩
set_option maxRecDepth 100000 in
theorem impl_found_put_b.ef (k : Nat) (a1_0 : Int) (l1_1 : List Int) (a2 : ByteArray) (l4 : List Elm) (a3_1 : Bool) : R.start Try.prog xhn impl_found_put_b.O 2 Try.f125 impl_found_put_b.fh k [.ptr 0 0, .agg [.int .i64 a1_0, .imm (.I .i64 l1_1)], .str a2] [.box false [.sl 1 0, .lit a3_1], .arr 82 0 (.E l4) true] = ((slices_ContainsFunc_impl_Element_impl_Element.f k l4 a1_0 l1_1).bind fun t1 => (if t1 = true then (some (impl_found_put_b.en (l4, a3_1))) else (if (l4.length : Int) ≥ 120 then (some (impl_found_put_b.en (l4, false))) else (if (a2.size : Int) > 120 then (some (impl_found_put_b.en (l4, false))) else (if l4.length < 2932031007402 then (some (impl_found_put_b.en ((l4 ++ [(⟨a1_0, l1_1, a2⟩ : Elm)]), a3_1))) else none))))) := by kernel_rfl
theorem impl_found_put_b.sf (k : Nat) (a1_0 : Int) (l1_1 : List Int) (a2 : ByteArray) (l4 : List Elm) (a3_1 : Bool) : R.start Try.prog xhn impl_found_put_b.O 2 Try.f125 impl_found_put_b.fh k [.ptr 0 0, .agg [.int .i64 a1_0, .imm (.I .i64 l1_1)], .str a2] [.box false [.sl 1 0, .lit a3_1], .arr 82 0 (.E l4) true] = (impl_found_put_b.f k a1_0 l1_1 a2 l4 a3_1).map (impl_found_put_b.en) := by
  rw [impl_found_put_b.ef]
  simp only [impl_found_put_b.f, R.map_ite, R.map_bind, R.map_none, R.map_some, R.wr64_eq]
theorem impl_found_put_b.ok (k : Nat) : impl_found_put_b.tw.Ok Try.prog k := by
  intro a r h
  refine fn_ok (H := xhn) (fh := impl_found_put_b.fh) (O := impl_found_put_b.O) (k := k) Try.func125 (by kernel_rfl) (by kernel_rfl) (fun j _ => (Tw.orc_sound slices_ContainsFunc_impl_Element_impl_Element.dok (slices_ContainsFunc_impl_Element_impl_Element.ok j) noO_sound)) (by kernel_rfl) (m := 2) rfl ?_
  refine (impl_found_put_b.sf k a.1 a.2.1 a.2.2.1 a.2.2.2.1 a.2.2.2.2).trans ?_
  exact congrArg (Option.map _) h
def impl_ElementsOf_1.l0 : Nat → Int → Int → (List Elm) → Bool → Int → (List Int) → ByteArray → Option ((List Elm) × Bool)
  | 0, _, _, _, _, _, _, _ => none
  | k + 1, x1, x7, y1, y0_1, y2_0, y2_1, y2_2 => (if x7 ≤ x1 then (if y0_1 = true then (if 0 ≤ x7 then (if x7 < (y1.length : Int) then ((impl_MulGrades.f k y2_0 y2_1 ((rdE y1 x7).f0) ((rdE y1 x7).f1)).bind fun t3 => (if y2_2.size + (rdE y1 x7).f2.size ≤ 9223372036854775807 then ((impl_found_put_b.f k t3.1 t3.2.1 (y2_2 ++ (rdE y1 x7).f2) y1 y0_1).bind fun t4 => ((impl_MulGrades.f k ((rdE y1 x7).f0) ((rdE y1 x7).f1) y2_0 y2_1).bind fun t5 => (if (rdE y1 x7).f2.size + y2_2.size ≤ 9223372036854775807 then ((impl_found_put_b.f k t5.1 t5.2.1 ((rdE y1 x7).f2 ++ y2_2) t4.1 t4.2).bind fun t6 => (impl_ElementsOf_1.l0 k x1 (wrap64 (x7 + 1)) t6.1 t6.2 y2_0 y2_1 y2_2)) else none))) else none)) else none) else none) else (some (y1, y0_1))) else (some (y1, y0_1)))
def impl_ElementsOf_1.f (k : Nat) (a1 : Int) (l3 : List Elm) (a2_1 : Bool) : Option ((List Elm) × Bool) := (if 0 ≤ a1 then (if a1 < (l3.length : Int) then ((impl_Stabilise.f k ((rdE l3 a1).f0) ((rdE l3 a1).f1)).bind fun t1 => (if t1.2.2 = true then (if 1 + (rdE l3 a1).f2.size ≤ 9223372036854775807 then (if ((⟨#[40]⟩ : ByteArray) ++ (rdE l3 a1).f2).size + 2 ≤ 9223372036854775807 then ((impl_found_put_b.f k t1.1 t1.2.1 (((⟨#[40]⟩ : ByteArray) ++ (rdE l3 a1).f2) ++ (⟨#[41, 35]⟩ : ByteArray)) l3 a2_1).bind fun t2 => (impl_ElementsOf_1.l0 k a1 0 t2.1 t2.2 ((rdE l3 a1).f0) ((rdE l3 a1).f1) ((rdE l3 a1).f2))) else none) else none) else (impl_ElementsOf_1.l0 k a1 0 l3 a2_1 ((rdE l3 a1).f0) ((rdE l3 a1).f1) ((rdE l3 a1).f2)))) else none) else none)
def impl_ElementsOf_1.en (r : (List Elm) × Bool) : Res := (.tup [], [.box false [.sl 1 1, .lit r.2], .arr 82 1 (.E r.1) true])
def impl_ElementsOf_1.dec : List AV → List R.Obj → Option (Int × (List Elm) × Bool)
  | [.ptr 0 0, .int .i64 a1], [.box false [.sl 1 0, .lit a2_1], .arr 82 0 (.E l3) true] => some (a1, l3, a2_1)
  | _, _ => none
def impl_ElementsOf_1.tw : Tw := ⟨128, Int × (List Elm) × Bool, (List Elm) × Bool, impl_ElementsOf_1.dec, fun a => [.ptr 0 0, .int .i64 a.1], fun a => [.box false [.sl 1 0, .lit a.2.2], .arr 82 0 (.E a.2.1) true], fun k a => impl_ElementsOf_1.f k a.1 a.2.1 a.2.2, fun a r => impl_ElementsOf_1.en r⟩
theorem impl_ElementsOf_1.dok : impl_ElementsOf_1.tw.DecOk := by
  intro args hc a h
  have h : impl_ElementsOf_1.dec args hc = some a := h
  unfold impl_ElementsOf_1.dec at h
  split at h
  · cases h; exact ⟨rfl, rfl⟩
  · cases h
noncomputable def impl_ElementsOf_1.O (k : Nat) : Oracle := (impl_Stabilise.tw.orc k (impl_found_put_b.tw.orc k (impl_MulGrades.tw.orc k noO)))
def impl_ElementsOf_1.fh : FH := ⟨fun i => match i with | 5 => some [(0, 0), (1, 0), (4, 0), (7, 0)] | _ => none, [], true⟩
noncomputable def impl_ElementsOf_1.x0 (k : Nat) (x1 : Int) (x7 : Int) (y1 : List Elm) (y0_1 : Bool) (y2_0 : Int) (y2_1 : List Int) (y2_2 : ByteArray) : Option Res := R.exec Try.prog xhn impl_ElementsOf_1.O 2 Try.f128 impl_ElementsOf_1.fh k (R.point Try.f128 5) ⟨[(0, .ptr 0 0), (1, .int .i64 x1), (4, .ptr 2 0), (7, .int .i64 x7)], [(0, .box false [.sl 1 1, .lit y0_1]), (1, .arr 82 1 (.E y1) true), (2, .box false [.int .i64 y2_0, .imm (.I .i64 y2_1), .str y2_2])], 5⟩
set_option maxRecDepth 100000 in
theorem impl_ElementsOf_1.e0 (k : Nat) (x1 : Int) (x7 : Int) (y1 : List Elm) (y0_1 : Bool) (y2_0 : Int) (y2_1 : List Int) (y2_2 : ByteArray) : impl_ElementsOf_1.x0 (k + 1) x1 x7 y1 y0_1 y2_0 y2_1 y2_2 = (if x7 ≤ x1 then (if y0_1 = true then (if 0 ≤ x7 then (if x7 < (y1.length : Int) then ((impl_MulGrades.f k y2_0 y2_1 ((rdE y1 x7).f0) ((rdE y1 x7).f1)).bind fun t3 => (if y2_2.size + (rdE y1 x7).f2.size ≤ 9223372036854775807 then ((impl_found_put_b.f k t3.1 t3.2.1 (y2_2 ++ (rdE y1 x7).f2) y1 y0_1).bind fun t4 => ((impl_MulGrades.f k ((rdE y1 x7).f0) ((rdE y1 x7).f1) y2_0 y2_1).bind fun t5 => (if (rdE y1 x7).f2.size + y2_2.size ≤ 9223372036854775807 then ((impl_found_put_b.f k t5.1 t5.2.1 ((rdE y1 x7).f2 ++ y2_2) t4.1 t4.2).bind fun t6 => (impl_ElementsOf_1.x0 k x1 (wr64 (x7 + 1)) t6.1 t6.2 y2_0 y2_1 y2_2)) else none))) else none)) else none) else none) else (some (impl_ElementsOf_1.en (y1, y0_1)))) else (some (impl_ElementsOf_1.en (y1, y0_1)))) := by kernel_rfl
set_option maxRecDepth 100000 in
theorem impl_ElementsOf_1.ef (k : Nat) (a1 : Int) (l3 : List Elm) (a2_1 : Bool) : R.start Try.prog xhn impl_ElementsOf_1.O 2 Try.f128 impl_ElementsOf_1.fh k [.ptr 0 0, .int .i64 a1] [.box false [.sl 1 0, .lit a2_1], .arr 82 0 (.E l3) true] = (if 0 ≤ a1 then (if a1 < (l3.length : Int) then ((impl_Stabilise.f k ((rdE l3 a1).f0) ((rdE l3 a1).f1)).bind fun t1 => (if t1.2.2 = true then (if 1 + (rdE l3 a1).f2.size ≤ 9223372036854775807 then (if ((⟨#[40]⟩ : ByteArray) ++ (rdE l3 a1).f2).size + 2 ≤ 9223372036854775807 then ((impl_found_put_b.f k t1.1 t1.2.1 (((⟨#[40]⟩ : ByteArray) ++ (rdE l3 a1).f2) ++ (⟨#[41, 35]⟩ : ByteArray)) l3 a2_1).bind fun t2 => (impl_ElementsOf_1.x0 k a1 0 t2.1 t2.2 ((rdE l3 a1).f0) ((rdE l3 a1).f1) ((rdE l3 a1).f2))) else none) else none) else (impl_ElementsOf_1.x0 k a1 0 l3 a2_1 ((rdE l3 a1).f0) ((rdE l3 a1).f1) ((rdE l3 a1).f2)))) else none) else none) := by kernel_rfl
theorem impl_ElementsOf_1.link : ∀ k, (∀ (x1 : Int) (x7 : Int) (y1 : List Elm) (y0_1 : Bool) (y2_0 : Int) (y2_1 : List Int) (y2_2 : ByteArray), impl_ElementsOf_1.x0 k x1 x7 y1 y0_1 y2_0 y2_1 y2_2 = (impl_ElementsOf_1.l0 k x1 x7 y1 y0_1 y2_0 y2_1 y2_2).map (impl_ElementsOf_1.en))
  | 0 => fun _ _ _ _ _ _ _ => by simp only [impl_ElementsOf_1.l0, R.map_none]; rfl
  | k + 1 => by
    have ih0 := impl_ElementsOf_1.link k
    · intro x1 x7 y1 y0_1 y2_0 y2_1 y2_2
      rw [impl_ElementsOf_1.e0]
      simp only [impl_ElementsOf_1.l0, R.map_ite, R.map_bind, R.map_none, R.map_some, R.wr64_eq, ← ih0]
theorem impl_ElementsOf_1.sf (k : Nat) (a1 : Int) (l3 : List Elm) (a2_1 : Bool) : R.start Try.prog xhn impl_ElementsOf_1.O 2 Try.f128 impl_ElementsOf_1.fh k [.ptr 0 0, .int .i64 a1] [.box false [.sl 1 0, .lit a2_1], .arr 82 0 (.E l3) true] = (impl_ElementsOf_1.f k a1 l3 a2_1).map (impl_ElementsOf_1.en) := by
  have ih0 := impl_ElementsOf_1.link k
  rw [impl_ElementsOf_1.ef]
  simp only [impl_ElementsOf_1.f, R.map_ite, R.map_bind, R.map_none, R.map_some, R.wr64_eq, ← ih0]
theorem impl_ElementsOf_1.ok (k : Nat) : impl_ElementsOf_1.tw.Ok Try.prog k := by
  intro a r h
  refine fn_ok (H := xhn) (fh := impl_ElementsOf_1.fh) (O := impl_ElementsOf_1.O) (k := k) Try.func128 (by kernel_rfl) (by kernel_rfl) (fun j _ => (Tw.orc_sound impl_Stabilise.dok (impl_Stabilise.ok j) (Tw.orc_sound impl_found_put_b.dok (impl_found_put_b.ok j) (Tw.orc_sound impl_MulGrades.dok (impl_MulGrades.ok j) noO_sound)))) (by kernel_rfl) (m := 2) rfl ?_
  refine (impl_ElementsOf_1.sf k a.1 a.2.1 a.2.2).trans ?_
  exact congrArg (Option.map _) h
mutual
def impl_search.l0 : Nat → (List ByteArray) → Int → Int → Int → (List Int) → (List Int) → (List Stp) → (List Elm) → Bool → Option ((List Elm) × Bool)
  | 0, _, _, _, _, _, _, _, _, _ => none
  | k + 1, y2, x18, x19, y0_0, y0_1, y0_2, y0_3, y3, y1_1 => (if x19 < x18 then (if 0 ≤ x19 then (if x19 < (y2.length : Int) then ((impl_ValueOf.f k y0_0 y0_1 y0_2 y0_3 (rdS y2 x19)).bind fun t2 => ((impl_found_put_b.f k t2.1 t2.2.1 (rdS y2 x19) y3 y1_1).bind fun t3 => (impl_search.l0 k y2 x18 (wrap64 (x19 + 1)) y0_0 y0_1 y0_2 y0_3 t3.1 t3.2))) else none) else none) else (impl_search.l1 k 0 y3 y1_1))
def impl_search.l1 : Nat → Int → (List Elm) → Bool → Option ((List Elm) × Bool)
  | 0, _, _, _ => none
  | k + 1, x11, y1, y0_1 => (if x11 < (y1.length : Int) then (if y0_1 = true then ((impl_ElementsOf_1.f k x11 y1 y0_1).bind fun t4 => (impl_search.l1 k (wrap64 (x11 + 1)) t4.1 t4.2)) else (some (([] : List Elm), false))) else (if y0_1 = true then (some (y1, true)) else (some (([] : List Elm), false))))
end
def impl_search.f (k : Nat) (a0_0 : Int) (l0_1 : List Int) (l0_2 : List Int) (l0_3 : List Stp) : Option ((List Elm) × Bool) := ((impl_AutomatonValid.f k a0_0 l0_1 l0_2 l0_3).bind fun t1 => (if t1 = true then (impl_search.l0 k ([(⟨#[97]⟩ : ByteArray), (⟨#[98]⟩ : ByteArray)]) ([(⟨#[97]⟩ : ByteArray), (⟨#[98]⟩ : ByteArray)].length : Int) 0 a0_0 l0_1 l0_2 l0_3 ([] : List Elm) true) else (some (([] : List Elm), false))))
def impl_search.en (r : (List Elm) × Bool) : Res := (.tup [.imm (.E r.1), .lit r.2], [])
def impl_search.dec : List AV → List R.Obj → Option (Int × (List Int) × (List Int) × (List Stp))
  | [.agg [.int .i64 a0_0, .imm (.I .i64 l0_1), .imm (.I .i64 l0_2), .imm (.T l0_3)], .clo 128 []], [] => some (a0_0, l0_1, l0_2, l0_3)
  | _, _ => none
def impl_search.tw : Tw := ⟨123, Int × (List Int) × (List Int) × (List Stp), (List Elm) × Bool, impl_search.dec, fun a => [.agg [.int .i64 a.1, .imm (.I .i64 a.2.1), .imm (.I .i64 a.2.2.1), .imm (.T a.2.2.2)], .clo 128 []], fun a => [], fun k a => impl_search.f k a.1 a.2.1 a.2.2.1 a.2.2.2, fun a r => impl_search.en r⟩
theorem impl_search.dok : impl_search.tw.DecOk := by
  intro args hc a h
  have h : impl_search.dec args hc = some a := h
  unfold impl_search.dec at h
  split at h
  · cases h; exact ⟨rfl, rfl⟩
  · cases h
noncomputable def impl_search.O (k : Nat) : Oracle := (impl_AutomatonValid.tw.orc k (impl_ValueOf.tw.orc k (impl_found_put_b.tw.orc k (impl_ElementsOf_1.tw.orc k noO))))
def impl_search.fh : FH := ⟨fun i => match i with | 5 => some [(1, 0), (2, 0), (6, 2), (17, 0), (18, 0), (19, 0)] | 11 => some [(1, 0), (6, 0), (11, 0)] | _ => none, [(false, 82)], false⟩
noncomputable def impl_search.x0 (k : Nat) (y2 : List ByteArray) (x18 : Int) (x19 : Int) (y0_0 : Int) (y0_1 : List Int) (y0_2 : List Int) (y0_3 : List Stp) (y3 : List Elm) (y1_1 : Bool) : Option Res := R.exec Try.prog xhn impl_search.O 0 Try.f123 impl_search.fh k (R.point Try.f123 5) ⟨[(1, .clo 128 []), (2, .ptr 0 0), (6, .ptr 1 0), (17, .sl 2 0), (18, .int .i64 x18), (19, .int .i64 x19)], [(0, .box false [.int .i64 y0_0, .imm (.I .i64 y0_1), .imm (.I .i64 y0_2), .imm (.T y0_3)]), (1, .box false [.sl 3 0, .lit y1_1]), (2, .arr 9 0 (.S y2) false), (3, .arr 82 0 (.E y3) true)], 6⟩
noncomputable def impl_search.x1 (k : Nat) (x11 : Int) (y1 : List Elm) (y0_1 : Bool) : Option Res := R.exec Try.prog xhn impl_search.O 0 Try.f123 impl_search.fh k (R.point Try.f123 11) ⟨[(1, .clo 128 []), (6, .ptr 0 0), (11, .int .i64 x11)], [(0, .box false [.sl 1 0, .lit y0_1]), (1, .arr 82 0 (.E y1) true)], 4⟩
set_option maxRecDepth 100000 in
theorem impl_search.e0 (k : Nat) (y2 : List ByteArray) (x18 : Int) (x19 : Int) (y0_0 : Int) (y0_1 : List Int) (y0_2 : List Int) (y0_3 : List Stp) (y3 : List Elm) (y1_1 : Bool) : impl_search.x0 (k + 1) y2 x18 x19 y0_0 y0_1 y0_2 y0_3 y3 y1_1 = (if x19 < x18 then (if 0 ≤ x19 then (if x19 < (y2.length : Int) then ((impl_ValueOf.f k y0_0 y0_1 y0_2 y0_3 (rdS y2 x19)).bind fun t2 => ((impl_found_put_b.f k t2.1 t2.2.1 (rdS y2 x19) y3 y1_1).bind fun t3 => (impl_search.x0 k y2 x18 (wr64 (x19 + 1)) y0_0 y0_1 y0_2 y0_3 t3.1 t3.2))) else none) else none) else (impl_search.x1 k 0 y3 y1_1)) := by kernel_rfl
set_option maxRecDepth 100000 in
theorem impl_search.e1 (k : Nat) (x11 : Int) (y1 : List Elm) (y0_1 : Bool) : impl_search.x1 (k + 1) x11 y1 y0_1 = (if x11 < (y1.length : Int) then (if y0_1 = true then ((impl_ElementsOf_1.f k x11 y1 y0_1).bind fun t4 => (impl_search.x1 k (wr64 (x11 + 1)) t4.1 t4.2)) else (some (impl_search.en (([] : List Elm), false)))) else (if y0_1 = true then (some (impl_search.en (y1, true))) else (some (impl_search.en (([] : List Elm), false))))) := by
  refine Eq.trans ?_ (R.icong (fun h0 => (R.icong (fun h1 => rfl) (fun h1 => (R.idropF (p := y0_1 = true) (z := (some (impl_search.en (y1, true)))) h1 rfl)))) (fun h0 => rfl))
  kernel_rfl
set_option maxRecDepth 100000 in
theorem impl_search.ef (k : Nat) (a0_0 : Int) (l0_1 : List Int) (l0_2 : List Int) (l0_3 : List Stp) : R.start Try.prog xhn impl_search.O 0 Try.f123 impl_search.fh k [.agg [.int .i64 a0_0, .imm (.I .i64 l0_1), .imm (.I .i64 l0_2), .imm (.T l0_3)], .clo 128 []] [] = ((impl_AutomatonValid.f k a0_0 l0_1 l0_2 l0_3).bind fun t1 => (if t1 = true then (impl_search.x0 k ([(⟨#[97]⟩ : ByteArray), (⟨#[98]⟩ : ByteArray)]) ([(⟨#[97]⟩ : ByteArray), (⟨#[98]⟩ : ByteArray)].length : Int) 0 a0_0 l0_1 l0_2 l0_3 ([] : List Elm) true) else (some (impl_search.en (([] : List Elm), false))))) := by kernel_rfl
theorem impl_search.link : ∀ k, (∀ (y2 : List ByteArray) (x18 : Int) (x19 : Int) (y0_0 : Int) (y0_1 : List Int) (y0_2 : List Int) (y0_3 : List Stp) (y3 : List Elm) (y1_1 : Bool), impl_search.x0 k y2 x18 x19 y0_0 y0_1 y0_2 y0_3 y3 y1_1 = (impl_search.l0 k y2 x18 x19 y0_0 y0_1 y0_2 y0_3 y3 y1_1).map (impl_search.en)) ∧ (∀ (x11 : Int) (y1 : List Elm) (y0_1 : Bool), impl_search.x1 k x11 y1 y0_1 = (impl_search.l1 k x11 y1 y0_1).map (impl_search.en))
  | 0 => ⟨fun _ _ _ _ _ _ _ _ _ => by simp only [impl_search.l0, R.map_none]; rfl, fun _ _ _ => by simp only [impl_search.l1, R.map_none]; rfl⟩
  | k + 1 => by
    obtain ⟨ih0, ih1⟩ := impl_search.link k
    refine ⟨?_, ?_⟩
    · intro y2 x18 x19 y0_0 y0_1 y0_2 y0_3 y3 y1_1
      rw [impl_search.e0]
      simp only [impl_search.l0, R.map_ite, R.map_bind, R.map_none, R.map_some, R.wr64_eq, ← ih0, ← ih1]
    · intro x11 y1 y0_1
      rw [impl_search.e1]
      simp only [impl_search.l1, R.map_ite, R.map_bind, R.map_none, R.map_some, R.wr64_eq, ← ih0, ← ih1]
theorem impl_search.sf (k : Nat) (a0_0 : Int) (l0_1 : List Int) (l0_2 : List Int) (l0_3 : List Stp) : R.start Try.prog xhn impl_search.O 0 Try.f123 impl_search.fh k [.agg [.int .i64 a0_0, .imm (.I .i64 l0_1), .imm (.I .i64 l0_2), .imm (.T l0_3)], .clo 128 []] [] = (impl_search.f k a0_0 l0_1 l0_2 l0_3).map (impl_search.en) := by
  obtain ⟨ih0, ih1⟩ := impl_search.link k
  rw [impl_search.ef]
  simp only [impl_search.f, R.map_ite, R.map_bind, R.map_none, R.map_some, R.wr64_eq, ← ih0, ← ih1]
theorem impl_search.ok (k : Nat) : impl_search.tw.Ok Try.prog k := by
  intro a r h
  refine fn_ok (H := xhn) (fh := impl_search.fh) (O := impl_search.O) (k := k) Try.func123 (by kernel_rfl) (by kernel_rfl) (fun j _ => (Tw.orc_sound impl_AutomatonValid.dok (impl_AutomatonValid.ok j) (Tw.orc_sound impl_ValueOf.dok (impl_ValueOf.ok j) (Tw.orc_sound impl_found_put_b.dok (impl_found_put_b.ok j) (Tw.orc_sound impl_ElementsOf_1.dok (impl_ElementsOf_1.ok j) noO_sound))))) (by kernel_rfl) (m := 0) rfl ?_
  refine (impl_search.sf k a.1 a.2.1 a.2.2.1 a.2.2.2).trans ?_
  exact congrArg (Option.map _) h
def impl_ElementsOf.f (k : Nat) (a0_0 : Int) (l0_1 : List Int) (l0_2 : List Int) (l0_3 : List Stp) : Option ((List Elm) × Bool) := ((impl_search.f k a0_0 l0_1 l0_2 l0_3).bind fun t1 => (some (t1.1, t1.2)))
def impl_ElementsOf.en (r : (List Elm) × Bool) : Res := (.tup [.imm (.E r.1), .lit r.2], [])
def impl_ElementsOf.dec : List AV → List R.Obj → Option (Int × (List Int) × (List Int) × (List Stp))
  | [.agg [.int .i64 a0_0, .imm (.I .i64 l0_1), .imm (.I .i64 l0_2), .imm (.T l0_3)]], [] => some (a0_0, l0_1, l0_2, l0_3)
  | _, _ => none
def impl_ElementsOf.tw : Tw := ⟨63, Int × (List Int) × (List Int) × (List Stp), (List Elm) × Bool, impl_ElementsOf.dec, fun a => [.agg [.int .i64 a.1, .imm (.I .i64 a.2.1), .imm (.I .i64 a.2.2.1), .imm (.T a.2.2.2)]], fun a => [], fun k a => impl_ElementsOf.f k a.1 a.2.1 a.2.2.1 a.2.2.2, fun a r => impl_ElementsOf.en r⟩
theorem impl_ElementsOf.dok : impl_ElementsOf.tw.DecOk := by
  intro args hc a h
  have h : impl_ElementsOf.dec args hc = some a := h
  unfold impl_ElementsOf.dec at h
  split at h
  · cases h; exact ⟨rfl, rfl⟩
  · cases h
noncomputable def impl_ElementsOf.O (k : Nat) : Oracle := (impl_search.tw.orc k noO)
def impl_ElementsOf.fh : FH := ⟨fun i => match i with | _ => none, [(false, 82)], false⟩
set_option maxRecDepth 100000 in
theorem impl_ElementsOf.ef (k : Nat) (a0_0 : Int) (l0_1 : List Int) (l0_2 : List Int) (l0_3 : List Stp) : R.start Try.prog xhn impl_ElementsOf.O 0 Try.f63 impl_ElementsOf.fh k [.agg [.int .i64 a0_0, .imm (.I .i64 l0_1), .imm (.I .i64 l0_2), .imm (.T l0_3)]] [] = ((impl_search.f k a0_0 l0_1 l0_2 l0_3).bind fun t1 => (some (impl_ElementsOf.en (t1.1, t1.2)))) := by kernel_rfl
theorem impl_ElementsOf.sf (k : Nat) (a0_0 : Int) (l0_1 : List Int) (l0_2 : List Int) (l0_3 : List Stp) : R.start Try.prog xhn impl_ElementsOf.O 0 Try.f63 impl_ElementsOf.fh k [.agg [.int .i64 a0_0, .imm (.I .i64 l0_1), .imm (.I .i64 l0_2), .imm (.T l0_3)]] [] = (impl_ElementsOf.f k a0_0 l0_1 l0_2 l0_3).map (impl_ElementsOf.en) := by
  rw [impl_ElementsOf.ef]
  simp only [impl_ElementsOf.f, R.map_ite, R.map_bind, R.map_none, R.map_some, R.wr64_eq]
theorem impl_ElementsOf.ok (k : Nat) : impl_ElementsOf.tw.Ok Try.prog k := by
  intro a r h
  refine fn_ok (H := xhn) (fh := impl_ElementsOf.fh) (O := impl_ElementsOf.O) (k := k) Try.func63 (by kernel_rfl) (by kernel_rfl) (fun j _ => (Tw.orc_sound impl_search.dok (impl_search.ok j) noO_sound)) (by kernel_rfl) (m := 0) rfl ?_
  refine (impl_ElementsOf.sf k a.1 a.2.1 a.2.2.1 a.2.2.2).trans ?_
  exact congrArg (Option.map _) h
mutual
def spec_l3Matrix.l0 : Nat → ByteArray → Int → Int → Int → (List Int) → (List Int) → (List Stp) → Int → (List Int) → Option (Int × (List Int))
  | 0, _, _, _, _, _, _, _, _, _ => none
  | k + 1, x1, x15, x16, y0_0, y0_1, y0_2, y0_3, y2_0, y4 => (if x16 < x15 then (if y4.length < 17592186044416 then (spec_l3Matrix.l0 k x1 x15 (wrap64 (x16 + 1)) y0_0 y0_1 y0_2 y0_3 y2_0 (y4 ++ [1000000])) else none) else (spec_l3Matrix.l1 k x1 y0_3 (y0_3.length : Int) 0 y0_0 y0_1 y0_2 y0_3 y2_0 y4))
def spec_l3Matrix.l1 : Nat → ByteArray → (List Stp) → Int → Int → Int → (List Int) → (List Int) → (List Stp) → Int → (List Int) → Option (Int × (List Int))
  | 0, _, _, _, _, _, _, _, _, _, _ => none
  | k + 1, x1, x25, x26, x27, y0_0, y0_1, y0_2, y0_3, y2_0, y4 => (if x27 < x26 then (if 0 ≤ x27 then (if x27 < (x25.length : Int) then (if (rdT x25 x27).f1.toList = x1.toList then (if 0 ≤ (wrap64 ((wrap64 ((rdT x25 x27).f0 * y0_0)) + (rdT x25 x27).f2)) then (if (wrap64 ((wrap64 ((rdT x25 x27).f0 * y0_0)) + (rdT x25 x27).f2)) < (y4.length : Int) then (spec_l3Matrix.l1 k x1 x25 x26 (wrap64 (x27 + 1)) y0_0 y0_1 y0_2 y0_3 y2_0 (y4.set (wrap64 ((wrap64 ((rdT x25 x27).f0 * y0_0)) + (rdT x25 x27).f2)).toNat (rdT x25 x27).f3)) else none) else none) else (spec_l3Matrix.l1 k x1 x25 x26 (wrap64 (x27 + 1)) y0_0 y0_1 y0_2 y0_3 y2_0 y4)) else none) else none) else (some (y2_0, y4)))
end
def spec_l3Matrix.f (k : Nat) (a0_0 : Int) (l0_1 : List Int) (l0_2 : List Int) (l0_3 : List Stp) (a1 : ByteArray) : Option (Int × (List Int)) := (spec_l3Matrix.l0 k a1 (wrap64 (a0_0 * a0_0)) 0 a0_0 l0_1 l0_2 l0_3 a0_0 ([] : List Int))
def spec_l3Matrix.en (r : Int × (List Int)) : Res := (.agg [.int .i64 r.1, .sl 0 0], [.arr 3 0 (.I .i64 r.2) false])
def spec_l3Matrix.dec : List AV → List R.Obj → Option (Int × (List Int) × (List Int) × (List Stp) × ByteArray)
  | [.agg [.int .i64 a0_0, .imm (.I .i64 l0_1), .imm (.I .i64 l0_2), .imm (.T l0_3)], .str a1], [] => some (a0_0, l0_1, l0_2, l0_3, a1)
  | _, _ => none
def spec_l3Matrix.tw : Tw := ⟨161, Int × (List Int) × (List Int) × (List Stp) × ByteArray, Int × (List Int), spec_l3Matrix.dec, fun a => [.agg [.int .i64 a.1, .imm (.I .i64 a.2.1), .imm (.I .i64 a.2.2.1), .imm (.T a.2.2.2.1)], .str a.2.2.2.2], fun a => [], fun k a => spec_l3Matrix.f k a.1 a.2.1 a.2.2.1 a.2.2.2.1 a.2.2.2.2, fun a r => spec_l3Matrix.en r⟩
theorem spec_l3Matrix.dok : spec_l3Matrix.tw.DecOk := by
  intro args hc a h
  have h : spec_l3Matrix.dec args hc = some a := h
  unfold spec_l3Matrix.dec at h
  split at h
  · cases h; exact ⟨rfl, rfl⟩
  · cases h
noncomputable def spec_l3Matrix.O (k : Nat) : Oracle := noO
def spec_l3Matrix.fh : FH := ⟨fun i => match i with | 3 => some [(1, 0), (2, 0), (4, 0), (5, 0), (15, 0), (16, 0)] | 7 => some [(1, 0), (2, 0), (4, 0), (5, 0), (25, 0), (26, 0), (27, 0)] | _ => none, [(true, 3)], false⟩
noncomputable def spec_l3Matrix.x0 (k : Nat) (x1 : ByteArray) (x15 : Int) (x16 : Int) (y0_0 : Int) (y0_1 : List Int) (y0_2 : List Int) (y0_3 : List Stp) (y2_0 : Int) (y4 : List Int) : Option Res := R.exec Try.prog xhn spec_l3Matrix.O 0 Try.f161 spec_l3Matrix.fh k (R.point Try.f161 3) ⟨[(1, .str x1), (2, .ptr 0 0), (4, .ptr 1 0), (5, .ptr 2 0), (15, .int .i64 x15), (16, .int .i64 x16)], [(0, .box false [.int .i64 y0_0, .imm (.I .i64 y0_1), .imm (.I .i64 y0_2), .imm (.T y0_3)]), (1, .box false [.int .i64 0, .sl 3 0]), (2, .box false [.int .i64 y2_0, .sl 4 0]), (3, .arr 3 0 (.I .i64 ([] : List Int)) false), (4, .arr 3 0 (.I .i64 y4) false)], 7⟩
noncomputable def spec_l3Matrix.x1 (k : Nat) (x1 : ByteArray) (x25 : List Stp) (x26 : Int) (x27 : Int) (y0_0 : Int) (y0_1 : List Int) (y0_2 : List Int) (y0_3 : List Stp) (y2_0 : Int) (y4 : List Int) : Option Res := R.exec Try.prog xhn spec_l3Matrix.O 0 Try.f161 spec_l3Matrix.fh k (R.point Try.f161 7) ⟨[(1, .str x1), (2, .ptr 0 0), (4, .ptr 1 0), (5, .ptr 2 0), (25, .imm (.T x25)), (26, .int .i64 x26), (27, .int .i64 x27)], [(0, .box false [.int .i64 y0_0, .imm (.I .i64 y0_1), .imm (.I .i64 y0_2), .imm (.T y0_3)]), (1, .box false [.int .i64 0, .sl 3 0]), (2, .box false [.int .i64 y2_0, .sl 4 0]), (3, .arr 3 0 (.I .i64 ([] : List Int)) false), (4, .arr 3 0 (.I .i64 y4) false)], 7⟩
set_option maxRecDepth 100000 in
theorem spec_l3Matrix.e0 (k : Nat) (x1 : ByteArray) (x15 : Int) (x16 : Int) (y0_0 : Int) (y0_1 : List Int) (y0_2 : List Int) (y0_3 : List Stp) (y2_0 : Int) (y4 : List Int) : spec_l3Matrix.x0 (k + 1) x1 x15 x16 y0_0 y0_1 y0_2 y0_3 y2_0 y4 = (if x16 < x15 then (if y4.length < 17592186044416 then (spec_l3Matrix.x0 k x1 x15 (wr64 (x16 + 1)) y0_0 y0_1 y0_2 y0_3 y2_0 (y4 ++ [1000000])) else none) else (spec_l3Matrix.x1 k x1 y0_3 (y0_3.length : Int) 0 y0_0 y0_1 y0_2 y0_3 y2_0 y4)) := by kernel_rfl
set_option maxRecDepth 100000 in
theorem spec_l3Matrix.e1 (k : Nat) (x1 : ByteArray) (x25 : List Stp) (x26 : Int) (x27 : Int) (y0_0 : Int) (y0_1 : List Int) (y0_2 : List Int) (y0_3 : List Stp) (y2_0 : Int) (y4 : List Int) : spec_l3Matrix.x1 (k + 1) x1 x25 x26 x27 y0_0 y0_1 y0_2 y0_3 y2_0 y4 = (if x27 < x26 then (if 0 ≤ x27 then (if x27 < (x25.length : Int) then (if (rdT x25 x27).f1.toList = x1.toList then (if 0 ≤ (wr64 ((wr64 ((rdT x25 x27).f0 * y0_0)) + (rdT x25 x27).f2)) then (if (wr64 ((wr64 ((rdT x25 x27).f0 * y0_0)) + (rdT x25 x27).f2)) < (y4.length : Int) then (spec_l3Matrix.x1 k x1 x25 x26 (wr64 (x27 + 1)) y0_0 y0_1 y0_2 y0_3 y2_0 (y4.set (wr64 ((wr64 ((rdT x25 x27).f0 * y0_0)) + (rdT x25 x27).f2)).toNat (rdT x25 x27).f3)) else none) else none) else (spec_l3Matrix.x1 k x1 x25 x26 (wr64 (x27 + 1)) y0_0 y0_1 y0_2 y0_3 y2_0 y4)) else none) else none) else (some (spec_l3Matrix.en (y2_0, y4)))) := by kernel_rfl
set_option maxRecDepth 100000 in
theorem spec_l3Matrix.ef (k : Nat) (a0_0 : Int) (l0_1 : List Int) (l0_2 : List Int) (l0_3 : List Stp) (a1 : ByteArray) : R.start Try.prog xhn spec_l3Matrix.O 0 Try.f161 spec_l3Matrix.fh k [.agg [.int .i64 a0_0, .imm (.I .i64 l0_1), .imm (.I .i64 l0_2), .imm (.T l0_3)], .str a1] [] = (spec_l3Matrix.x0 k a1 (wr64 (a0_0 * a0_0)) 0 a0_0 l0_1 l0_2 l0_3 a0_0 ([] : List Int)) := by kernel_rfl
theorem spec_l3Matrix.link : ∀ k, (∀ (x1 : ByteArray) (x15 : Int) (x16 : Int) (y0_0 : Int) (y0_1 : List Int) (y0_2 : List Int) (y0_3 : List Stp) (y2_0 : Int) (y4 : List Int), spec_l3Matrix.x0 k x1 x15 x16 y0_0 y0_1 y0_2 y0_3 y2_0 y4 = (spec_l3Matrix.l0 k x1 x15 x16 y0_0 y0_1 y0_2 y0_3 y2_0 y4).map (spec_l3Matrix.en)) ∧ (∀ (x1 : ByteArray) (x25 : List Stp) (x26 : Int) (x27 : Int) (y0_0 : Int) (y0_1 : List Int) (y0_2 : List Int) (y0_3 : List Stp) (y2_0 : Int) (y4 : List Int), spec_l3Matrix.x1 k x1 x25 x26 x27 y0_0 y0_1 y0_2 y0_3 y2_0 y4 = (spec_l3Matrix.l1 k x1 x25 x26 x27 y0_0 y0_1 y0_2 y0_3 y2_0 y4).map (spec_l3Matrix.en))
  | 0 => ⟨fun _ _ _ _ _ _ _ _ _ => by simp only [spec_l3Matrix.l0, R.map_none]; rfl, fun _ _ _ _ _ _ _ _ _ _ => by simp only [spec_l3Matrix.l1, R.map_none]; rfl⟩
  | k + 1 => by
    obtain ⟨ih0, ih1⟩ := spec_l3Matrix.link k
    refine ⟨?_, ?_⟩
    · intro x1 x15 x16 y0_0 y0_1 y0_2 y0_3 y2_0 y4
      rw [spec_l3Matrix.e0]
      simp only [spec_l3Matrix.l0, R.map_ite, R.map_bind, R.map_none, R.map_some, R.wr64_eq, ← ih0, ← ih1]
    · intro x1 x25 x26 x27 y0_0 y0_1 y0_2 y0_3 y2_0 y4
      rw [spec_l3Matrix.e1]
      simp only [spec_l3Matrix.l1, R.map_ite, R.map_bind, R.map_none, R.map_some, R.wr64_eq, ← ih0, ← ih1]
theorem spec_l3Matrix.sf (k : Nat) (a0_0 : Int) (l0_1 : List Int) (l0_2 : List Int) (l0_3 : List Stp) (a1 : ByteArray) : R.start Try.prog xhn spec_l3Matrix.O 0 Try.f161 spec_l3Matrix.fh k [.agg [.int .i64 a0_0, .imm (.I .i64 l0_1), .imm (.I .i64 l0_2), .imm (.T l0_3)], .str a1] [] = (spec_l3Matrix.f k a0_0 l0_1 l0_2 l0_3 a1).map (spec_l3Matrix.en) := by
  obtain ⟨ih0, ih1⟩ := spec_l3Matrix.link k
  rw [spec_l3Matrix.ef]
  simp only [spec_l3Matrix.f, R.map_ite, R.map_bind, R.map_none, R.map_some, R.wr64_eq, ← ih0, ← ih1]
theorem spec_l3Matrix.ok (k : Nat) : spec_l3Matrix.tw.Ok Try.prog k := by
  intro a r h
  refine fn_ok (H := xhn) (fh := spec_l3Matrix.fh) (O := spec_l3Matrix.O) (k := k) Try.func161 (by kernel_rfl) (by kernel_rfl) (fun j _ => noO_sound) (by kernel_rfl) (m := 0) rfl ?_
  refine (spec_l3Matrix.sf k a.1 a.2.1 a.2.2.1 a.2.2.2.1 a.2.2.2.2).trans ?_
  exact congrArg (Option.map _) h
def spec_l6Grades.l0 : Nat → (List Int) → Int → Int → Int → (List Int) → Option (Int × (List Int))
  | 0, _, _, _, _, _ => none
  | k + 1, x10, x11, x12, y1_0, y3 => (if x12 < x11 then (if 0 ≤ x12 then (if x12 < (x10.length : Int) then (if (rdI x10 x12) = 0 then (if y3.length < 17592186044416 then (spec_l6Grades.l0 k x10 x11 (wrap64 (x12 + 1)) y1_0 (y3 ++ [0])) else none) else (if (rdI x10 x12) = 1000000 then (if y3.length < 17592186044416 then (spec_l6Grades.l0 k x10 x11 (wrap64 (x12 + 1)) y1_0 (y3 ++ [3])) else none) else (if y3.length < 17592186044416 then (spec_l6Grades.l0 k x10 x11 (wrap64 (x12 + 1)) y1_0 (y3 ++ [1])) else none))) else none) else none) else (some (y1_0, y3)))
def spec_l6Grades.f (k : Nat) (a0_0 : Int) (l0_1 : List Int) : Option (Int × (List Int)) := (spec_l6Grades.l0 k l0_1 (l0_1.length : Int) 0 a0_0 ([] : List Int))
def spec_l6Grades.en (r : Int × (List Int)) : Res := (.agg [.int .i64 r.1, .sl 0 0], [.arr 3 0 (.I .i64 r.2) false])
def spec_l6Grades.dec : List AV → List R.Obj → Option (Int × (List Int))
  | [.agg [.int .i64 a0_0, .imm (.I .i64 l0_1)]], [] => some (a0_0, l0_1)
  | _, _ => none
def spec_l6Grades.tw : Tw := ⟨188, Int × (List Int), Int × (List Int), spec_l6Grades.dec, fun a => [.agg [.int .i64 a.1, .imm (.I .i64 a.2)]], fun a => [], fun k a => spec_l6Grades.f k a.1 a.2, fun a r => spec_l6Grades.en r⟩
theorem spec_l6Grades.dok : spec_l6Grades.tw.DecOk := by
  intro args hc a h
  have h : spec_l6Grades.dec args hc = some a := h
  unfold spec_l6Grades.dec at h
  split at h
  · cases h; exact ⟨rfl, rfl⟩
  · cases h
noncomputable def spec_l6Grades.O (k : Nat) : Oracle := noO
def spec_l6Grades.fh : FH := ⟨fun i => match i with | 3 => some [(2, 0), (3, 0), (10, 0), (11, 0), (12, 0)] | _ => none, [(true, 3)], false⟩
noncomputable def spec_l6Grades.x0 (k : Nat) (x10 : List Int) (x11 : Int) (x12 : Int) (y1_0 : Int) (y3 : List Int) : Option Res := R.exec Try.prog xhn spec_l6Grades.O 0 Try.f188 spec_l6Grades.fh k (R.point Try.f188 3) ⟨[(2, .ptr 0 0), (3, .ptr 1 0), (10, .imm (.I .i64 x10)), (11, .int .i64 x11), (12, .int .i64 x12)], [(0, .box false [.int .i64 0, .sl 2 0]), (1, .box false [.int .i64 y1_0, .sl 3 0]), (2, .arr 3 0 (.I .i64 ([] : List Int)) false), (3, .arr 3 0 (.I .i64 y3) false)], 6⟩
set_option maxRecDepth 100000 in
theorem spec_l6Grades.e0 (k : Nat) (x10 : List Int) (x11 : Int) (x12 : Int) (y1_0 : Int) (y3 : List Int) : spec_l6Grades.x0 (k + 1) x10 x11 x12 y1_0 y3 = (if x12 < x11 then (if 0 ≤ x12 then (if x12 < (x10.length : Int) then (if (rdI x10 x12) = 0 then (if y3.length < 17592186044416 then (spec_l6Grades.x0 k x10 x11 (wr64 (x12 + 1)) y1_0 (y3 ++ [0])) else none) else (if (rdI x10 x12) = 1000000 then (if y3.length < 17592186044416 then (spec_l6Grades.x0 k x10 x11 (wr64 (x12 + 1)) y1_0 (y3 ++ [3])) else none) else (if y3.length < 17592186044416 then (spec_l6Grades.x0 k x10 x11 (wr64 (x12 + 1)) y1_0 (y3 ++ [1])) else none))) else none) else none) else (some (spec_l6Grades.en (y1_0, y3)))) := by kernel_rfl
set_option maxRecDepth 100000 in
theorem spec_l6Grades.ef (k : Nat) (a0_0 : Int) (l0_1 : List Int) : R.start Try.prog xhn spec_l6Grades.O 0 Try.f188 spec_l6Grades.fh k [.agg [.int .i64 a0_0, .imm (.I .i64 l0_1)]] [] = (spec_l6Grades.x0 k l0_1 (l0_1.length : Int) 0 a0_0 ([] : List Int)) := by kernel_rfl
theorem spec_l6Grades.link : ∀ k, (∀ (x10 : List Int) (x11 : Int) (x12 : Int) (y1_0 : Int) (y3 : List Int), spec_l6Grades.x0 k x10 x11 x12 y1_0 y3 = (spec_l6Grades.l0 k x10 x11 x12 y1_0 y3).map (spec_l6Grades.en))
  | 0 => fun _ _ _ _ _ => by simp only [spec_l6Grades.l0, R.map_none]; rfl
  | k + 1 => by
    have ih0 := spec_l6Grades.link k
    · intro x10 x11 x12 y1_0 y3
      rw [spec_l6Grades.e0]
      simp only [spec_l6Grades.l0, R.map_ite, R.map_bind, R.map_none, R.map_some, R.wr64_eq, ← ih0]
theorem spec_l6Grades.sf (k : Nat) (a0_0 : Int) (l0_1 : List Int) : R.start Try.prog xhn spec_l6Grades.O 0 Try.f188 spec_l6Grades.fh k [.agg [.int .i64 a0_0, .imm (.I .i64 l0_1)]] [] = (spec_l6Grades.f k a0_0 l0_1).map (spec_l6Grades.en) := by
  have ih0 := spec_l6Grades.link k
  rw [spec_l6Grades.ef]
  simp only [spec_l6Grades.f, R.map_ite, R.map_bind, R.map_none, R.map_some, R.wr64_eq, ← ih0]
theorem spec_l6Grades.ok (k : Nat) : spec_l6Grades.tw.Ok Try.prog k := by
  intro a r h
  refine fn_ok (H := xhn) (fh := spec_l6Grades.fh) (O := spec_l6Grades.O) (k := k) Try.func188 (by kernel_rfl) (by kernel_rfl) (fun j _ => noO_sound) (by kernel_rfl) (m := 0) rfl ?_
  refine (spec_l6Grades.sf k a.1 a.2).trans ?_
  exact congrArg (Option.map _) h
def spec_l2Same.l0 : Nat → (List Int) → (List Int) → Int → Int → Option (Bool)
  | 0, _, _, _, _ => none
  | k + 1, x0, x1, x10, x11 => (if x11 < x10 then (if 0 ≤ x11 then (if x11 < (x0.length : Int) then (if x11 < (x1.length : Int) then (if (rdI x0 x11) = (rdI x1 x11) then (spec_l2Same.l0 k x0 x1 x10 (wrap64 (x11 + 1))) else (some false)) else none) else none) else none) else (some (decide ((x0.length : Int) = (x1.length : Int)))))
def spec_l2Same.f (k : Nat) (l0 : List Int) (l1 : List Int) : Option (Bool) := (spec_l2Same.l0 k l0 l1 (mn (l0.length : Int) (l1.length : Int)) 0)
def spec_l2Same.en (r : Bool) : Res := (.lit r, [])
def spec_l2Same.dec : List AV → List R.Obj → Option ((List Int) × (List Int))
  | [.imm (.I .i64 l0), .imm (.I .i64 l1)], [] => some (l0, l1)
  | _, _ => none
def spec_l2Same.tw : Tw := ⟨118, (List Int) × (List Int), Bool, spec_l2Same.dec, fun a => [.imm (.I .i64 a.1), .imm (.I .i64 a.2)], fun a => [], fun k a => spec_l2Same.f k a.1 a.2, fun a r => spec_l2Same.en r⟩
theorem spec_l2Same.dok : spec_l2Same.tw.DecOk := by
  intro args hc a h
  have h : spec_l2Same.dec args hc = some a := h
  unfold spec_l2Same.dec at h
  split at h
  · cases h; exact ⟨rfl, rfl⟩
  · cases h
noncomputable def spec_l2Same.O (k : Nat) : Oracle := noO
def spec_l2Same.fh : FH := ⟨fun i => match i with | 2 => some [(0, 0), (1, 0), (10, 0), (11, 0)] | _ => none, [], false⟩
noncomputable def spec_l2Same.x0 (k : Nat) (x0 : List Int) (x1 : List Int) (x10 : Int) (x11 : Int) : Option Res := R.exec Try.prog xhn spec_l2Same.O 0 Try.f118 spec_l2Same.fh k (R.point Try.f118 2) ⟨[(0, .imm (.I .i64 x0)), (1, .imm (.I .i64 x1)), (10, .int .i64 x10), (11, .int .i64 x11)], [], 2⟩
set_option maxRecDepth 100000 in
theorem spec_l2Same.e0 (k : Nat) (x0 : List Int) (x1 : List Int) (x10 : Int) (x11 : Int) : spec_l2Same.x0 (k + 1) x0 x1 x10 x11 = (if x11 < x10 then (if 0 ≤ x11 then (if x11 < (x0.length : Int) then (if x11 < (x1.length : Int) then (if (rdI x0 x11) = (rdI x1 x11) then (spec_l2Same.x0 k x0 x1 x10 (wr64 (x11 + 1))) else (some (spec_l2Same.en false))) else none) else none) else none) else (some (spec_l2Same.en (decide ((x0.length : Int) = (x1.length : Int)))))) := by
  refine Eq.trans ?_ (R.icong (fun h0 => (R.icong (fun h1 => (R.icong (fun h2 => (R.idropT (p := 0 ≤ x11) (z := none) h1 rfl)) (fun h2 => rfl))) (fun h1 => rfl))) (fun h0 => rfl))
  kernel_rfl
set_option maxRecDepth 100000 in
theorem spec_l2Same.ef (k : Nat) (l0 : List Int) (l1 : List Int) : R.start Try.prog xhn spec_l2Same.O 0 Try.f118 spec_l2Same.fh k [.imm (.I .i64 l0), .imm (.I .i64 l1)] [] = (spec_l2Same.x0 k l0 l1 (mn (l0.length : Int) (l1.length : Int)) 0) := by kernel_rfl
theorem spec_l2Same.link : ∀ k, (∀ (x0 : List Int) (x1 : List Int) (x10 : Int) (x11 : Int), spec_l2Same.x0 k x0 x1 x10 x11 = (spec_l2Same.l0 k x0 x1 x10 x11).map (spec_l2Same.en))
  | 0 => fun _ _ _ _ => by simp only [spec_l2Same.l0, R.map_none]; rfl
  | k + 1 => by
    have ih0 := spec_l2Same.link k
    · intro x0 x1 x10 x11
      rw [spec_l2Same.e0]
      simp only [spec_l2Same.l0, R.map_ite, R.map_bind, R.map_none, R.map_some, R.wr64_eq, ← ih0]
theorem spec_l2Same.sf (k : Nat) (l0 : List Int) (l1 : List Int) : R.start Try.prog xhn spec_l2Same.O 0 Try.f118 spec_l2Same.fh k [.imm (.I .i64 l0), .imm (.I .i64 l1)] [] = (spec_l2Same.f k l0 l1).map (spec_l2Same.en) := by
  have ih0 := spec_l2Same.link k
  rw [spec_l2Same.ef]
  simp only [spec_l2Same.f, R.map_ite, R.map_bind, R.map_none, R.map_some, R.wr64_eq, ← ih0]
theorem spec_l2Same.ok (k : Nat) : spec_l2Same.tw.Ok Try.prog k := by
  intro a r h
  refine fn_ok (H := xhn) (fh := spec_l2Same.fh) (O := spec_l2Same.O) (k := k) Try.func118 (by kernel_rfl) (by kernel_rfl) (fun j _ => noO_sound) (by kernel_rfl) (m := 0) rfl ?_
  refine (spec_l2Same.sf k a.1 a.2).trans ?_
  exact congrArg (Option.map _) h
def spec_l8Closer_put.l0 : Nat → ByteArray → (List Elm) → Int → Int → Bool → Int → (List Int) → Option ((List Elm) × Bool)
  | 0, _, _, _, _, _, _, _ => none
  | k + 1, x2, y1, x12, x13, y0_1, y2_0, y2_1 => (if x13 < x12 then (if 0 ≤ x13 then (if x13 < (y1.length : Int) then ((spec_l2Same.f k ((rdE y1 x13).f1) y2_1).bind fun t1 => (if t1 = true then (some (y1, y0_1)) else (spec_l8Closer_put.l0 k x2 y1 x12 (wrap64 (x13 + 1)) y0_1 y2_0 y2_1))) else none) else none) else (if y0_1 = true then (some (y1, true)) else (if (y1.length : Int) ≥ 120 then (some (y1, true)) else (if (decide ((x2.size : Int) > 120)) = true then (some (y1, (decide ((x2.size : Int) > 120)))) else (if y1.length < 2932031007402 then (some ((y1 ++ [(⟨y2_0, y2_1, x2⟩ : Elm)]), (decide ((x2.size : Int) > 120)))) else none)))))
def spec_l8Closer_put.f (k : Nat) (a1_0 : Int) (l1_1 : List Int) (a2 : ByteArray) (l4 : List Elm) (a3_1 : Bool) : Option ((List Elm) × Bool) := (spec_l8Closer_put.l0 k a2 l4 (l4.length : Int) 0 a3_1 a1_0 l1_1)
def spec_l8Closer_put.en (r : (List Elm) × Bool) : Res := (.tup [], [.box false [.sl 1 1, .lit r.2], .arr 82 1 (.E r.1) false])
def spec_l8Closer_put.dec : List AV → List R.Obj → Option (Int × (List Int) × ByteArray × (List Elm) × Bool)
  | [.ptr 0 0, .agg [.int .i64 a1_0, .imm (.I .i64 l1_1)], .str a2], [.box false [.sl 1 0, .lit a3_1], .arr 82 0 (.E l4) false] => some (a1_0, l1_1, a2, l4, a3_1)
  | _, _ => none
def spec_l8Closer_put.tw : Tw := ⟨189, Int × (List Int) × ByteArray × (List Elm) × Bool, (List Elm) × Bool, spec_l8Closer_put.dec, fun a => [.ptr 0 0, .agg [.int .i64 a.1, .imm (.I .i64 a.2.1)], .str a.2.2.1], fun a => [.box false [.sl 1 0, .lit a.2.2.2.2], .arr 82 0 (.E a.2.2.2.1) false], fun k a => spec_l8Closer_put.f k a.1 a.2.1 a.2.2.1 a.2.2.2.1 a.2.2.2.2, fun a r => spec_l8Closer_put.en r⟩
theorem spec_l8Closer_put.dok : spec_l8Closer_put.tw.DecOk := by
  intro args hc a h
  have h : spec_l8Closer_put.dec args hc = some a := h
  unfold spec_l8Closer_put.dec at h
  split at h
  · cases h; exact ⟨rfl, rfl⟩
  · cases h
noncomputable def spec_l8Closer_put.O (k : Nat) : Oracle := (spec_l2Same.tw.orc k noO)
def spec_l8Closer_put.fh : FH := ⟨fun i => match i with | 2 => some [(0, 0), (2, 0), (4, 0), (11, 0), (12, 0), (13, 0)] | _ => none, [], true⟩
noncomputable def spec_l8Closer_put.x0 (k : Nat) (x2 : ByteArray) (y1 : List Elm) (x12 : Int) (x13 : Int) (y0_1 : Bool) (y2_0 : Int) (y2_1 : List Int) : Option Res := R.exec Try.prog xhn spec_l8Closer_put.O 2 Try.f189 spec_l8Closer_put.fh k (R.point Try.f189 2) ⟨[(0, .ptr 0 0), (2, .str x2), (4, .ptr 2 0), (11, .sl 1 1), (12, .int .i64 x12), (13, .int .i64 x13)], [(0, .box false [.sl 1 1, .lit y0_1]), (1, .arr 82 1 (.E y1) false), (2, .box false [.int .i64 y2_0, .imm (.I .i64 y2_1)])], 5⟩
set_option maxRecDepth 100000 in
theorem spec_l8Closer_put.e0 (k : Nat) (x2 : ByteArray) (y1 : List Elm) (x12 : Int) (x13 : Int) (y0_1 : Bool) (y2_0 : Int) (y2_1 : List Int) : spec_l8Closer_put.x0 (k + 1) x2 y1 x12 x13 y0_1 y2_0 y2_1 = (if x13 < x12 then (if 0 ≤ x13 then (if x13 < (y1.length : Int) then ((spec_l2Same.f k ((rdE y1 x13).f1) y2_1).bind fun t1 => (if t1 = true then (some (spec_l8Closer_put.en (y1, y0_1))) else (spec_l8Closer_put.x0 k x2 y1 x12 (wr64 (x13 + 1)) y0_1 y2_0 y2_1))) else none) else none) else (if y0_1 = true then (some (spec_l8Closer_put.en (y1, true))) else (if (y1.length : Int) ≥ 120 then (some (spec_l8Closer_put.en (y1, true))) else (if (decide ((x2.size : Int) > 120)) = true then (some (spec_l8Closer_put.en (y1, (decide ((x2.size : Int) > 120))))) else (if y1.length < 2932031007402 then (some (spec_l8Closer_put.en ((y1 ++ [(⟨y2_0, y2_1, x2⟩ : Elm)]), (decide ((x2.size : Int) > 120))))) else none))))) := by kernel_rfl
set_option maxRecDepth 100000 in
theorem spec_l8Closer_put.ef (k : Nat) (a1_0 : Int) (l1_1 : List Int) (a2 : ByteArray) (l4 : List Elm) (a3_1 : Bool) : R.start Try.prog xhn spec_l8Closer_put.O 2 Try.f189 spec_l8Closer_put.fh k [.ptr 0 0, .agg [.int .i64 a1_0, .imm (.I .i64 l1_1)], .str a2] [.box false [.sl 1 0, .lit a3_1], .arr 82 0 (.E l4) false] = (spec_l8Closer_put.x0 k a2 l4 (l4.length : Int) 0 a3_1 a1_0 l1_1) := by kernel_rfl
theorem spec_l8Closer_put.link : ∀ k, (∀ (x2 : ByteArray) (y1 : List Elm) (x12 : Int) (x13 : Int) (y0_1 : Bool) (y2_0 : Int) (y2_1 : List Int), spec_l8Closer_put.x0 k x2 y1 x12 x13 y0_1 y2_0 y2_1 = (spec_l8Closer_put.l0 k x2 y1 x12 x13 y0_1 y2_0 y2_1).map (spec_l8Closer_put.en))
  | 0 => fun _ _ _ _ _ _ _ => by simp only [spec_l8Closer_put.l0, R.map_none]; rfl
  | k + 1 => by
    have ih0 := spec_l8Closer_put.link k
    · intro x2 y1 x12 x13 y0_1 y2_0 y2_1
      rw [spec_l8Closer_put.e0]
      simp only [spec_l8Closer_put.l0, R.map_ite, R.map_bind, R.map_none, R.map_some, R.wr64_eq, ← ih0]
theorem spec_l8Closer_put.sf (k : Nat) (a1_0 : Int) (l1_1 : List Int) (a2 : ByteArray) (l4 : List Elm) (a3_1 : Bool) : R.start Try.prog xhn spec_l8Closer_put.O 2 Try.f189 spec_l8Closer_put.fh k [.ptr 0 0, .agg [.int .i64 a1_0, .imm (.I .i64 l1_1)], .str a2] [.box false [.sl 1 0, .lit a3_1], .arr 82 0 (.E l4) false] = (spec_l8Closer_put.f k a1_0 l1_1 a2 l4 a3_1).map (spec_l8Closer_put.en) := by
  have ih0 := spec_l8Closer_put.link k
  rw [spec_l8Closer_put.ef]
  simp only [spec_l8Closer_put.f, R.map_ite, R.map_bind, R.map_none, R.map_some, R.wr64_eq, ← ih0]
theorem spec_l8Closer_put.ok (k : Nat) : spec_l8Closer_put.tw.Ok Try.prog k := by
  intro a r h
  refine fn_ok (H := xhn) (fh := spec_l8Closer_put.fh) (O := spec_l8Closer_put.O) (k := k) Try.func189 (by kernel_rfl) (by kernel_rfl) (fun j _ => (Tw.orc_sound spec_l2Same.dok (spec_l2Same.ok j) noO_sound)) (by kernel_rfl) (m := 2) rfl ?_
  refine (spec_l8Closer_put.sf k a.1 a.2.1 a.2.2.1 a.2.2.2.1 a.2.2.2.2).trans ?_
  exact congrArg (Option.map _) h
mutual
def spec_l6Mul.l0 : Nat → Int → Int → Int → (List Int) → Int → (List Int) → Int → (List Int) → Option (Int × (List Int))
  | 0, _, _, _, _, _, _, _, _ => none
  | k + 1, x16, x17, y0_0, y0_1, y1_0, y1_1, y3_0, y5 => (if x17 < x16 then (spec_l6Mul.l1 k x17 3 x16 x17 y0_0 0 y0_0 y0_1 y1_0 y1_1 y3_0 y5) else (some (y3_0, y5)))
def spec_l6Mul.l1 : Nat → Int → Int → Int → Int → Int → Int → Int → (List Int) → Int → (List Int) → Int → (List Int) → Option (Int × (List Int))
  | 0, _, _, _, _, _, _, _, _, _, _, _, _ => none
  | k + 1, x6, x7, x16, x17, x21, x22, y0_0, y0_1, y1_0, y1_1, y3_0, y5 => (if x22 < x21 then (if y0_0 = 0 then none else (if 0 ≤ (wrap64 ((wrap64 ((wrap64 (x6.tdiv y0_0)) * y0_0)) + x22)) then (if (wrap64 ((wrap64 ((wrap64 (x6.tdiv y0_0)) * y0_0)) + x22)) < (y0_1.length : Int) then (if 0 ≤ (wrap64 ((wrap64 (x22 * y0_0)) + (x6.tmod y0_0))) then (if (wrap64 ((wrap64 (x22 * y0_0)) + (x6.tmod y0_0))) < (y1_1.length : Int) then (spec_l6Mul.l1 k x6 (mn x7 (mx (rdI y0_1 (wrap64 ((wrap64 ((wrap64 (x6.tdiv y0_0)) * y0_0)) + x22))) (rdI y1_1 (wrap64 ((wrap64 (x22 * y0_0)) + (x6.tmod y0_0)))))) x16 x17 x21 (wrap64 (x22 + 1)) y0_0 y0_1 y1_0 y1_1 y3_0 y5) else none) else none) else none) else none)) else (if y5.length < 17592186044416 then (spec_l6Mul.l0 k x16 (wrap64 (x17 + 1)) y0_0 y0_1 y1_0 y1_1 y3_0 (y5 ++ [x7])) else none))
end
def spec_l6Mul.f (k : Nat) (a0_0 : Int) (l0_1 : List Int) (a1_0 : Int) (l1_1 : List Int) : Option (Int × (List Int)) := (spec_l6Mul.l0 k (wrap64 (a0_0 * a0_0)) 0 a0_0 l0_1 a1_0 l1_1 a0_0 ([] : List Int))
def spec_l6Mul.en (r : Int × (List Int)) : Res := (.agg [.int .i64 r.1, .sl 0 0], [.arr 3 0 (.I .i64 r.2) false])
def spec_l6Mul.dec : List AV → List R.Obj → Option (Int × (List Int) × Int × (List Int))
  | [.agg [.int .i64 a0_0, .imm (.I .i64 l0_1)], .agg [.int .i64 a1_0, .imm (.I .i64 l1_1)]], [] => some (a0_0, l0_1, a1_0, l1_1)
  | _, _ => none
def spec_l6Mul.tw : Tw := ⟨166, Int × (List Int) × Int × (List Int), Int × (List Int), spec_l6Mul.dec, fun a => [.agg [.int .i64 a.1, .imm (.I .i64 a.2.1)], .agg [.int .i64 a.2.2.1, .imm (.I .i64 a.2.2.2)]], fun a => [], fun k a => spec_l6Mul.f k a.1 a.2.1 a.2.2.1 a.2.2.2, fun a r => spec_l6Mul.en r⟩
theorem spec_l6Mul.dok : spec_l6Mul.tw.DecOk := by
  intro args hc a h
  have h : spec_l6Mul.dec args hc = some a := h
  unfold spec_l6Mul.dec at h
  split at h
  · cases h; exact ⟨rfl, rfl⟩
  · cases h
noncomputable def spec_l6Mul.O (k : Nat) : Oracle := noO
def spec_l6Mul.fh : FH := ⟨fun i => match i with | 3 => some [(2, 0), (3, 0), (4, 0), (5, 0), (16, 0), (17, 0)] | 7 => some [(2, 0), (3, 0), (4, 0), (5, 0), (6, 0), (7, 0), (16, 0), (17, 0), (21, 0), (22, 0)] | _ => none, [(true, 3)], false⟩
noncomputable def spec_l6Mul.x0 (k : Nat) (x16 : Int) (x17 : Int) (y0_0 : Int) (y0_1 : List Int) (y1_0 : Int) (y1_1 : List Int) (y3_0 : Int) (y5 : List Int) : Option Res := R.exec Try.prog xhn spec_l6Mul.O 0 Try.f166 spec_l6Mul.fh k (R.point Try.f166 3) ⟨[(2, .ptr 0 0), (3, .ptr 1 0), (4, .ptr 2 0), (5, .ptr 3 0), (16, .int .i64 x16), (17, .int .i64 x17)], [(0, .box false [.int .i64 y0_0, .imm (.I .i64 y0_1)]), (1, .box false [.int .i64 y1_0, .imm (.I .i64 y1_1)]), (2, .box false [.int .i64 0, .sl 4 0]), (3, .box false [.int .i64 y3_0, .sl 5 0]), (4, .arr 3 0 (.I .i64 ([] : List Int)) false), (5, .arr 3 0 (.I .i64 y5) false)], 8⟩
noncomputable def spec_l6Mul.x1 (k : Nat) (x6 : Int) (x7 : Int) (x16 : Int) (x17 : Int) (x21 : Int) (x22 : Int) (y0_0 : Int) (y0_1 : List Int) (y1_0 : Int) (y1_1 : List Int) (y3_0 : Int) (y5 : List Int) : Option Res := R.exec Try.prog xhn spec_l6Mul.O 0 Try.f166 spec_l6Mul.fh k (R.point Try.f166 7) ⟨[(2, .ptr 0 0), (3, .ptr 1 0), (4, .ptr 2 0), (5, .ptr 3 0), (6, .int .i64 x6), (7, .int .i64 x7), (16, .int .i64 x16), (17, .int .i64 x17), (21, .int .i64 x21), (22, .int .i64 x22)], [(0, .box false [.int .i64 y0_0, .imm (.I .i64 y0_1)]), (1, .box false [.int .i64 y1_0, .imm (.I .i64 y1_1)]), (2, .box false [.int .i64 0, .sl 4 0]), (3, .box false [.int .i64 y3_0, .sl 5 0]), (4, .arr 3 0 (.I .i64 ([] : List Int)) false), (5, .arr 3 0 (.I .i64 y5) false)], 8⟩
set_option maxRecDepth 100000 in
theorem spec_l6Mul.e0 (k : Nat) (x16 : Int) (x17 : Int) (y0_0 : Int) (y0_1 : List Int) (y1_0 : Int) (y1_1 : List Int) (y3_0 : Int) (y5 : List Int) : spec_l6Mul.x0 (k + 1) x16 x17 y0_0 y0_1 y1_0 y1_1 y3_0 y5 = (if x17 < x16 then (spec_l6Mul.x1 k x17 3 x16 x17 y0_0 0 y0_0 y0_1 y1_0 y1_1 y3_0 y5) else (some (spec_l6Mul.en (y3_0, y5)))) := by kernel_rfl
set_option maxRecDepth 100000 in
theorem spec_l6Mul.e1 (k : Nat) (x6 : Int) (x7 : Int) (x16 : Int) (x17 : Int) (x21 : Int) (x22 : Int) (y0_0 : Int) (y0_1 : List Int) (y1_0 : Int) (y1_1 : List Int) (y3_0 : Int) (y5 : List Int) : spec_l6Mul.x1 (k + 1) x6 x7 x16 x17 x21 x22 y0_0 y0_1 y1_0 y1_1 y3_0 y5 = (if x22 < x21 then (if y0_0 = 0 then none else (if 0 ≤ (wr64 ((wr64 ((wr64 (x6.tdiv y0_0)) * y0_0)) + x22)) then (if (wr64 ((wr64 ((wr64 (x6.tdiv y0_0)) * y0_0)) + x22)) < (y0_1.length : Int) then (if 0 ≤ (wr64 ((wr64 (x22 * y0_0)) + (x6.tmod y0_0))) then (if (wr64 ((wr64 (x22 * y0_0)) + (x6.tmod y0_0))) < (y1_1.length : Int) then (spec_l6Mul.x1 k x6 (mn x7 (mx (rdI y0_1 (wr64 ((wr64 ((wr64 (x6.tdiv y0_0)) * y0_0)) + x22))) (rdI y1_1 (wr64 ((wr64 (x22 * y0_0)) + (x6.tmod y0_0)))))) x16 x17 x21 (wr64 (x22 + 1)) y0_0 y0_1 y1_0 y1_1 y3_0 y5) else none) else none) else none) else none)) else (if y5.length < 17592186044416 then (spec_l6Mul.x0 k x16 (wr64 (x17 + 1)) y0_0 y0_1 y1_0 y1_1 y3_0 (y5 ++ [x7])) else none)) := by
  refine Eq.trans ?_ (R.icong (fun h0 => (R.icong (fun h1 => rfl) (fun h1 => (R.icong (fun h2 => (R.icong (fun h3 => (R.idropF (p := y0_0 = 0) (z := none) h1 rfl)) (fun h3 => rfl))) (fun h2 => rfl))))) (fun h0 => rfl))
  kernel_rfl
set_option maxRecDepth 100000 in
theorem spec_l6Mul.ef (k : Nat) (a0_0 : Int) (l0_1 : List Int) (a1_0 : Int) (l1_1 : List Int) : R.start Try.prog xhn spec_l6Mul.O 0 Try.f166 spec_l6Mul.fh k [.agg [.int .i64 a0_0, .imm (.I .i64 l0_1)], .agg [.int .i64 a1_0, .imm (.I .i64 l1_1)]] [] = (spec_l6Mul.x0 k (wr64 (a0_0 * a0_0)) 0 a0_0 l0_1 a1_0 l1_1 a0_0 ([] : List Int)) := by kernel_rfl
theorem spec_l6Mul.link : ∀ k, (∀ (x16 : Int) (x17 : Int) (y0_0 : Int) (y0_1 : List Int) (y1_0 : Int) (y1_1 : List Int) (y3_0 : Int) (y5 : List Int), spec_l6Mul.x0 k x16 x17 y0_0 y0_1 y1_0 y1_1 y3_0 y5 = (spec_l6Mul.l0 k x16 x17 y0_0 y0_1 y1_0 y1_1 y3_0 y5).map (spec_l6Mul.en)) ∧ (∀ (x6 : Int) (x7 : Int) (x16 : Int) (x17 : Int) (x21 : Int) (x22 : Int) (y0_0 : Int) (y0_1 : List Int) (y1_0 : Int) (y1_1 : List Int) (y3_0 : Int) (y5 : List Int), spec_l6Mul.x1 k x6 x7 x16 x17 x21 x22 y0_0 y0_1 y1_0 y1_1 y3_0 y5 = (spec_l6Mul.l1 k x6 x7 x16 x17 x21 x22 y0_0 y0_1 y1_0 y1_1 y3_0 y5).map (spec_l6Mul.en))
  | 0 => ⟨fun _ _ _ _ _ _ _ _ => by simp only [spec_l6Mul.l0, R.map_none]; rfl, fun _ _ _ _ _ _ _ _ _ _ _ _ => by simp only [spec_l6Mul.l1, R.map_none]; rfl⟩
  | k + 1 => by
    obtain ⟨ih0, ih1⟩ := spec_l6Mul.link k
    refine ⟨?_, ?_⟩
    · intro x16 x17 y0_0 y0_1 y1_0 y1_1 y3_0 y5
      rw [spec_l6Mul.e0]
      simp only [spec_l6Mul.l0, R.map_ite, R.map_bind, R.map_none, R.map_some, R.wr64_eq, ← ih0, ← ih1]
    · intro x6 x7 x16 x17 x21 x22 y0_0 y0_1 y1_0 y1_1 y3_0 y5
      rw [spec_l6Mul.e1]
      simp only [spec_l6Mul.l1, R.map_ite, R.map_bind, R.map_none, R.map_some, R.wr64_eq, ← ih0, ← ih1]
theorem spec_l6Mul.sf (k : Nat) (a0_0 : Int) (l0_1 : List Int) (a1_0 : Int) (l1_1 : List Int) : R.start Try.prog xhn spec_l6Mul.O 0 Try.f166 spec_l6Mul.fh k [.agg [.int .i64 a0_0, .imm (.I .i64 l0_1)], .agg [.int .i64 a1_0, .imm (.I .i64 l1_1)]] [] = (spec_l6Mul.f k a0_0 l0_1 a1_0 l1_1).map (spec_l6Mul.en) := by
  obtain ⟨ih0, ih1⟩ := spec_l6Mul.link k
  rw [spec_l6Mul.ef]
  simp only [spec_l6Mul.f, R.map_ite, R.map_bind, R.map_none, R.map_some, R.wr64_eq, ← ih0, ← ih1]
theorem spec_l6Mul.ok (k : Nat) : spec_l6Mul.tw.Ok Try.prog k := by
  intro a r h
  refine fn_ok (H := xhn) (fh := spec_l6Mul.fh) (O := spec_l6Mul.O) (k := k) Try.func166 (by kernel_rfl) (by kernel_rfl) (fun j _ => noO_sound) (by kernel_rfl) (m := 0) rfl ?_
  refine (spec_l6Mul.sf k a.1 a.2.1 a.2.2.1 a.2.2.2).trans ?_
  exact congrArg (Option.map _) h
def spec_l6Idempotent.f (k : Nat) (a0_0 : Int) (l0_1 : List Int) : Option (Bool) := ((spec_l6Mul.f k a0_0 l0_1 a0_0 l0_1).bind fun t1 => ((spec_l2Same.f k t1.2 l0_1).bind fun t2 => (some t2)))
def spec_l6Idempotent.en (r : Bool) : Res := (.lit r, [])
def spec_l6Idempotent.dec : List AV → List R.Obj → Option (Int × (List Int))
  | [.agg [.int .i64 a0_0, .imm (.I .i64 l0_1)]], [] => some (a0_0, l0_1)
  | _, _ => none
def spec_l6Idempotent.tw : Tw := ⟨117, Int × (List Int), Bool, spec_l6Idempotent.dec, fun a => [.agg [.int .i64 a.1, .imm (.I .i64 a.2)]], fun a => [], fun k a => spec_l6Idempotent.f k a.1 a.2, fun a r => spec_l6Idempotent.en r⟩
theorem spec_l6Idempotent.dok : spec_l6Idempotent.tw.DecOk := by
  intro args hc a h
  have h : spec_l6Idempotent.dec args hc = some a := h
  unfold spec_l6Idempotent.dec at h
  split at h
  · cases h; exact ⟨rfl, rfl⟩
  · cases h
noncomputable def spec_l6Idempotent.O (k : Nat) : Oracle := (spec_l6Mul.tw.orc k (spec_l2Same.tw.orc k noO))
def spec_l6Idempotent.fh : FH := ⟨fun i => match i with | _ => none, [], false⟩
set_option maxRecDepth 100000 in
theorem spec_l6Idempotent.ef (k : Nat) (a0_0 : Int) (l0_1 : List Int) : R.start Try.prog xhn spec_l6Idempotent.O 0 Try.f117 spec_l6Idempotent.fh k [.agg [.int .i64 a0_0, .imm (.I .i64 l0_1)]] [] = ((spec_l6Mul.f k a0_0 l0_1 a0_0 l0_1).bind fun t1 => ((spec_l2Same.f k t1.2 l0_1).bind fun t2 => (some (spec_l6Idempotent.en t2)))) := by kernel_rfl
theorem spec_l6Idempotent.sf (k : Nat) (a0_0 : Int) (l0_1 : List Int) : R.start Try.prog xhn spec_l6Idempotent.O 0 Try.f117 spec_l6Idempotent.fh k [.agg [.int .i64 a0_0, .imm (.I .i64 l0_1)]] [] = (spec_l6Idempotent.f k a0_0 l0_1).map (spec_l6Idempotent.en) := by
  rw [spec_l6Idempotent.ef]
  simp only [spec_l6Idempotent.f, R.map_ite, R.map_bind, R.map_none, R.map_some, R.wr64_eq]
theorem spec_l6Idempotent.ok (k : Nat) : spec_l6Idempotent.tw.Ok Try.prog k := by
  intro a r h
  refine fn_ok (H := xhn) (fh := spec_l6Idempotent.fh) (O := spec_l6Idempotent.O) (k := k) Try.func117 (by kernel_rfl) (by kernel_rfl) (fun j _ => (Tw.orc_sound spec_l6Mul.dok (spec_l6Mul.ok j) (Tw.orc_sound spec_l2Same.dok (spec_l2Same.ok j) noO_sound))) (by kernel_rfl) (m := 0) rfl ?_
  refine (spec_l6Idempotent.sf k a.1 a.2).trans ?_
  exact congrArg (Option.map _) h
def spec_l6Again.f (a0 : Int) : Option (Int) := (if a0 = 1 then (some 2) else (some a0))
def spec_l6Again.en (r : Int) : Res := (.int .i64 r, [])
def spec_l6Again.dec : List AV → List R.Obj → Option (Int)
  | [.int .i64 a0], [] => some a0
  | _, _ => none
def spec_l6Again.tw : Tw := ⟨167, Int, Int, spec_l6Again.dec, fun a => [.int .i64 a], fun a => [], fun k a => spec_l6Again.f a, fun a r => spec_l6Again.en r⟩
theorem spec_l6Again.dok : spec_l6Again.tw.DecOk := by
  intro args hc a h
  have h : spec_l6Again.dec args hc = some a := h
  unfold spec_l6Again.dec at h
  split at h
  · cases h; exact ⟨rfl, rfl⟩
  · cases h
noncomputable def spec_l6Again.O (k : Nat) : Oracle := noO
def spec_l6Again.fh : FH := ⟨fun i => match i with | _ => none, [], false⟩
set_option maxRecDepth 100000 in
theorem spec_l6Again.ef (k : Nat) (a0 : Int) : R.start Try.prog xhn spec_l6Again.O 0 Try.f167 spec_l6Again.fh k [.int .i64 a0] [] = (if a0 = 1 then (some (spec_l6Again.en 2)) else (some (spec_l6Again.en a0))) := by kernel_rfl
theorem spec_l6Again.sf (k : Nat) (a0 : Int) : R.start Try.prog xhn spec_l6Again.O 0 Try.f167 spec_l6Again.fh k [.int .i64 a0] [] = (spec_l6Again.f a0).map (spec_l6Again.en) := by
  rw [spec_l6Again.ef]
  simp only [spec_l6Again.f, R.map_ite, R.map_bind, R.map_none, R.map_some, R.wr64_eq]
theorem spec_l6Again.ok (k : Nat) : spec_l6Again.tw.Ok Try.prog k := by
  intro a r h
  refine fn_ok (H := xhn) (fh := spec_l6Again.fh) (O := spec_l6Again.O) (k := k) Try.func167 (by kernel_rfl) (by kernel_rfl) (fun j _ => noO_sound) (by kernel_rfl) (m := 0) rfl ?_
  refine (spec_l6Again.sf k a).trans ?_
  exact congrArg (Option.map _) h
mutual
def spec_l6Stable.l0 : Nat → Int → Int → Int → (List Int) → Int → (List Int) → Option (Int × (List Int))
  | 0, _, _, _, _, _, _ => none
  | k + 1, x14, x15, y0_0, y0_1, y2_0, y4 => (if x15 < x14 then (spec_l6Stable.l1 k x15 3 x14 x15 y0_0 0 y0_0 y0_1 y2_0 y4) else (some (y2_0, y4)))
def spec_l6Stable.l1 : Nat → Int → Int → Int → Int → Int → Int → Int → (List Int) → Int → (List Int) → Option (Int × (List Int))
  | 0, _, _, _, _, _, _, _, _, _, _ => none
  | k + 1, x4, x5, x14, x15, x19, x20, y0_0, y0_1, y2_0, y4 => (if x20 < x19 then (if y0_0 = 0 then none else (if 0 ≤ (wrap64 ((wrap64 ((wrap64 (x4.tdiv y0_0)) * y0_0)) + x20)) then (if (wrap64 ((wrap64 ((wrap64 (x4.tdiv y0_0)) * y0_0)) + x20)) < (y0_1.length : Int) then (if 0 ≤ (wrap64 ((wrap64 (x20 * y0_0)) + x20)) then (if (wrap64 ((wrap64 (x20 * y0_0)) + x20)) < (y0_1.length : Int) then ((spec_l6Again.f (rdI y0_1 (wrap64 ((wrap64 (x20 * y0_0)) + x20)))).bind fun t1 => (if 0 ≤ (wrap64 ((wrap64 (x20 * y0_0)) + (x4.tmod y0_0))) then (if (wrap64 ((wrap64 (x20 * y0_0)) + (x4.tmod y0_0))) < (y0_1.length : Int) then (spec_l6Stable.l1 k x4 (mn x5 (mx (mx (rdI y0_1 (wrap64 ((wrap64 ((wrap64 (x4.tdiv y0_0)) * y0_0)) + x20))) t1) (rdI y0_1 (wrap64 ((wrap64 (x20 * y0_0)) + (x4.tmod y0_0)))))) x14 x15 x19 (wrap64 (x20 + 1)) y0_0 y0_1 y2_0 y4) else none) else none)) else none) else none) else none) else none)) else (if y4.length < 17592186044416 then (spec_l6Stable.l0 k x14 (wrap64 (x15 + 1)) y0_0 y0_1 y2_0 (y4 ++ [x5])) else none))
end
def spec_l6Stable.f (k : Nat) (a0_0 : Int) (l0_1 : List Int) : Option (Int × (List Int)) := (spec_l6Stable.l0 k (wrap64 (a0_0 * a0_0)) 0 a0_0 l0_1 a0_0 ([] : List Int))
def spec_l6Stable.en (r : Int × (List Int)) : Res := (.agg [.int .i64 r.1, .sl 0 0], [.arr 3 0 (.I .i64 r.2) false])
def spec_l6Stable.dec : List AV → List R.Obj → Option (Int × (List Int))
  | [.agg [.int .i64 a0_0, .imm (.I .i64 l0_1)]], [] => some (a0_0, l0_1)
  | _, _ => none
def spec_l6Stable.tw : Tw := ⟨119, Int × (List Int), Int × (List Int), spec_l6Stable.dec, fun a => [.agg [.int .i64 a.1, .imm (.I .i64 a.2)]], fun a => [], fun k a => spec_l6Stable.f k a.1 a.2, fun a r => spec_l6Stable.en r⟩
theorem spec_l6Stable.dok : spec_l6Stable.tw.DecOk := by
  intro args hc a h
  have h : spec_l6Stable.dec args hc = some a := h
  unfold spec_l6Stable.dec at h
  split at h
  · cases h; exact ⟨rfl, rfl⟩
  · cases h
noncomputable def spec_l6Stable.O (k : Nat) : Oracle := (spec_l6Again.tw.orc k noO)
def spec_l6Stable.fh : FH := ⟨fun i => match i with | 3 => some [(1, 0), (2, 0), (3, 0), (14, 0), (15, 0)] | 7 => some [(1, 0), (2, 0), (3, 0), (4, 0), (5, 0), (14, 0), (15, 0), (19, 0), (20, 0)] | _ => none, [(true, 3)], false⟩
noncomputable def spec_l6Stable.x0 (k : Nat) (x14 : Int) (x15 : Int) (y0_0 : Int) (y0_1 : List Int) (y2_0 : Int) (y4 : List Int) : Option Res := R.exec Try.prog xhn spec_l6Stable.O 0 Try.f119 spec_l6Stable.fh k (R.point Try.f119 3) ⟨[(1, .ptr 0 0), (2, .ptr 1 0), (3, .ptr 2 0), (14, .int .i64 x14), (15, .int .i64 x15)], [(0, .box false [.int .i64 y0_0, .imm (.I .i64 y0_1)]), (1, .box false [.int .i64 0, .sl 3 0]), (2, .box false [.int .i64 y2_0, .sl 4 0]), (3, .arr 3 0 (.I .i64 ([] : List Int)) false), (4, .arr 3 0 (.I .i64 y4) false)], 7⟩
noncomputable def spec_l6Stable.x1 (k : Nat) (x4 : Int) (x5 : Int) (x14 : Int) (x15 : Int) (x19 : Int) (x20 : Int) (y0_0 : Int) (y0_1 : List Int) (y2_0 : Int) (y4 : List Int) : Option Res := R.exec Try.prog xhn spec_l6Stable.O 0 Try.f119 spec_l6Stable.fh k (R.point Try.f119 7) ⟨[(1, .ptr 0 0), (2, .ptr 1 0), (3, .ptr 2 0), (4, .int .i64 x4), (5, .int .i64 x5), (14, .int .i64 x14), (15, .int .i64 x15), (19, .int .i64 x19), (20, .int .i64 x20)], [(0, .box false [.int .i64 y0_0, .imm (.I .i64 y0_1)]), (1, .box false [.int .i64 0, .sl 3 0]), (2, .box false [.int .i64 y2_0, .sl 4 0]), (3, .arr 3 0 (.I .i64 ([] : List Int)) false), (4, .arr 3 0 (.I .i64 y4) false)], 7⟩
set_option maxRecDepth 100000 in
theorem spec_l6Stable.e0 (k : Nat) (x14 : Int) (x15 : Int) (y0_0 : Int) (y0_1 : List Int) (y2_0 : Int) (y4 : List Int) : spec_l6Stable.x0 (k + 1) x14 x15 y0_0 y0_1 y2_0 y4 = (if x15 < x14 then (spec_l6Stable.x1 k x15 3 x14 x15 y0_0 0 y0_0 y0_1 y2_0 y4) else (some (spec_l6Stable.en (y2_0, y4)))) := by kernel_rfl
set_option maxRecDepth 100000 in
theorem spec_l6Stable.e1 (k : Nat) (x4 : Int) (x5 : Int) (x14 : Int) (x15 : Int) (x19 : Int) (x20 : Int) (y0_0 : Int) (y0_1 : List Int) (y2_0 : Int) (y4 : List Int) : spec_l6Stable.x1 (k + 1) x4 x5 x14 x15 x19 x20 y0_0 y0_1 y2_0 y4 = (if x20 < x19 then (if y0_0 = 0 then none else (if 0 ≤ (wr64 ((wr64 ((wr64 (x4.tdiv y0_0)) * y0_0)) + x20)) then (if (wr64 ((wr64 ((wr64 (x4.tdiv y0_0)) * y0_0)) + x20)) < (y0_1.length : Int) then (if 0 ≤ (wr64 ((wr64 (x20 * y0_0)) + x20)) then (if (wr64 ((wr64 (x20 * y0_0)) + x20)) < (y0_1.length : Int) then ((spec_l6Again.f (rdI y0_1 (wr64 ((wr64 (x20 * y0_0)) + x20)))).bind fun t1 => (if 0 ≤ (wr64 ((wr64 (x20 * y0_0)) + (x4.tmod y0_0))) then (if (wr64 ((wr64 (x20 * y0_0)) + (x4.tmod y0_0))) < (y0_1.length : Int) then (spec_l6Stable.x1 k x4 (mn x5 (mx (mx (rdI y0_1 (wr64 ((wr64 ((wr64 (x4.tdiv y0_0)) * y0_0)) + x20))) t1) (rdI y0_1 (wr64 ((wr64 (x20 * y0_0)) + (x4.tmod y0_0)))))) x14 x15 x19 (wr64 (x20 + 1)) y0_0 y0_1 y2_0 y4) else none) else none)) else none) else none) else none) else none)) else (if y4.length < 17592186044416 then (spec_l6Stable.x0 k x14 (wr64 (x15 + 1)) y0_0 y0_1 y2_0 (y4 ++ [x5])) else none)) := by
  refine Eq.trans ?_ (R.icong (fun h0 => (R.icong (fun h1 => rfl) (fun h1 => (R.icong (fun h2 => (R.icong (fun h3 => (R.icong (fun h4 => (R.icong (fun h5 => (R.bcong fun t1 => (R.idropF (p := y0_0 = 0) (z := none) h1 rfl))) (fun h5 => rfl))) (fun h4 => rfl))) (fun h3 => rfl))) (fun h2 => rfl))))) (fun h0 => rfl))
  kernel_rfl
set_option maxRecDepth 100000 in
theorem spec_l6Stable.ef (k : Nat) (a0_0 : Int) (l0_1 : List Int) : R.start Try.prog xhn spec_l6Stable.O 0 Try.f119 spec_l6Stable.fh k [.agg [.int .i64 a0_0, .imm (.I .i64 l0_1)]] [] = (spec_l6Stable.x0 k (wr64 (a0_0 * a0_0)) 0 a0_0 l0_1 a0_0 ([] : List Int)) := by kernel_rfl
theorem spec_l6Stable.link : ∀ k, (∀ (x14 : Int) (x15 : Int) (y0_0 : Int) (y0_1 : List Int) (y2_0 : Int) (y4 : List Int), spec_l6Stable.x0 k x14 x15 y0_0 y0_1 y2_0 y4 = (spec_l6Stable.l0 k x14 x15 y0_0 y0_1 y2_0 y4).map (spec_l6Stable.en)) ∧ (∀ (x4 : Int) (x5 : Int) (x14 : Int) (x15 : Int) (x19 : Int) (x20 : Int) (y0_0 : Int) (y0_1 : List Int) (y2_0 : Int) (y4 : List Int), spec_l6Stable.x1 k x4 x5 x14 x15 x19 x20 y0_0 y0_1 y2_0 y4 = (spec_l6Stable.l1 k x4 x5 x14 x15 x19 x20 y0_0 y0_1 y2_0 y4).map (spec_l6Stable.en))
  | 0 => ⟨fun _ _ _ _ _ _ => by simp only [spec_l6Stable.l0, R.map_none]; rfl, fun _ _ _ _ _ _ _ _ _ _ => by simp only [spec_l6Stable.l1, R.map_none]; rfl⟩
  | k + 1 => by
    obtain ⟨ih0, ih1⟩ := spec_l6Stable.link k
    refine ⟨?_, ?_⟩
    · intro x14 x15 y0_0 y0_1 y2_0 y4
      rw [spec_l6Stable.e0]
      simp only [spec_l6Stable.l0, R.map_ite, R.map_bind, R.map_none, R.map_some, R.wr64_eq, ← ih0, ← ih1]
    · intro x4 x5 x14 x15 x19 x20 y0_0 y0_1 y2_0 y4
      rw [spec_l6Stable.e1]
      simp only [spec_l6Stable.l1, R.map_ite, R.map_bind, R.map_none, R.map_some, R.wr64_eq, ← ih0, ← ih1]
theorem spec_l6Stable.sf (k : Nat) (a0_0 : Int) (l0_1 : List Int) : R.start Try.prog xhn spec_l6Stable.O 0 Try.f119 spec_l6Stable.fh k [.agg [.int .i64 a0_0, .imm (.I .i64 l0_1)]] [] = (spec_l6Stable.f k a0_0 l0_1).map (spec_l6Stable.en) := by
  obtain ⟨ih0, ih1⟩ := spec_l6Stable.link k
  rw [spec_l6Stable.ef]
  simp only [spec_l6Stable.f, R.map_ite, R.map_bind, R.map_none, R.map_some, R.wr64_eq, ← ih0, ← ih1]
theorem spec_l6Stable.ok (k : Nat) : spec_l6Stable.tw.Ok Try.prog k := by
  intro a r h
  refine fn_ok (H := xhn) (fh := spec_l6Stable.fh) (O := spec_l6Stable.O) (k := k) Try.func119 (by kernel_rfl) (by kernel_rfl) (fun j _ => (Tw.orc_sound spec_l6Again.dok (spec_l6Again.ok j) noO_sound)) (by kernel_rfl) (m := 0) rfl ?_
  refine (spec_l6Stable.sf k a.1 a.2).trans ?_
  exact congrArg (Option.map _) h
def spec_l8Closer_put_b.l0 : Nat → ByteArray → (List Elm) → Int → Int → Bool → Int → (List Int) → Option ((List Elm) × Bool)
  | 0, _, _, _, _, _, _, _ => none
  | k + 1, x2, y1, x12, x13, y0_1, y2_0, y2_1 => (if x13 < x12 then (if 0 ≤ x13 then (if x13 < (y1.length : Int) then ((spec_l2Same.f k ((rdE y1 x13).f1) y2_1).bind fun t1 => (if t1 = true then (some (y1, y0_1)) else (spec_l8Closer_put_b.l0 k x2 y1 x12 (wrap64 (x13 + 1)) y0_1 y2_0 y2_1))) else none) else none) else (if y0_1 = true then (some (y1, true)) else (if (y1.length : Int) ≥ 120 then (some (y1, true)) else (if (decide ((x2.size : Int) > 120)) = true then (some (y1, (decide ((x2.size : Int) > 120)))) else (if y1.length < 2932031007402 then (some ((y1 ++ [(⟨y2_0, y2_1, x2⟩ : Elm)]), (decide ((x2.size : Int) > 120)))) else none)))))
def spec_l8Closer_put_b.f (k : Nat) (a1_0 : Int) (l1_1 : List Int) (a2 : ByteArray) (l4 : List Elm) (a3_1 : Bool) : Option ((List Elm) × Bool) := (spec_l8Closer_put_b.l0 k a2 l4 (l4.length : Int) 0 a3_1 a1_0 l1_1)
def spec_l8Closer_put_b.en (r : (List Elm) × Bool) : Res := (.tup [], [.box false [.sl 1 1, .lit r.2], .arr 82 1 (.E r.1) true])
def spec_l8Closer_put_b.dec : List AV → List R.Obj → Option (Int × (List Int) × ByteArray × (List Elm) × Bool)
  | [.ptr 0 0, .agg [.int .i64 a1_0, .imm (.I .i64 l1_1)], .str a2], [.box false [.sl 1 0, .lit a3_1], .arr 82 0 (.E l4) true] => some (a1_0, l1_1, a2, l4, a3_1)
  | _, _ => none
def spec_l8Closer_put_b.tw : Tw := ⟨189, Int × (List Int) × ByteArray × (List Elm) × Bool, (List Elm) × Bool, spec_l8Closer_put_b.dec, fun a => [.ptr 0 0, .agg [.int .i64 a.1, .imm (.I .i64 a.2.1)], .str a.2.2.1], fun a => [.box false [.sl 1 0, .lit a.2.2.2.2], .arr 82 0 (.E a.2.2.2.1) true], fun k a => spec_l8Closer_put_b.f k a.1 a.2.1 a.2.2.1 a.2.2.2.1 a.2.2.2.2, fun a r => spec_l8Closer_put_b.en r⟩
theorem spec_l8Closer_put_b.dok : spec_l8Closer_put_b.tw.DecOk := by
  intro args hc a h
  have h : spec_l8Closer_put_b.dec args hc = some a := h
  unfold spec_l8Closer_put_b.dec at h
  split at h
  · cases h; exact ⟨rfl, rfl⟩
  · cases h
noncomputable def spec_l8Closer_put_b.O (k : Nat) : Oracle := (spec_l2Same.tw.orc k noO)
def spec_l8Closer_put_b.fh : FH := ⟨fun i => match i with | 2 => some [(0, 0), (2, 0), (4, 0), (11, 0), (12, 0), (13, 0)] | _ => none, [], true⟩
noncomputable def spec_l8Closer_put_b.x0 (k : Nat) (x2 : ByteArray) (y1 : List Elm) (x12 : Int) (x13 : Int) (y0_1 : Bool) (y2_0 : Int) (y2_1 : List Int) : Option Res := R.exec Try.prog xhn spec_l8Closer_put_b.O 2 Try.f189 spec_l8Closer_put_b.fh k (R.point Try.f189 2) ⟨[(0, .ptr 0 0), (2, .str x2), (4, .ptr 2 0), (11, .sl 1 1), (12, .int .i64 x12), (13, .int .i64 x13)], [(0, .box false [.sl 1 1, .lit y0_1]), (1, .arr 82 1 (.E y1) true), (2, .box false [.int .i64 y2_0, .imm (.I .i64 y2_1)])], 5⟩
set_option maxRecDepth 100000 in
theorem spec_l8Closer_put_b.e0 (k : Nat) (x2 : ByteArray) (y1 : List Elm) (x12 : Int) (x13 : Int) (y0_1 : Bool) (y2_0 : Int) (y2_1 : List Int) : spec_l8Closer_put_b.x0 (k + 1) x2 y1 x12 x13 y0_1 y2_0 y2_1 = (if x13 < x12 then (if 0 ≤ x13 then (if x13 < (y1.length : Int) then ((spec_l2Same.f k ((rdE y1 x13).f1) y2_1).bind fun t1 => (if t1 = true then (some (spec_l8Closer_put_b.en (y1, y0_1))) else (spec_l8Closer_put_b.x0 k x2 y1 x12 (wr64 (x13 + 1)) y0_1 y2_0 y2_1))) else none) else none) else (if y0_1 = true then (some (spec_l8Closer_put_b.en (y1, true))) else (if (y1.length : Int) ≥ 120 then (some (spec_l8Closer_put_b.en (y1, true))) else (if (decide ((x2.size : Int) > 120)) = true then (some (spec_l8Closer_put_b.en (y1, (decide ((x2.size : Int) > 120))))) else (if y1.length < 2932031007402 then (some (spec_l8Closer_put_b.en ((y1 ++ [(⟨y2_0, y2_1, x2⟩ : Elm)]), (decide ((x2.size : Int) > 120))))) else none))))) := by kernel_rfl
set_option maxRecDepth 100000 in
theorem spec_l8Closer_put_b.ef (k : Nat) (a1_0 : Int) (l1_1 : List Int) (a2 : ByteArray) (l4 : List Elm) (a3_1 : Bool) : R.start Try.prog xhn spec_l8Closer_put_b.O 2 Try.f189 spec_l8Closer_put_b.fh k [.ptr 0 0, .agg [.int .i64 a1_0, .imm (.I .i64 l1_1)], .str a2] [.box false [.sl 1 0, .lit a3_1], .arr 82 0 (.E l4) true] = (spec_l8Closer_put_b.x0 k a2 l4 (l4.length : Int) 0 a3_1 a1_0 l1_1) := by kernel_rfl
theorem spec_l8Closer_put_b.link : ∀ k, (∀ (x2 : ByteArray) (y1 : List Elm) (x12 : Int) (x13 : Int) (y0_1 : Bool) (y2_0 : Int) (y2_1 : List Int), spec_l8Closer_put_b.x0 k x2 y1 x12 x13 y0_1 y2_0 y2_1 = (spec_l8Closer_put_b.l0 k x2 y1 x12 x13 y0_1 y2_0 y2_1).map (spec_l8Closer_put_b.en))
  | 0 => fun _ _ _ _ _ _ _ => by simp only [spec_l8Closer_put_b.l0, R.map_none]; rfl
  | k + 1 => by
    have ih0 := spec_l8Closer_put_b.link k
    · intro x2 y1 x12 x13 y0_1 y2_0 y2_1
      rw [spec_l8Closer_put_b.e0]
      simp only [spec_l8Closer_put_b.l0, R.map_ite, R.map_bind, R.map_none, R.map_some, R.wr64_eq, ← ih0]
theorem spec_l8Closer_put_b.sf (k : Nat) (a1_0 : Int) (l1_1 : List Int) (a2 : ByteArray) (l4 : List Elm) (a3_1 : Bool) : R.start Try.prog xhn spec_l8Closer_put_b.O 2 Try.f189 spec_l8Closer_put_b.fh k [.ptr 0 0, .agg [.int .i64 a1_0, .imm (.I .i64 l1_1)], .str a2] [.box false [.sl 1 0, .lit a3_1], .arr 82 0 (.E l4) true] = (spec_l8Closer_put_b.f k a1_0 l1_1 a2 l4 a3_1).map (spec_l8Closer_put_b.en) := by
  have ih0 := spec_l8Closer_put_b.link k
  rw [spec_l8Closer_put_b.ef]
  simp only [spec_l8Closer_put_b.f, R.map_ite, R.map_bind, R.map_none, R.map_some, R.wr64_eq, ← ih0]
theorem spec_l8Closer_put_b.ok (k : Nat) : spec_l8Closer_put_b.tw.Ok Try.prog k := by
  intro a r h
  refine fn_ok (H := xhn) (fh := spec_l8Closer_put_b.fh) (O := spec_l8Closer_put_b.O) (k := k) Try.func189 (by kernel_rfl) (by kernel_rfl) (fun j _ => (Tw.orc_sound spec_l2Same.dok (spec_l2Same.ok j) noO_sound)) (by kernel_rfl) (m := 2) rfl ?_
  refine (spec_l8Closer_put_b.sf k a.1 a.2.1 a.2.2.1 a.2.2.2.1 a.2.2.2.2).trans ?_
  exact congrArg (Option.map _) h
mutual
def spec_l8Elements.l0 : Nat → Bool → (List Elm) → (List ByteArray) → Int → Int → Int → (List Int) → (List Int) → (List Stp) → (List Elm) → Bool → Option ((List Elm) × Bool)
  | 0, _, _, _, _, _, _, _, _, _, _, _ => none
  | k + 1, x1, y2, y3, x21, x22, y0_0, y0_1, y0_2, y0_3, y4, y1_1 => (if x22 < x21 then (if 0 ≤ x22 then (if x22 < (y3.length : Int) then ((spec_l3Matrix.f k y0_0 y0_1 y0_2 y0_3 (rdS y3 x22)).bind fun t1 => ((spec_l6Grades.f k t1.1 t1.2).bind fun t2 => (if y2.length < 2932031007402 then ((spec_l8Closer_put.f k t2.1 t2.2 (rdS y3 x22) y4 y1_1).bind fun t3 => (spec_l8Elements.l0 k x1 (y2 ++ [(⟨t2.1, t2.2, (rdS y3 x22)⟩ : Elm)]) y3 x21 (wrap64 (x22 + 1)) y0_0 y0_1 y0_2 y0_3 t3.1 t3.2)) else none))) else none) else none) else (spec_l8Elements.l1 k x1 y2 0 y4 y1_1))
def spec_l8Elements.l1 : Nat → Bool → (List Elm) → Int → (List Elm) → Bool → Option ((List Elm) × Bool)
  | 0, _, _, _, _, _ => none
  | k + 1, x1, y1, x11, y2, y0_1 => (if x11 < (y2.length : Int) then (if y0_1 = true then (some (y2, (!decide (y0_1 = true)))) else (if 0 ≤ x11 then (if x1 = true then ((spec_l6Idempotent.f k ((rdE y2 x11).f0) ((rdE y2 x11).f1)).bind fun t4 => (if t4 = true then ((spec_l6Stable.f k ((rdE y2 x11).f0) ((rdE y2 x11).f1)).bind fun t5 => (if 1 + (rdE y2 x11).f2.size ≤ 9223372036854775807 then (if ((⟨#[40]⟩ : ByteArray) ++ (rdE y2 x11).f2).size + 2 ≤ 9223372036854775807 then ((spec_l8Closer_put_b.f k t5.1 t5.2 (((⟨#[40]⟩ : ByteArray) ++ (rdE y2 x11).f2) ++ (⟨#[41, 35]⟩ : ByteArray)) y2 y0_1).bind fun t6 => (if 0 ≤ (wrap64 (x11 + 1)) then (if (wrap64 (x11 + 1)) ≤ (t6.1.length : Int) then (if ([] : List Elm).length + ((t6.1.drop 0).take ((wrap64 (x11 + 1)).toNat - 0)).length ≤ 2932031007402 then (spec_l8Elements.l2 k x1 y1 x11 (([] : List Elm) ++ ((t6.1.drop 0).take ((wrap64 (x11 + 1)).toNat - 0))) ((([] : List Elm) ++ ((t6.1.drop 0).take ((wrap64 (x11 + 1)).toNat - 0))).length : Int) 0 t6.1 t6.2 ((rdE y2 x11).f0) ((rdE y2 x11).f1) ((rdE y2 x11).f2)) else none) else none) else none)) else none) else none)) else (if 0 ≤ (wrap64 (x11 + 1)) then (if (wrap64 (x11 + 1)) ≤ (y2.length : Int) then (if ([] : List Elm).length + ((y2.drop 0).take ((wrap64 (x11 + 1)).toNat - 0)).length ≤ 2932031007402 then (spec_l8Elements.l2 k x1 y1 x11 (([] : List Elm) ++ ((y2.drop 0).take ((wrap64 (x11 + 1)).toNat - 0))) ((([] : List Elm) ++ ((y2.drop 0).take ((wrap64 (x11 + 1)).toNat - 0))).length : Int) 0 y2 y0_1 ((rdE y2 x11).f0) ((rdE y2 x11).f1) ((rdE y2 x11).f2)) else none) else none) else none))) else (spec_l8Elements.l2 k x1 y1 x11 y1 (y1.length : Int) 0 y2 y0_1 ((rdE y2 x11).f0) ((rdE y2 x11).f1) ((rdE y2 x11).f2))) else none)) else (some (y2, (!decide (y0_1 = true)))))
def spec_l8Elements.l2 : Nat → Bool → (List Elm) → Int → (List Elm) → Int → Int → (List Elm) → Bool → Int → (List Int) → ByteArray → Option ((List Elm) × Bool)
  | 0, _, _, _, _, _, _, _, _, _, _, _ => none
  | k + 1, x1, y1, x11, x90, x91, x92, y3, y0_1, y2_0, y2_1, y2_2 => (if x92 < x91 then (if 0 ≤ x92 then (if x92 < (x90.length : Int) then ((spec_l6Mul.f k y2_0 y2_1 ((rdE x90 x92).f0) ((rdE x90 x92).f1)).bind fun t7 => (if y2_2.size + (rdE x90 x92).f2.size ≤ 9223372036854775807 then ((spec_l8Closer_put_b.f k t7.1 t7.2 (y2_2 ++ (rdE x90 x92).f2) y3 y0_1).bind fun t8 => (if x1 = true then ((spec_l6Mul.f k ((rdE x90 x92).f0) ((rdE x90 x92).f1) y2_0 y2_1).bind fun t9 => (if (rdE x90 x92).f2.size + y2_2.size ≤ 9223372036854775807 then ((spec_l8Closer_put_b.f k t9.1 t9.2 ((rdE x90 x92).f2 ++ y2_2) t8.1 t8.2).bind fun t10 => (spec_l8Elements.l2 k x1 y1 x11 x90 x91 (wrap64 (x92 + 1)) t10.1 t10.2 y2_0 y2_1 y2_2)) else none)) else (spec_l8Elements.l2 k x1 y1 x11 x90 x91 (wrap64 (x92 + 1)) t8.1 t8.2 y2_0 y2_1 y2_2))) else none)) else none) else none) else (spec_l8Elements.l1 k x1 y1 (wrap64 (x11 + 1)) y3 y0_1))
end
def spec_l8Elements.f (k : Nat) (a0_0 : Int) (l0_1 : List Int) (l0_2 : List Int) (l0_3 : List Stp) (a1 : Bool) : Option ((List Elm) × Bool) := (spec_l8Elements.l0 k a1 ([] : List Elm) ([(⟨#[97]⟩ : ByteArray), (⟨#[98]⟩ : ByteArray)]) ([(⟨#[97]⟩ : ByteArray), (⟨#[98]⟩ : ByteArray)].length : Int) 0 a0_0 l0_1 l0_2 l0_3 ([] : List Elm) false)
def spec_l8Elements.en (r : (List Elm) × Bool) : Res := (.tup [.imm (.E r.1), .lit r.2], [])
def spec_l8Elements.dec : List AV → List R.Obj → Option (Int × (List Int) × (List Int) × (List Stp) × Bool)
  | [.agg [.int .i64 a0_0, .imm (.I .i64 l0_1), .imm (.I .i64 l0_2), .imm (.T l0_3)], .lit a1], [] => some (a0_0, l0_1, l0_2, l0_3, a1)
  | _, _ => none
def spec_l8Elements.tw : Tw := ⟨168, Int × (List Int) × (List Int) × (List Stp) × Bool, (List Elm) × Bool, spec_l8Elements.dec, fun a => [.agg [.int .i64 a.1, .imm (.I .i64 a.2.1), .imm (.I .i64 a.2.2.1), .imm (.T a.2.2.2.1)], .lit a.2.2.2.2], fun a => [], fun k a => spec_l8Elements.f k a.1 a.2.1 a.2.2.1 a.2.2.2.1 a.2.2.2.2, fun a r => spec_l8Elements.en r⟩
theorem spec_l8Elements.dok : spec_l8Elements.tw.DecOk := by
  intro args hc a h
  have h : spec_l8Elements.dec args hc = some a := h
  unfold spec_l8Elements.dec at h
  split at h
  · cases h; exact ⟨rfl, rfl⟩
  · cases h
noncomputable def spec_l8Elements.O (k : Nat) : Oracle := (spec_l3Matrix.tw.orc k (spec_l6Grades.tw.orc k (spec_l8Closer_put.tw.orc k (spec_l6Idempotent.tw.orc k (spec_l6Stable.tw.orc k (spec_l8Closer_put_b.tw.orc k (spec_l6Mul.tw.orc k noO)))))))
def spec_l8Elements.fh : FH := ⟨fun i => match i with | 4 => some [(1, 0), (2, 0), (6, 0), (7, 0), (20, 0), (21, 0), (22, 0)] | 11 => some [(1, 0), (6, 2), (7, 2), (11, 0)] | 20 => some [(1, 0), (6, 2), (7, 2), (11, 0), (12, 0), (90, 1), (91, 0), (92, 0)] | _ => none, [(false, 82)], false⟩
noncomputable def spec_l8Elements.x0 (k : Nat) (x1 : Bool) (y2 : List Elm) (y3 : List ByteArray) (x21 : Int) (x22 : Int) (y0_0 : Int) (y0_1 : List Int) (y0_2 : List Int) (y0_3 : List Stp) (y4 : List Elm) (y1_1 : Bool) : Option Res := R.exec Try.prog xhn spec_l8Elements.O 0 Try.f168 spec_l8Elements.fh k (R.point Try.f168 4) ⟨[(1, .lit x1), (2, .ptr 0 0), (6, .ptr 1 0), (7, .sl 2 0), (20, .sl 3 0), (21, .int .i64 x21), (22, .int .i64 x22)], [(0, .box false [.int .i64 y0_0, .imm (.I .i64 y0_1), .imm (.I .i64 y0_2), .imm (.T y0_3)]), (1, .box false [.sl 4 0, .lit y1_1]), (2, .arr 82 0 (.E y2) false), (3, .arr 9 0 (.S y3) false), (4, .arr 82 0 (.E y4) false)], 7⟩
noncomputable def spec_l8Elements.x1 (k : Nat) (x1 : Bool) (y1 : List Elm) (x11 : Int) (y2 : List Elm) (y0_1 : Bool) : Option Res := R.exec Try.prog xhn spec_l8Elements.O 0 Try.f168 spec_l8Elements.fh k (R.point Try.f168 11) ⟨[(1, .lit x1), (6, .ptr 0 0), (7, .sl 1 0), (11, .int .i64 x11)], [(0, .box false [.sl 2 0, .lit y0_1]), (1, .arr 82 0 (.E y1) true), (2, .arr 82 0 (.E y2) true)], 5⟩
noncomputable def spec_l8Elements.x2 (k : Nat) (x1 : Bool) (y1 : List Elm) (x11 : Int) (x90 : List Elm) (x91 : Int) (x92 : Int) (y3 : List Elm) (y0_1 : Bool) (y2_0 : Int) (y2_1 : List Int) (y2_2 : ByteArray) : Option Res := R.exec Try.prog xhn spec_l8Elements.O 0 Try.f168 spec_l8Elements.fh k (R.point Try.f168 20) ⟨[(1, .lit x1), (6, .ptr 0 0), (7, .sl 1 0), (11, .int .i64 x11), (12, .ptr 2 0), (90, .imm (.E x90)), (91, .int .i64 x91), (92, .int .i64 x92)], [(0, .box false [.sl 3 0, .lit y0_1]), (1, .arr 82 0 (.E y1) true), (2, .box false [.int .i64 y2_0, .imm (.I .i64 y2_1), .str y2_2]), (3, .arr 82 0 (.E y3) true)], 6⟩
set_option maxRecDepth 100000 in
theorem spec_l8Elements.e0 (k : Nat) (x1 : Bool) (y2 : List Elm) (y3 : List ByteArray) (x21 : Int) (x22 : Int) (y0_0 : Int) (y0_1 : List Int) (y0_2 : List Int) (y0_3 : List Stp) (y4 : List Elm) (y1_1 : Bool) : spec_l8Elements.x0 (k + 1) x1 y2 y3 x21 x22 y0_0 y0_1 y0_2 y0_3 y4 y1_1 = (if x22 < x21 then (if 0 ≤ x22 then (if x22 < (y3.length : Int) then ((spec_l3Matrix.f k y0_0 y0_1 y0_2 y0_3 (rdS y3 x22)).bind fun t1 => ((spec_l6Grades.f k t1.1 t1.2).bind fun t2 => (if y2.length < 2932031007402 then ((spec_l8Closer_put.f k t2.1 t2.2 (rdS y3 x22) y4 y1_1).bind fun t3 => (spec_l8Elements.x0 k x1 (y2 ++ [(⟨t2.1, t2.2, (rdS y3 x22)⟩ : Elm)]) y3 x21 (wr64 (x22 + 1)) y0_0 y0_1 y0_2 y0_3 t3.1 t3.2)) else none))) else none) else none) else (spec_l8Elements.x1 k x1 y2 0 y4 y1_1)) := by kernel_rfl
set_option maxRecDepth 100000 in
theorem spec_l8Elements.e1 (k : Nat) (x1 : Bool) (y1 : List Elm) (x11 : Int) (y2 : List Elm) (y0_1 : Bool) : spec_l8Elements.x1 (k + 1) x1 y1 x11 y2 y0_1 = (if x11 < (y2.length : Int) then (if y0_1 = true then (some (spec_l8Elements.en (y2, (!decide (y0_1 = true))))) else (if 0 ≤ x11 then (if x1 = true then ((spec_l6Idempotent.f k ((rdE y2 x11).f0) ((rdE y2 x11).f1)).bind fun t4 => (if t4 = true then ((spec_l6Stable.f k ((rdE y2 x11).f0) ((rdE y2 x11).f1)).bind fun t5 => (if 1 + (rdE y2 x11).f2.size ≤ 9223372036854775807 then (if ((⟨#[40]⟩ : ByteArray) ++ (rdE y2 x11).f2).size + 2 ≤ 9223372036854775807 then ((spec_l8Closer_put_b.f k t5.1 t5.2 (((⟨#[40]⟩ : ByteArray) ++ (rdE y2 x11).f2) ++ (⟨#[41, 35]⟩ : ByteArray)) y2 y0_1).bind fun t6 => (if 0 ≤ (wr64 (x11 + 1)) then (if (wr64 (x11 + 1)) ≤ (t6.1.length : Int) then (if ([] : List Elm).length + ((t6.1.drop 0).take ((wr64 (x11 + 1)).toNat - 0)).length ≤ 2932031007402 then (spec_l8Elements.x2 k x1 y1 x11 (([] : List Elm) ++ ((t6.1.drop 0).take ((wr64 (x11 + 1)).toNat - 0))) ((([] : List Elm) ++ ((t6.1.drop 0).take ((wr64 (x11 + 1)).toNat - 0))).length : Int) 0 t6.1 t6.2 ((rdE y2 x11).f0) ((rdE y2 x11).f1) ((rdE y2 x11).f2)) else none) else none) else none)) else none) else none)) else (if 0 ≤ (wr64 (x11 + 1)) then (if (wr64 (x11 + 1)) ≤ (y2.length : Int) then (if ([] : List Elm).length + ((y2.drop 0).take ((wr64 (x11 + 1)).toNat - 0)).length ≤ 2932031007402 then (spec_l8Elements.x2 k x1 y1 x11 (([] : List Elm) ++ ((y2.drop 0).take ((wr64 (x11 + 1)).toNat - 0))) ((([] : List Elm) ++ ((y2.drop 0).take ((wr64 (x11 + 1)).toNat - 0))).length : Int) 0 y2 y0_1 ((rdE y2 x11).f0) ((rdE y2 x11).f1) ((rdE y2 x11).f2)) else none) else none) else none))) else (spec_l8Elements.x2 k x1 y1 x11 y1 (y1.length : Int) 0 y2 y0_1 ((rdE y2 x11).f0) ((rdE y2 x11).f1) ((rdE y2 x11).f2))) else none)) else (some (spec_l8Elements.en (y2, (!decide (y0_1 = true)))))) := by
  refine Eq.trans ?_ (R.icong (fun h0 => (R.icong (fun h1 => rfl) (fun h1 => (R.icong (fun h2 => (R.idropT (p := x11 < (y2.length : Int)) (z := none) h0 (R.icong (fun h3 => (R.bcong fun t4 => (R.icong (fun h4 => (R.bcong fun t5 => (R.icong (fun h5 => (R.icong (fun h6 => (R.bcong fun t6 => (R.idropT (p := x1 = true) (z := (spec_l8Elements.x2 k x1 y1 x11 y1 (y1.length : Int) 0 t6.1 t6.2 ((rdE y2 x11).f0) ((rdE y2 x11).f1) ((rdE y2 x11).f2))) h3 rfl))) (fun h6 => rfl))) (fun h5 => rfl)))) (fun h4 => (R.idropT (p := x1 = true) (z := (spec_l8Elements.x2 k x1 y1 x11 y1 (y1.length : Int) 0 y2 y0_1 ((rdE y2 x11).f0) ((rdE y2 x11).f1) ((rdE y2 x11).f2))) h3 rfl))))) (fun h3 => (R.idropF (p := x1 = true) (z := (if 0 ≤ (wr64 (x11 + 1)) then (if (wr64 (x11 + 1)) ≤ (y2.length : Int) then (if ([] : List Elm).length + ((y2.drop 0).take ((wr64 (x11 + 1)).toNat - 0)).length ≤ 2932031007402 then (spec_l8Elements.x2 k x1 y1 x11 (([] : List Elm) ++ ((y2.drop 0).take ((wr64 (x11 + 1)).toNat - 0))) ((([] : List Elm) ++ ((y2.drop 0).take ((wr64 (x11 + 1)).toNat - 0))).length : Int) 0 y2 y0_1 ((rdE y2 x11).f0) ((rdE y2 x11).f1) ((rdE y2 x11).f2)) else none) else none) else none)) h3 rfl))))) (fun h2 => rfl))))) (fun h0 => rfl))
  kernel_rfl
set_option maxRecDepth 100000 in
theorem spec_l8Elements.e2 (k : Nat) (x1 : Bool) (y1 : List Elm) (x11 : Int) (x90 : List Elm) (x91 : Int) (x92 : Int) (y3 : List Elm) (y0_1 : Bool) (y2_0 : Int) (y2_1 : List Int) (y2_2 : ByteArray) : spec_l8Elements.x2 (k + 1) x1 y1 x11 x90 x91 x92 y3 y0_1 y2_0 y2_1 y2_2 = (if x92 < x91 then (if 0 ≤ x92 then (if x92 < (x90.length : Int) then ((spec_l6Mul.f k y2_0 y2_1 ((rdE x90 x92).f0) ((rdE x90 x92).f1)).bind fun t7 => (if y2_2.size + (rdE x90 x92).f2.size ≤ 9223372036854775807 then ((spec_l8Closer_put_b.f k t7.1 t7.2 (y2_2 ++ (rdE x90 x92).f2) y3 y0_1).bind fun t8 => (if x1 = true then ((spec_l6Mul.f k ((rdE x90 x92).f0) ((rdE x90 x92).f1) y2_0 y2_1).bind fun t9 => (if (rdE x90 x92).f2.size + y2_2.size ≤ 9223372036854775807 then ((spec_l8Closer_put_b.f k t9.1 t9.2 ((rdE x90 x92).f2 ++ y2_2) t8.1 t8.2).bind fun t10 => (spec_l8Elements.x2 k x1 y1 x11 x90 x91 (wr64 (x92 + 1)) t10.1 t10.2 y2_0 y2_1 y2_2)) else none)) else (spec_l8Elements.x2 k x1 y1 x11 x90 x91 (wr64 (x92 + 1)) t8.1 t8.2 y2_0 y2_1 y2_2))) else none)) else none) else none) else (spec_l8Elements.x1 k x1 y1 (wr64 (x11 + 1)) y3 y0_1)) := by kernel_rfl
set_option maxRecDepth 100000 in
theorem spec_l8Elements.ef (k : Nat) (a0_0 : Int) (l0_1 : List Int) (l0_2 : List Int) (l0_3 : List Stp) (a1 : Bool) : R.start Try.prog xhn spec_l8Elements.O 0 Try.f168 spec_l8Elements.fh k [.agg [.int .i64 a0_0, .imm (.I .i64 l0_1), .imm (.I .i64 l0_2), .imm (.T l0_3)], .lit a1] [] = (spec_l8Elements.x0 k a1 ([] : List Elm) ([(⟨#[97]⟩ : ByteArray), (⟨#[98]⟩ : ByteArray)]) ([(⟨#[97]⟩ : ByteArray), (⟨#[98]⟩ : ByteArray)].length : Int) 0 a0_0 l0_1 l0_2 l0_3 ([] : List Elm) false) := by kernel_rfl
theorem spec_l8Elements.link : ∀ k, (∀ (x1 : Bool) (y2 : List Elm) (y3 : List ByteArray) (x21 : Int) (x22 : Int) (y0_0 : Int) (y0_1 : List Int) (y0_2 : List Int) (y0_3 : List Stp) (y4 : List Elm) (y1_1 : Bool), spec_l8Elements.x0 k x1 y2 y3 x21 x22 y0_0 y0_1 y0_2 y0_3 y4 y1_1 = (spec_l8Elements.l0 k x1 y2 y3 x21 x22 y0_0 y0_1 y0_2 y0_3 y4 y1_1).map (spec_l8Elements.en)) ∧ (∀ (x1 : Bool) (y1 : List Elm) (x11 : Int) (y2 : List Elm) (y0_1 : Bool), spec_l8Elements.x1 k x1 y1 x11 y2 y0_1 = (spec_l8Elements.l1 k x1 y1 x11 y2 y0_1).map (spec_l8Elements.en)) ∧ (∀ (x1 : Bool) (y1 : List Elm) (x11 : Int) (x90 : List Elm) (x91 : Int) (x92 : Int) (y3 : List Elm) (y0_1 : Bool) (y2_0 : Int) (y2_1 : List Int) (y2_2 : ByteArray), spec_l8Elements.x2 k x1 y1 x11 x90 x91 x92 y3 y0_1 y2_0 y2_1 y2_2 = (spec_l8Elements.l2 k x1 y1 x11 x90 x91 x92 y3 y0_1 y2_0 y2_1 y2_2).map (spec_l8Elements.en))
  | 0 => ⟨fun _ _ _ _ _ _ _ _ _ _ _ => by simp only [spec_l8Elements.l0, R.map_none]; rfl, fun _ _ _ _ _ => by simp only [spec_l8Elements.l1, R.map_none]; rfl, fun _ _ _ _ _ _ _ _ _ _ _ => by simp only [spec_l8Elements.l2, R.map_none]; rfl⟩
  | k + 1 => by
    obtain ⟨ih0, ih1, ih2⟩ := spec_l8Elements.link k
    refine ⟨?_, ?_, ?_⟩
    · intro x1 y2 y3 x21 x22 y0_0 y0_1 y0_2 y0_3 y4 y1_1
      rw [spec_l8Elements.e0]
      simp only [spec_l8Elements.l0, R.map_ite, R.map_bind, R.map_none, R.map_some, R.wr64_eq, ← ih0, ← ih1, ← ih2]
    · intro x1 y1 x11 y2 y0_1
      rw [spec_l8Elements.e1]
      simp only [spec_l8Elements.l1, R.map_ite, R.map_bind, R.map_none, R.map_some, R.wr64_eq, ← ih0, ← ih1, ← ih2]
    · intro x1 y1 x11 x90 x91 x92 y3 y0_1 y2_0 y2_1 y2_2
      rw [spec_l8Elements.e2]
      simp only [spec_l8Elements.l2, R.map_ite, R.map_bind, R.map_none, R.map_some, R.wr64_eq, ← ih0, ← ih1, ← ih2]
theorem spec_l8Elements.sf (k : Nat) (a0_0 : Int) (l0_1 : List Int) (l0_2 : List Int) (l0_3 : List Stp) (a1 : Bool) : R.start Try.prog xhn spec_l8Elements.O 0 Try.f168 spec_l8Elements.fh k [.agg [.int .i64 a0_0, .imm (.I .i64 l0_1), .imm (.I .i64 l0_2), .imm (.T l0_3)], .lit a1] [] = (spec_l8Elements.f k a0_0 l0_1 l0_2 l0_3 a1).map (spec_l8Elements.en) := by
  obtain ⟨ih0, ih1, ih2⟩ := spec_l8Elements.link k
  rw [spec_l8Elements.ef]
  simp only [spec_l8Elements.f, R.map_ite, R.map_bind, R.map_none, R.map_some, R.wr64_eq, ← ih0, ← ih1, ← ih2]
theorem spec_l8Elements.ok (k : Nat) : spec_l8Elements.tw.Ok Try.prog k := by
  intro a r h
  refine fn_ok (H := xhn) (fh := spec_l8Elements.fh) (O := spec_l8Elements.O) (k := k) Try.func168 (by kernel_rfl) (by kernel_rfl) (fun j _ => (Tw.orc_sound spec_l3Matrix.dok (spec_l3Matrix.ok j) (Tw.orc_sound spec_l6Grades.dok (spec_l6Grades.ok j) (Tw.orc_sound spec_l8Closer_put.dok (spec_l8Closer_put.ok j) (Tw.orc_sound spec_l6Idempotent.dok (spec_l6Idempotent.ok j) (Tw.orc_sound spec_l6Stable.dok (spec_l6Stable.ok j) (Tw.orc_sound spec_l8Closer_put_b.dok (spec_l8Closer_put_b.ok j) (Tw.orc_sound spec_l6Mul.dok (spec_l6Mul.ok j) noO_sound)))))))) (by kernel_rfl) (m := 0) rfl ?_
  refine (spec_l8Elements.sf k a.1 a.2.1 a.2.2.1 a.2.2.2.1 a.2.2.2.2).trans ?_
  exact congrArg (Option.map _) h
def spec_l8RawElementsOf.f (k : Nat) (a0_0 : Int) (l0_1 : List Int) (l0_2 : List Int) (l0_3 : List Stp) : Option ((List Elm) × Bool) := ((spec_AutomatonValid.f k a0_0 l0_1 l0_2 l0_3).bind fun t1 => (if t1 = true then ((spec_l8Elements.f k a0_0 l0_1 l0_2 l0_3 true).bind fun t2 => (if t2.2 = true then (some (t2.1, true)) else (some (([] : List Elm), false)))) else (some (([] : List Elm), false))))
def spec_l8RawElementsOf.en (r : (List Elm) × Bool) : Res := (.tup [.imm (.E r.1), .lit r.2], [])
def spec_l8RawElementsOf.dec : List AV → List R.Obj → Option (Int × (List Int) × (List Int) × (List Stp))
  | [.agg [.int .i64 a0_0, .imm (.I .i64 l0_1), .imm (.I .i64 l0_2), .imm (.T l0_3)]], [] => some (a0_0, l0_1, l0_2, l0_3)
  | _, _ => none
def spec_l8RawElementsOf.tw : Tw := ⟨129, Int × (List Int) × (List Int) × (List Stp), (List Elm) × Bool, spec_l8RawElementsOf.dec, fun a => [.agg [.int .i64 a.1, .imm (.I .i64 a.2.1), .imm (.I .i64 a.2.2.1), .imm (.T a.2.2.2)]], fun a => [], fun k a => spec_l8RawElementsOf.f k a.1 a.2.1 a.2.2.1 a.2.2.2, fun a r => spec_l8RawElementsOf.en r⟩
theorem spec_l8RawElementsOf.dok : spec_l8RawElementsOf.tw.DecOk := by
  intro args hc a h
  have h : spec_l8RawElementsOf.dec args hc = some a := h
  unfold spec_l8RawElementsOf.dec at h
  split at h
  · cases h; exact ⟨rfl, rfl⟩
  · cases h
noncomputable def spec_l8RawElementsOf.O (k : Nat) : Oracle := (spec_AutomatonValid.tw.orc k (spec_l8Elements.tw.orc k noO))
def spec_l8RawElementsOf.fh : FH := ⟨fun i => match i with | _ => none, [(false, 82)], false⟩
set_option maxRecDepth 100000 in
theorem spec_l8RawElementsOf.ef (k : Nat) (a0_0 : Int) (l0_1 : List Int) (l0_2 : List Int) (l0_3 : List Stp) : R.start Try.prog xhn spec_l8RawElementsOf.O 0 Try.f129 spec_l8RawElementsOf.fh k [.agg [.int .i64 a0_0, .imm (.I .i64 l0_1), .imm (.I .i64 l0_2), .imm (.T l0_3)]] [] = ((spec_AutomatonValid.f k a0_0 l0_1 l0_2 l0_3).bind fun t1 => (if t1 = true then ((spec_l8Elements.f k a0_0 l0_1 l0_2 l0_3 true).bind fun t2 => (if t2.2 = true then (some (spec_l8RawElementsOf.en (t2.1, true))) else (some (spec_l8RawElementsOf.en (([] : List Elm), false))))) else (some (spec_l8RawElementsOf.en (([] : List Elm), false))))) := by kernel_rfl
theorem spec_l8RawElementsOf.sf (k : Nat) (a0_0 : Int) (l0_1 : List Int) (l0_2 : List Int) (l0_3 : List Stp) : R.start Try.prog xhn spec_l8RawElementsOf.O 0 Try.f129 spec_l8RawElementsOf.fh k [.agg [.int .i64 a0_0, .imm (.I .i64 l0_1), .imm (.I .i64 l0_2), .imm (.T l0_3)]] [] = (spec_l8RawElementsOf.f k a0_0 l0_1 l0_2 l0_3).map (spec_l8RawElementsOf.en) := by
  rw [spec_l8RawElementsOf.ef]
  simp only [spec_l8RawElementsOf.f, R.map_ite, R.map_bind, R.map_none, R.map_some, R.wr64_eq]
theorem spec_l8RawElementsOf.ok (k : Nat) : spec_l8RawElementsOf.tw.Ok Try.prog k := by
  intro a r h
  refine fn_ok (H := xhn) (fh := spec_l8RawElementsOf.fh) (O := spec_l8RawElementsOf.O) (k := k) Try.func129 (by kernel_rfl) (by kernel_rfl) (fun j _ => (Tw.orc_sound spec_AutomatonValid.dok (spec_AutomatonValid.ok j) (Tw.orc_sound spec_l8Elements.dok (spec_l8Elements.ok j) noO_sound))) (by kernel_rfl) (m := 0) rfl ?_
  refine (spec_l8RawElementsOf.sf k a.1 a.2.1 a.2.2.1 a.2.2.2).trans ?_
  exact congrArg (Option.map _) h
def spec_l13OwnMatrix.f (a0_0 : Int) (l0_1 : List Int) : Option (Int × (List Int)) := (if ([] : List Int).length + l0_1.length ≤ 17592186044416 then (some (a0_0, (([] : List Int) ++ l0_1))) else none)
def spec_l13OwnMatrix.en (r : Int × (List Int)) : Res := (.agg [.int .i64 r.1, .sl 0 0], [.arr 3 0 (.I .i64 r.2) false])
def spec_l13OwnMatrix.dec : List AV → List R.Obj → Option (Int × (List Int))
  | [.agg [.int .i64 a0_0, .imm (.I .i64 l0_1)]], [] => some (a0_0, l0_1)
  | _, _ => none
def spec_l13OwnMatrix.tw : Tw := ⟨190, Int × (List Int), Int × (List Int), spec_l13OwnMatrix.dec, fun a => [.agg [.int .i64 a.1, .imm (.I .i64 a.2)]], fun a => [], fun k a => spec_l13OwnMatrix.f a.1 a.2, fun a r => spec_l13OwnMatrix.en r⟩
theorem spec_l13OwnMatrix.dok : spec_l13OwnMatrix.tw.DecOk := by
  intro args hc a h
  have h : spec_l13OwnMatrix.dec args hc = some a := h
  unfold spec_l13OwnMatrix.dec at h
  split at h
  · cases h; exact ⟨rfl, rfl⟩
  · cases h
noncomputable def spec_l13OwnMatrix.O (k : Nat) : Oracle := noO
def spec_l13OwnMatrix.fh : FH := ⟨fun i => match i with | _ => none, [(true, 3)], false⟩
set_option maxRecDepth 100000 in
theorem spec_l13OwnMatrix.ef (k : Nat) (a0_0 : Int) (l0_1 : List Int) : R.start Try.prog xhn spec_l13OwnMatrix.O 0 Try.f190 spec_l13OwnMatrix.fh k [.agg [.int .i64 a0_0, .imm (.I .i64 l0_1)]] [] = (if ([] : List Int).length + l0_1.length ≤ 17592186044416 then (some (spec_l13OwnMatrix.en (a0_0, (([] : List Int) ++ l0_1)))) else none) := by kernel_rfl
theorem spec_l13OwnMatrix.sf (k : Nat) (a0_0 : Int) (l0_1 : List Int) : R.start Try.prog xhn spec_l13OwnMatrix.O 0 Try.f190 spec_l13OwnMatrix.fh k [.agg [.int .i64 a0_0, .imm (.I .i64 l0_1)]] [] = (spec_l13OwnMatrix.f a0_0 l0_1).map (spec_l13OwnMatrix.en) := by
  rw [spec_l13OwnMatrix.ef]
  simp only [spec_l13OwnMatrix.f, R.map_ite, R.map_bind, R.map_none, R.map_some, R.wr64_eq]
theorem spec_l13OwnMatrix.ok (k : Nat) : spec_l13OwnMatrix.tw.Ok Try.prog k := by
  intro a r h
  refine fn_ok (H := xhn) (fh := spec_l13OwnMatrix.fh) (O := spec_l13OwnMatrix.O) (k := k) Try.func190 (by kernel_rfl) (by kernel_rfl) (fun j _ => noO_sound) (by kernel_rfl) (m := 0) rfl ?_
  refine (spec_l13OwnMatrix.sf k a.1 a.2).trans ?_
  exact congrArg (Option.map _) h
def spec_l13OwnElement.f (a0_0 : Int) (l0_1 : List Int) (a0_2 : ByteArray) : Option (Int × (List Int) × ByteArray) := ((spec_l13OwnMatrix.f a0_0 l0_1).bind fun t1 => (some (t1.1, t1.2, a0_2)))
def spec_l13OwnElement.en (r : Int × (List Int) × ByteArray) : Res := (.agg [.int .i64 r.1, .sl 0 0, .str r.2.2], [.arr 3 0 (.I .i64 r.2.1) false])
def spec_l13OwnElement.dec : List AV → List R.Obj → Option (Int × (List Int) × ByteArray)
  | [.agg [.int .i64 a0_0, .imm (.I .i64 l0_1), .str a0_2]], [] => some (a0_0, l0_1, a0_2)
  | _, _ => none
def spec_l13OwnElement.tw : Tw := ⟨169, Int × (List Int) × ByteArray, Int × (List Int) × ByteArray, spec_l13OwnElement.dec, fun a => [.agg [.int .i64 a.1, .imm (.I .i64 a.2.1), .str a.2.2]], fun a => [], fun k a => spec_l13OwnElement.f a.1 a.2.1 a.2.2, fun a r => spec_l13OwnElement.en r⟩
theorem spec_l13OwnElement.dok : spec_l13OwnElement.tw.DecOk := by
  intro args hc a h
  have h : spec_l13OwnElement.dec args hc = some a := h
  unfold spec_l13OwnElement.dec at h
  split at h
  · cases h; exact ⟨rfl, rfl⟩
  · cases h
noncomputable def spec_l13OwnElement.O (k : Nat) : Oracle := (spec_l13OwnMatrix.tw.orc k noO)
def spec_l13OwnElement.fh : FH := ⟨fun i => match i with | _ => none, [(true, 3)], false⟩
set_option maxRecDepth 100000 in
theorem spec_l13OwnElement.ef (k : Nat) (a0_0 : Int) (l0_1 : List Int) (a0_2 : ByteArray) : R.start Try.prog xhn spec_l13OwnElement.O 0 Try.f169 spec_l13OwnElement.fh k [.agg [.int .i64 a0_0, .imm (.I .i64 l0_1), .str a0_2]] [] = ((spec_l13OwnMatrix.f a0_0 l0_1).bind fun t1 => (some (spec_l13OwnElement.en (t1.1, t1.2, a0_2)))) := by kernel_rfl
theorem spec_l13OwnElement.sf (k : Nat) (a0_0 : Int) (l0_1 : List Int) (a0_2 : ByteArray) : R.start Try.prog xhn spec_l13OwnElement.O 0 Try.f169 spec_l13OwnElement.fh k [.agg [.int .i64 a0_0, .imm (.I .i64 l0_1), .str a0_2]] [] = (spec_l13OwnElement.f a0_0 l0_1 a0_2).map (spec_l13OwnElement.en) := by
  rw [spec_l13OwnElement.ef]
  simp only [spec_l13OwnElement.f, R.map_ite, R.map_bind, R.map_none, R.map_some, R.wr64_eq]
theorem spec_l13OwnElement.ok (k : Nat) : spec_l13OwnElement.tw.Ok Try.prog k := by
  intro a r h
  refine fn_ok (H := xhn) (fh := spec_l13OwnElement.fh) (O := spec_l13OwnElement.O) (k := k) Try.func169 (by kernel_rfl) (by kernel_rfl) (fun j _ => (Tw.orc_sound spec_l13OwnMatrix.dok (spec_l13OwnMatrix.ok j) noO_sound)) (by kernel_rfl) (m := 0) rfl ?_
  refine (spec_l13OwnElement.sf k a.1 a.2.1 a.2.2).trans ?_
  exact congrArg (Option.map _) h
def spec_l13OwnListElement.l0 : Nat → (List Elm) → (List Elm) → Int → Int → Option (List Elm)
  | 0, _, _, _, _ => none
  | k + 1, y0, x7, x8, x9 => (if x9 < x8 then (if 0 ≤ x9 then (if x9 < (x7.length : Int) then ((spec_l13OwnElement.f ((rdE x7 x9).f0) ((rdE x7 x9).f1) ((rdE x7 x9).f2)).bind fun t1 => (if y0.length < 2932031007402 then (spec_l13OwnListElement.l0 k (y0 ++ [(⟨t1.1, t1.2.1, t1.2.2⟩ : Elm)]) x7 x8 (wrap64 (x9 + 1))) else none)) else none) else none) else (some y0))
def spec_l13OwnListElement.f (k : Nat) (l0 : List Elm) : Option (List Elm) := (spec_l13OwnListElement.l0 k ([] : List Elm) l0 (l0.length : Int) 0)
def spec_l13OwnListElement.en (r : List Elm) : Res := (.sl 0 0, [.arr 82 0 (.E r) false])
def spec_l13OwnListElement.dec : List AV → List R.Obj → Option (List Elm)
  | [.imm (.E l0)], [] => some l0
  | _, _ => none
def spec_l13OwnListElement.tw : Tw := ⟨122, List Elm, List Elm, spec_l13OwnListElement.dec, fun a => [.imm (.E a)], fun a => [], fun k a => spec_l13OwnListElement.f k a, fun a r => spec_l13OwnListElement.en r⟩
theorem spec_l13OwnListElement.dok : spec_l13OwnListElement.tw.DecOk := by
  intro args hc a h
  have h : spec_l13OwnListElement.dec args hc = some a := h
  unfold spec_l13OwnListElement.dec at h
  split at h
  · cases h; exact ⟨rfl, rfl⟩
  · cases h
noncomputable def spec_l13OwnListElement.O (k : Nat) : Oracle := (spec_l13OwnElement.tw.orc k noO)
def spec_l13OwnListElement.fh : FH := ⟨fun i => match i with | 3 => some [(3, 0), (7, 0), (8, 0), (9, 0)] | _ => none, [(true, 82)], false⟩
noncomputable def spec_l13OwnListElement.x0 (k : Nat) (y0 : List Elm) (x7 : List Elm) (x8 : Int) (x9 : Int) : Option Res := R.exec Try.prog xhn spec_l13OwnListElement.O 0 Try.f122 spec_l13OwnListElement.fh k (R.point Try.f122 3) ⟨[(3, .sl 0 0), (7, .imm (.E x7)), (8, .int .i64 x8), (9, .int .i64 x9)], [(0, .arr 82 0 (.E y0) false)], 3⟩
set_option maxRecDepth 100000 in
theorem spec_l13OwnListElement.e0 (k : Nat) (y0 : List Elm) (x7 : List Elm) (x8 : Int) (x9 : Int) : spec_l13OwnListElement.x0 (k + 1) y0 x7 x8 x9 = (if x9 < x8 then (if 0 ≤ x9 then (if x9 < (x7.length : Int) then ((spec_l13OwnElement.f ((rdE x7 x9).f0) ((rdE x7 x9).f1) ((rdE x7 x9).f2)).bind fun t1 => (if y0.length < 2932031007402 then (spec_l13OwnListElement.x0 k (y0 ++ [(⟨t1.1, t1.2.1, t1.2.2⟩ : Elm)]) x7 x8 (wr64 (x9 + 1))) else none)) else none) else none) else (some (spec_l13OwnListElement.en y0))) := by kernel_rfl
set_option maxRecDepth 100000 in
theorem spec_l13OwnListElement.ef (k : Nat) (l0 : List Elm) : R.start Try.prog xhn spec_l13OwnListElement.O 0 Try.f122 spec_l13OwnListElement.fh k [.imm (.E l0)] [] = (spec_l13OwnListElement.x0 k ([] : List Elm) l0 (l0.length : Int) 0) := by kernel_rfl
theorem spec_l13OwnListElement.link : ∀ k, (∀ (y0 : List Elm) (x7 : List Elm) (x8 : Int) (x9 : Int), spec_l13OwnListElement.x0 k y0 x7 x8 x9 = (spec_l13OwnListElement.l0 k y0 x7 x8 x9).map (spec_l13OwnListElement.en))
  | 0 => fun _ _ _ _ => by simp only [spec_l13OwnListElement.l0, R.map_none]; rfl
  | k + 1 => by
    have ih0 := spec_l13OwnListElement.link k
    · intro y0 x7 x8 x9
      rw [spec_l13OwnListElement.e0]
      simp only [spec_l13OwnListElement.l0, R.map_ite, R.map_bind, R.map_none, R.map_some, R.wr64_eq, ← ih0]
theorem spec_l13OwnListElement.sf (k : Nat) (l0 : List Elm) : R.start Try.prog xhn spec_l13OwnListElement.O 0 Try.f122 spec_l13OwnListElement.fh k [.imm (.E l0)] [] = (spec_l13OwnListElement.f k l0).map (spec_l13OwnListElement.en) := by
  have ih0 := spec_l13OwnListElement.link k
  rw [spec_l13OwnListElement.ef]
  simp only [spec_l13OwnListElement.f, R.map_ite, R.map_bind, R.map_none, R.map_some, R.wr64_eq, ← ih0]
theorem spec_l13OwnListElement.ok (k : Nat) : spec_l13OwnListElement.tw.Ok Try.prog k := by
  intro a r h
  refine fn_ok (H := xhn) (fh := spec_l13OwnListElement.fh) (O := spec_l13OwnListElement.O) (k := k) Try.func122 (by kernel_rfl) (by kernel_rfl) (fun j _ => (Tw.orc_sound spec_l13OwnElement.dok (spec_l13OwnElement.ok j) noO_sound)) (by kernel_rfl) (m := 0) rfl ?_
  refine (spec_l13OwnListElement.sf k a).trans ?_
  exact congrArg (Option.map _) h
def spec_ElementsOf.f (k : Nat) (a0_0 : Int) (l0_1 : List Int) (l0_2 : List Int) (l0_3 : List Stp) : Option ((List Elm) × Bool) := ((spec_l8RawElementsOf.f k a0_0 l0_1 l0_2 l0_3).bind fun t1 => ((spec_l13OwnListElement.f k t1.1).bind fun t2 => (some (t2, t1.2))))
def spec_ElementsOf.en (r : (List Elm) × Bool) : Res := (.tup [.sl 0 0, .lit r.2], [.arr 82 0 (.E r.1) false])
def spec_ElementsOf.dec : List AV → List R.Obj → Option (Int × (List Int) × (List Int) × (List Stp))
  | [.agg [.int .i64 a0_0, .imm (.I .i64 l0_1), .imm (.I .i64 l0_2), .imm (.T l0_3)]], [] => some (a0_0, l0_1, l0_2, l0_3)
  | _, _ => none
def spec_ElementsOf.tw : Tw := ⟨64, Int × (List Int) × (List Int) × (List Stp), (List Elm) × Bool, spec_ElementsOf.dec, fun a => [.agg [.int .i64 a.1, .imm (.I .i64 a.2.1), .imm (.I .i64 a.2.2.1), .imm (.T a.2.2.2)]], fun a => [], fun k a => spec_ElementsOf.f k a.1 a.2.1 a.2.2.1 a.2.2.2, fun a r => spec_ElementsOf.en r⟩
theorem spec_ElementsOf.dok : spec_ElementsOf.tw.DecOk := by
  intro args hc a h
  have h : spec_ElementsOf.dec args hc = some a := h
  unfold spec_ElementsOf.dec at h
  split at h
  · cases h; exact ⟨rfl, rfl⟩
  · cases h
noncomputable def spec_ElementsOf.O (k : Nat) : Oracle := (spec_l8RawElementsOf.tw.orc k (spec_l13OwnListElement.tw.orc k noO))
def spec_ElementsOf.fh : FH := ⟨fun i => match i with | _ => none, [(true, 82)], false⟩
set_option maxRecDepth 100000 in
theorem spec_ElementsOf.ef (k : Nat) (a0_0 : Int) (l0_1 : List Int) (l0_2 : List Int) (l0_3 : List Stp) : R.start Try.prog xhn spec_ElementsOf.O 0 Try.f64 spec_ElementsOf.fh k [.agg [.int .i64 a0_0, .imm (.I .i64 l0_1), .imm (.I .i64 l0_2), .imm (.T l0_3)]] [] = ((spec_l8RawElementsOf.f k a0_0 l0_1 l0_2 l0_3).bind fun t1 => ((spec_l13OwnListElement.f k t1.1).bind fun t2 => (some (spec_ElementsOf.en (t2, t1.2))))) := by kernel_rfl
theorem spec_ElementsOf.sf (k : Nat) (a0_0 : Int) (l0_1 : List Int) (l0_2 : List Int) (l0_3 : List Stp) : R.start Try.prog xhn spec_ElementsOf.O 0 Try.f64 spec_ElementsOf.fh k [.agg [.int .i64 a0_0, .imm (.I .i64 l0_1), .imm (.I .i64 l0_2), .imm (.T l0_3)]] [] = (spec_ElementsOf.f k a0_0 l0_1 l0_2 l0_3).map (spec_ElementsOf.en) := by
  rw [spec_ElementsOf.ef]
  simp only [spec_ElementsOf.f, R.map_ite, R.map_bind, R.map_none, R.map_some, R.wr64_eq]
theorem spec_ElementsOf.ok (k : Nat) : spec_ElementsOf.tw.Ok Try.prog k := by
  intro a r h
  refine fn_ok (H := xhn) (fh := spec_ElementsOf.fh) (O := spec_ElementsOf.O) (k := k) Try.func64 (by kernel_rfl) (by kernel_rfl) (fun j _ => (Tw.orc_sound spec_l8RawElementsOf.dok (spec_l8RawElementsOf.ok j) (Tw.orc_sound spec_l13OwnListElement.dok (spec_l13OwnListElement.ok j) noO_sound))) (by kernel_rfl) (m := 0) rfl ?_
  refine (spec_ElementsOf.sf k a.1 a.2.1 a.2.2.1 a.2.2.2).trans ?_
  exact congrArg (Option.map _) h
def laws_daSame.l0 : Nat → (List Int) → (List Int) → Int → Int → Option (Bool)
  | 0, _, _, _, _ => none
  | k + 1, x0, x1, x10, x11 => (if x11 < x10 then (if 0 ≤ x11 then (if x11 < (x0.length : Int) then (if x11 < (x1.length : Int) then (if (rdI x0 x11) = (rdI x1 x11) then (laws_daSame.l0 k x0 x1 x10 (wrap64 (x11 + 1))) else (some false)) else none) else none) else none) else (some (decide ((x0.length : Int) = (x1.length : Int)))))
def laws_daSame.f (k : Nat) (l0 : List Int) (l1 : List Int) : Option (Bool) := (laws_daSame.l0 k l0 l1 (mn (l0.length : Int) (l1.length : Int)) 0)
def laws_daSame.en (r : Bool) : Res := (.lit r, [])
def laws_daSame.dec : List AV → List R.Obj → Option ((List Int) × (List Int))
  | [.imm (.I .i64 l0), .imm (.I .i64 l1)], [] => some (l0, l1)
  | _, _ => none
def laws_daSame.tw : Tw := ⟨33, (List Int) × (List Int), Bool, laws_daSame.dec, fun a => [.imm (.I .i64 a.1), .imm (.I .i64 a.2)], fun a => [], fun k a => laws_daSame.f k a.1 a.2, fun a r => laws_daSame.en r⟩
theorem laws_daSame.dok : laws_daSame.tw.DecOk := by
  intro args hc a h
  have h : laws_daSame.dec args hc = some a := h
  unfold laws_daSame.dec at h
  split at h
  · cases h; exact ⟨rfl, rfl⟩
  · cases h
noncomputable def laws_daSame.O (k : Nat) : Oracle := noO
def laws_daSame.fh : FH := ⟨fun i => match i with | 2 => some [(0, 0), (1, 0), (10, 0), (11, 0)] | _ => none, [], false⟩
noncomputable def laws_daSame.x0 (k : Nat) (x0 : List Int) (x1 : List Int) (x10 : Int) (x11 : Int) : Option Res := R.exec Try.prog xhn laws_daSame.O 0 Try.f33 laws_daSame.fh k (R.point Try.f33 2) ⟨[(0, .imm (.I .i64 x0)), (1, .imm (.I .i64 x1)), (10, .int .i64 x10), (11, .int .i64 x11)], [], 2⟩
set_option maxRecDepth 100000 in
theorem laws_daSame.e0 (k : Nat) (x0 : List Int) (x1 : List Int) (x10 : Int) (x11 : Int) : laws_daSame.x0 (k + 1) x0 x1 x10 x11 = (if x11 < x10 then (if 0 ≤ x11 then (if x11 < (x0.length : Int) then (if x11 < (x1.length : Int) then (if (rdI x0 x11) = (rdI x1 x11) then (laws_daSame.x0 k x0 x1 x10 (wr64 (x11 + 1))) else (some (laws_daSame.en false))) else none) else none) else none) else (some (laws_daSame.en (decide ((x0.length : Int) = (x1.length : Int)))))) := by
  refine Eq.trans ?_ (R.icong (fun h0 => (R.icong (fun h1 => (R.icong (fun h2 => (R.idropT (p := 0 ≤ x11) (z := none) h1 rfl)) (fun h2 => rfl))) (fun h1 => rfl))) (fun h0 => rfl))
  kernel_rfl
set_option maxRecDepth 100000 in
theorem laws_daSame.ef (k : Nat) (l0 : List Int) (l1 : List Int) : R.start Try.prog xhn laws_daSame.O 0 Try.f33 laws_daSame.fh k [.imm (.I .i64 l0), .imm (.I .i64 l1)] [] = (laws_daSame.x0 k l0 l1 (mn (l0.length : Int) (l1.length : Int)) 0) := by kernel_rfl
theorem laws_daSame.link : ∀ k, (∀ (x0 : List Int) (x1 : List Int) (x10 : Int) (x11 : Int), laws_daSame.x0 k x0 x1 x10 x11 = (laws_daSame.l0 k x0 x1 x10 x11).map (laws_daSame.en))
  | 0 => fun _ _ _ _ => by simp only [laws_daSame.l0, R.map_none]; rfl
  | k + 1 => by
    have ih0 := laws_daSame.link k
    · intro x0 x1 x10 x11
      rw [laws_daSame.e0]
      simp only [laws_daSame.l0, R.map_ite, R.map_bind, R.map_none, R.map_some, R.wr64_eq, ← ih0]
theorem laws_daSame.sf (k : Nat) (l0 : List Int) (l1 : List Int) : R.start Try.prog xhn laws_daSame.O 0 Try.f33 laws_daSame.fh k [.imm (.I .i64 l0), .imm (.I .i64 l1)] [] = (laws_daSame.f k l0 l1).map (laws_daSame.en) := by
  have ih0 := laws_daSame.link k
  rw [laws_daSame.ef]
  simp only [laws_daSame.f, R.map_ite, R.map_bind, R.map_none, R.map_some, R.wr64_eq, ← ih0]
theorem laws_daSame.ok (k : Nat) : laws_daSame.tw.Ok Try.prog k := by
  intro a r h
  refine fn_ok (H := xhn) (fh := laws_daSame.fh) (O := laws_daSame.O) (k := k) Try.func33 (by kernel_rfl) (by kernel_rfl) (fun j _ => noO_sound) (by kernel_rfl) (m := 0) rfl ?_
  refine (laws_daSame.sf k a.1 a.2).trans ?_
  exact congrArg (Option.map _) h
def laws_daMatrix.f (k : Nat) (a0_0 : Int) (l0_1 : List Int) (a1_0 : Int) (l1_1 : List Int) : Option (Bool) := (if a0_0 = a1_0 then ((laws_daSame.f k l0_1 l1_1).bind fun t1 => (some t1)) else (some false))
def laws_daMatrix.en (r : Bool) : Res := (.lit r, [])
def laws_daMatrix.dec : List AV → List R.Obj → Option (Int × (List Int) × Int × (List Int))
  | [.agg [.int .i64 a0_0, .imm (.I .i64 l0_1)], .agg [.int .i64 a1_0, .imm (.I .i64 l1_1)]], [] => some (a0_0, l0_1, a1_0, l1_1)
  | _, _ => none
def laws_daMatrix.tw : Tw := ⟨40, Int × (List Int) × Int × (List Int), Bool, laws_daMatrix.dec, fun a => [.agg [.int .i64 a.1, .imm (.I .i64 a.2.1)], .agg [.int .i64 a.2.2.1, .imm (.I .i64 a.2.2.2)]], fun a => [], fun k a => laws_daMatrix.f k a.1 a.2.1 a.2.2.1 a.2.2.2, fun a r => laws_daMatrix.en r⟩
theorem laws_daMatrix.dok : laws_daMatrix.tw.DecOk := by
  intro args hc a h
  have h : laws_daMatrix.dec args hc = some a := h
  unfold laws_daMatrix.dec at h
  split at h
  · cases h; exact ⟨rfl, rfl⟩
  · cases h
noncomputable def laws_daMatrix.O (k : Nat) : Oracle := (laws_daSame.tw.orc k noO)
def laws_daMatrix.fh : FH := ⟨fun i => match i with | _ => none, [], false⟩
set_option maxRecDepth 100000 in
theorem laws_daMatrix.ef (k : Nat) (a0_0 : Int) (l0_1 : List Int) (a1_0 : Int) (l1_1 : List Int) : R.start Try.prog xhn laws_daMatrix.O 0 Try.f40 laws_daMatrix.fh k [.agg [.int .i64 a0_0, .imm (.I .i64 l0_1)], .agg [.int .i64 a1_0, .imm (.I .i64 l1_1)]] [] = (if a0_0 = a1_0 then ((laws_daSame.f k l0_1 l1_1).bind fun t1 => (some (laws_daMatrix.en t1))) else (some (laws_daMatrix.en false))) := by kernel_rfl
theorem laws_daMatrix.sf (k : Nat) (a0_0 : Int) (l0_1 : List Int) (a1_0 : Int) (l1_1 : List Int) : R.start Try.prog xhn laws_daMatrix.O 0 Try.f40 laws_daMatrix.fh k [.agg [.int .i64 a0_0, .imm (.I .i64 l0_1)], .agg [.int .i64 a1_0, .imm (.I .i64 l1_1)]] [] = (laws_daMatrix.f k a0_0 l0_1 a1_0 l1_1).map (laws_daMatrix.en) := by
  rw [laws_daMatrix.ef]
  simp only [laws_daMatrix.f, R.map_ite, R.map_bind, R.map_none, R.map_some, R.wr64_eq]
theorem laws_daMatrix.ok (k : Nat) : laws_daMatrix.tw.Ok Try.prog k := by
  intro a r h
  refine fn_ok (H := xhn) (fh := laws_daMatrix.fh) (O := laws_daMatrix.O) (k := k) Try.func40 (by kernel_rfl) (by kernel_rfl) (fun j _ => (Tw.orc_sound laws_daSame.dok (laws_daSame.ok j) noO_sound)) (by kernel_rfl) (m := 0) rfl ?_
  refine (laws_daMatrix.sf k a.1 a.2.1 a.2.2.1 a.2.2.2).trans ?_
  exact congrArg (Option.map _) h
def laws_daIn.l0 : Nat → (List Elm) → Int → Int → Int → (List Int) → Option (Bool)
  | 0, _, _, _, _, _ => none
  | k + 1, x7, x8, x9, y0_0, y0_1 => (if x9 < x8 then (if 0 ≤ x9 then (if x9 < (x7.length : Int) then ((laws_daMatrix.f k ((rdE x7 x9).f0) ((rdE x7 x9).f1) y0_0 y0_1).bind fun t1 => (if t1 = true then (some true) else (laws_daIn.l0 k x7 x8 (wrap64 (x9 + 1)) y0_0 y0_1))) else none) else none) else (some false))
def laws_daIn.f (k : Nat) (l0 : List Elm) (a1_0 : Int) (l1_1 : List Int) : Option (Bool) := (laws_daIn.l0 k l0 (l0.length : Int) 0 a1_0 l1_1)
def laws_daIn.en (r : Bool) : Res := (.lit r, [])
def laws_daIn.dec : List AV → List R.Obj → Option ((List Elm) × Int × (List Int))
  | [.imm (.E l0), .agg [.int .i64 a1_0, .imm (.I .i64 l1_1)]], [] => some (l0, a1_0, l1_1)
  | _, _ => none
def laws_daIn.tw : Tw := ⟨67, (List Elm) × Int × (List Int), Bool, laws_daIn.dec, fun a => [.imm (.E a.1), .agg [.int .i64 a.2.1, .imm (.I .i64 a.2.2)]], fun a => [], fun k a => laws_daIn.f k a.1 a.2.1 a.2.2, fun a r => laws_daIn.en r⟩
theorem laws_daIn.dok : laws_daIn.tw.DecOk := by
  intro args hc a h
  have h : laws_daIn.dec args hc = some a := h
  unfold laws_daIn.dec at h
  split at h
  · cases h; exact ⟨rfl, rfl⟩
  · cases h
noncomputable def laws_daIn.O (k : Nat) : Oracle := (laws_daMatrix.tw.orc k noO)
def laws_daIn.fh : FH := ⟨fun i => match i with | 2 => some [(3, 0), (7, 0), (8, 0), (9, 0)] | _ => none, [], false⟩
noncomputable def laws_daIn.x0 (k : Nat) (x7 : List Elm) (x8 : Int) (x9 : Int) (y0_0 : Int) (y0_1 : List Int) : Option Res := R.exec Try.prog xhn laws_daIn.O 0 Try.f67 laws_daIn.fh k (R.point Try.f67 2) ⟨[(3, .ptr 0 0), (7, .imm (.E x7)), (8, .int .i64 x8), (9, .int .i64 x9)], [(0, .box false [.int .i64 y0_0, .imm (.I .i64 y0_1)])], 3⟩
set_option maxRecDepth 100000 in
theorem laws_daIn.e0 (k : Nat) (x7 : List Elm) (x8 : Int) (x9 : Int) (y0_0 : Int) (y0_1 : List Int) : laws_daIn.x0 (k + 1) x7 x8 x9 y0_0 y0_1 = (if x9 < x8 then (if 0 ≤ x9 then (if x9 < (x7.length : Int) then ((laws_daMatrix.f k ((rdE x7 x9).f0) ((rdE x7 x9).f1) y0_0 y0_1).bind fun t1 => (if t1 = true then (some (laws_daIn.en true)) else (laws_daIn.x0 k x7 x8 (wr64 (x9 + 1)) y0_0 y0_1))) else none) else none) else (some (laws_daIn.en false))) := by kernel_rfl
set_option maxRecDepth 100000 in
theorem laws_daIn.ef (k : Nat) (l0 : List Elm) (a1_0 : Int) (l1_1 : List Int) : R.start Try.prog xhn laws_daIn.O 0 Try.f67 laws_daIn.fh k [.imm (.E l0), .agg [.int .i64 a1_0, .imm (.I .i64 l1_1)]] [] = (laws_daIn.x0 k l0 (l0.length : Int) 0 a1_0 l1_1) := by kernel_rfl
theorem laws_daIn.link : ∀ k, (∀ (x7 : List Elm) (x8 : Int) (x9 : Int) (y0_0 : Int) (y0_1 : List Int), laws_daIn.x0 k x7 x8 x9 y0_0 y0_1 = (laws_daIn.l0 k x7 x8 x9 y0_0 y0_1).map (laws_daIn.en))
  | 0 => fun _ _ _ _ _ => by simp only [laws_daIn.l0, R.map_none]; rfl
  | k + 1 => by
    have ih0 := laws_daIn.link k
    · intro x7 x8 x9 y0_0 y0_1
      rw [laws_daIn.e0]
      simp only [laws_daIn.l0, R.map_ite, R.map_bind, R.map_none, R.map_some, R.wr64_eq, ← ih0]
theorem laws_daIn.sf (k : Nat) (l0 : List Elm) (a1_0 : Int) (l1_1 : List Int) : R.start Try.prog xhn laws_daIn.O 0 Try.f67 laws_daIn.fh k [.imm (.E l0), .agg [.int .i64 a1_0, .imm (.I .i64 l1_1)]] [] = (laws_daIn.f k l0 a1_0 l1_1).map (laws_daIn.en) := by
  have ih0 := laws_daIn.link k
  rw [laws_daIn.ef]
  simp only [laws_daIn.f, R.map_ite, R.map_bind, R.map_none, R.map_some, R.wr64_eq, ← ih0]
theorem laws_daIn.ok (k : Nat) : laws_daIn.tw.Ok Try.prog k := by
  intro a r h
  refine fn_ok (H := xhn) (fh := laws_daIn.fh) (O := laws_daIn.O) (k := k) Try.func67 (by kernel_rfl) (by kernel_rfl) (fun j _ => (Tw.orc_sound laws_daMatrix.dok (laws_daMatrix.ok j) noO_sound)) (by kernel_rfl) (m := 0) rfl ?_
  refine (laws_daIn.sf k a.1 a.2.1 a.2.2).trans ?_
  exact congrArg (Option.map _) h
mutual
def laws_FnElements.l0 : Nat → (List Int) → (List Elm) → (List Elm) → (List Elm) → Int → Int → Int → (List Int) → (List Int) → (List Stp) → Option (Bool)
  | 0, _, _, _, _, _, _, _, _, _, _ => none
  | k + 1, x1, x6, y1, x67, x68, x69, y0_0, y0_1, y0_2, y0_3 => (if x69 < x68 then (if 0 ≤ x69 then (if x69 < (x67.length : Int) then ((impl_ValueOf.f k y0_0 y0_1 y0_2 y0_3 ((rdE x67 x69).f2)).bind fun t4 => (if x69 < (y1.length : Int) then (if (rdE x67 x69).f2.toList = (rdE y1 x69).f2.toList then ((laws_daMatrix.f k ((rdE x67 x69).f0) ((rdE x67 x69).f1) ((rdE y1 x69).f0) ((rdE y1 x69).f1)).bind fun t5 => (if t5 = true then (if t4.2.2 = true then ((laws_daMatrix.f k t4.1 t4.2.1 ((rdE x67 x69).f0) ((rdE x67 x69).f1)).bind fun t6 => (if t6 = true then (if x69 ≤ (x6.length : Int) then (laws_FnElements.l1 k x1 x6 y1 x67 x68 x69 ((x6.drop 0).take (x69.toNat - 0)) (((x6.drop 0).take (x69.toNat - 0)).length : Int) 0 y0_0 y0_1 y0_2 y0_3 ((rdE x67 x69).f0) ((rdE x67 x69).f1) ((rdE x67 x69).f2)) else none) else (some false))) else (some false)) else (some false))) else (some false)) else none)) else none) else none) else (if (x6.length : Int) = 0 then none else (if 0 ≤ ((x1.length : Int).tmod (x6.length : Int)) then (if ((x1.length : Int).tmod (x6.length : Int)) < (x6.length : Int) then ((impl_Stabilise.f k ((rdE x6 ((x1.length : Int).tmod (x6.length : Int))).f0) ((rdE x6 ((x1.length : Int).tmod (x6.length : Int))).f1)).bind fun t7 => (if t7.2.2 = true then ((laws_daIn.f k x6 t7.1 t7.2.1).bind fun t8 => (if t8 = true then (laws_FnElements.l2 k x6 x6 (x6.length : Int) 0 ((rdE x6 ((x1.length : Int).tmod (x6.length : Int))).f0) ((rdE x6 ((x1.length : Int).tmod (x6.length : Int))).f1) ((rdE x6 ((x1.length : Int).tmod (x6.length : Int))).f2)) else (some false))) else (laws_FnElements.l2 k x6 x6 (x6.length : Int) 0 ((rdE x6 ((x1.length : Int).tmod (x6.length : Int))).f0) ((rdE x6 ((x1.length : Int).tmod (x6.length : Int))).f1) ((rdE x6 ((x1.length : Int).tmod (x6.length : Int))).f2)))) else none) else none)))
def laws_FnElements.l1 : Nat → (List Int) → (List Elm) → (List Elm) → (List Elm) → Int → Int → (List Elm) → Int → Int → Int → (List Int) → (List Int) → (List Stp) → Int → (List Int) → ByteArray → Option (Bool)
  | 0, _, _, _, _, _, _, _, _, _, _, _, _, _, _, _, _ => none
  | k + 1, x1, x6, y1, x67, x68, x69, x113, x114, x115, y0_0, y0_1, y0_2, y0_3, y2_0, y2_1, y2_2 => (if x115 < x114 then (if 0 ≤ x115 then (if x115 < (x113.length : Int) then ((laws_daMatrix.f k y2_0 y2_1 ((rdE x113 x115).f0) ((rdE x113 x115).f1)).bind fun t9 => (if t9 = true then (some false) else (laws_FnElements.l1 k x1 x6 y1 x67 x68 x69 x113 x114 (wrap64 (x115 + 1)) y0_0 y0_1 y0_2 y0_3 y2_0 y2_1 y2_2))) else none) else none) else (laws_FnElements.l0 k x1 x6 y1 x67 x68 (wrap64 (x69 + 1)) y0_0 y0_1 y0_2 y0_3))
def laws_FnElements.l2 : Nat → (List Elm) → (List Elm) → Int → Int → Int → (List Int) → ByteArray → Option (Bool)
  | 0, _, _, _, _, _, _, _ => none
  | k + 1, x6, x147, x148, x149, y0_0, y0_1, y0_2 => (if x149 < x148 then (if 0 ≤ x149 then (if x149 < (x147.length : Int) then ((impl_MulGrades.f k y0_0 y0_1 ((rdE x147 x149).f0) ((rdE x147 x149).f1)).bind fun t10 => ((laws_daIn.f k x6 t10.1 t10.2.1).bind fun t11 => (if t11 = true then (laws_FnElements.l2 k x6 x147 x148 (wrap64 (x149 + 1)) y0_0 y0_1 y0_2) else (some false)))) else none) else none) else (some true))
end
def laws_FnElements.f (k : Nat) (l0 : List Int) (l1 : List Int) : Option (Bool) := (if (l0.length : Int) > 1048576 then (some true) else (if (l1.length : Int) > 1048576 then (some true) else ((spec_DrawElementsOf.f k l0).bind fun t1 => ((impl_ElementsOf.f k t1.1 t1.2.1 t1.2.2.1 t1.2.2.2).bind fun t2 => ((spec_ElementsOf.f k t1.1 t1.2.1 t1.2.2.1 t1.2.2.2).bind fun t3 => (if (t2.1.length : Int) = (t3.1.length : Int) then (if (t2.2 != t3.2) = true then (some (t2.2 == t3.2)) else (if t2.2 = true then (laws_FnElements.l0 k l1 t2.1 t3.1 t2.1 (t2.1.length : Int) 0 t1.1 t1.2.1 t1.2.2.1 t1.2.2.2) else (some (t2.2 == t3.2)))) else (some false)))))))
def laws_FnElements.en (r : Bool) : Res := (.lit r, [])
def laws_FnElements.dec : List AV → List R.Obj → Option ((List Int) × (List Int))
  | [.imm (.I .u8 l0), .imm (.I .u8 l1)], [] => some (l0, l1)
  | _, _ => none
def laws_FnElements.tw : Tw := ⟨11, (List Int) × (List Int), Bool, laws_FnElements.dec, fun a => [.imm (.I .u8 a.1), .imm (.I .u8 a.2)], fun a => [], fun k a => laws_FnElements.f k a.1 a.2, fun a r => laws_FnElements.en r⟩
theorem laws_FnElements.dok : laws_FnElements.tw.DecOk := by
  intro args hc a h
  have h : laws_FnElements.dec args hc = some a := h
  unfold laws_FnElements.dec at h
  split at h
  · cases h; exact ⟨rfl, rfl⟩
  · cases h
noncomputable def laws_FnElements.O (k : Nat) : Oracle := (spec_DrawElementsOf.tw.orc k (impl_ElementsOf.tw.orc k (spec_ElementsOf.tw.orc k (impl_ValueOf.tw.orc k (laws_daMatrix.tw.orc k (impl_Stabilise.tw.orc k (laws_daIn.tw.orc k (impl_MulGrades.tw.orc k noO))))))))
def laws_FnElements.fh : FH := ⟨fun i => match i with | 9 => some [(1, 0), (5, 0), (6, 0), (8, 0), (67, 0), (68, 0), (69, 0)] | 15 => some [(1, 0), (5, 0), (6, 0), (8, 0), (11, 0), (67, 0), (68, 0), (69, 0), (113, 0), (114, 0), (115, 0)] | 26 => some [(6, 0), (16, 0), (147, 0), (148, 0), (149, 0)] | _ => none, [], false⟩
noncomputable def laws_FnElements.x0 (k : Nat) (x1 : List Int) (x6 : List Elm) (y1 : List Elm) (x67 : List Elm) (x68 : Int) (x69 : Int) (y0_0 : Int) (y0_1 : List Int) (y0_2 : List Int) (y0_3 : List Stp) : Option Res := R.exec Try.prog xhn laws_FnElements.O 0 Try.f11 laws_FnElements.fh k (R.point Try.f11 9) ⟨[(1, .imm (.I .u8 x1)), (5, .ptr 0 0), (6, .imm (.E x6)), (8, .sl 1 0), (67, .imm (.E x67)), (68, .int .i64 x68), (69, .int .i64 x69)], [(0, .box false [.int .i64 y0_0, .imm (.I .i64 y0_1), .imm (.I .i64 y0_2), .imm (.T y0_3)]), (1, .arr 82 0 (.E y1) false)], 4⟩
noncomputable def laws_FnElements.x1 (k : Nat) (x1 : List Int) (x6 : List Elm) (y1 : List Elm) (x67 : List Elm) (x68 : Int) (x69 : Int) (x113 : List Elm) (x114 : Int) (x115 : Int) (y0_0 : Int) (y0_1 : List Int) (y0_2 : List Int) (y0_3 : List Stp) (y2_0 : Int) (y2_1 : List Int) (y2_2 : ByteArray) : Option Res := R.exec Try.prog xhn laws_FnElements.O 0 Try.f11 laws_FnElements.fh k (R.point Try.f11 15) ⟨[(1, .imm (.I .u8 x1)), (5, .ptr 0 0), (6, .imm (.E x6)), (8, .sl 1 0), (11, .ptr 2 0), (67, .imm (.E x67)), (68, .int .i64 x68), (69, .int .i64 x69), (113, .imm (.E x113)), (114, .int .i64 x114), (115, .int .i64 x115)], [(0, .box false [.int .i64 y0_0, .imm (.I .i64 y0_1), .imm (.I .i64 y0_2), .imm (.T y0_3)]), (1, .arr 82 0 (.E y1) false), (2, .box false [.int .i64 y2_0, .imm (.I .i64 y2_1), .str y2_2])], 5⟩
noncomputable def laws_FnElements.x2 (k : Nat) (x6 : List Elm) (x147 : List Elm) (x148 : Int) (x149 : Int) (y0_0 : Int) (y0_1 : List Int) (y0_2 : ByteArray) : Option Res := R.exec Try.prog xhn laws_FnElements.O 0 Try.f11 laws_FnElements.fh k (R.point Try.f11 26) ⟨[(6, .imm (.E x6)), (16, .ptr 0 0), (147, .imm (.E x147)), (148, .int .i64 x148), (149, .int .i64 x149)], [(0, .box false [.int .i64 y0_0, .imm (.I .i64 y0_1), .str y0_2])], 3⟩
set_option maxRecDepth 100000 in
theorem laws_FnElements.e0 (k : Nat) (x1 : List Int) (x6 : List Elm) (y1 : List Elm) (x67 : List Elm) (x68 : Int) (x69 : Int) (y0_0 : Int) (y0_1 : List Int) (y0_2 : List Int) (y0_3 : List Stp) : laws_FnElements.x0 (k + 1) x1 x6 y1 x67 x68 x69 y0_0 y0_1 y0_2 y0_3 = (if x69 < x68 then (if 0 ≤ x69 then (if x69 < (x67.length : Int) then ((impl_ValueOf.f k y0_0 y0_1 y0_2 y0_3 ((rdE x67 x69).f2)).bind fun t4 => (if x69 < (y1.length : Int) then (if (rdE x67 x69).f2.toList = (rdE y1 x69).f2.toList then ((laws_daMatrix.f k ((rdE x67 x69).f0) ((rdE x67 x69).f1) ((rdE y1 x69).f0) ((rdE y1 x69).f1)).bind fun t5 => (if t5 = true then (if t4.2.2 = true then ((laws_daMatrix.f k t4.1 t4.2.1 ((rdE x67 x69).f0) ((rdE x67 x69).f1)).bind fun t6 => (if t6 = true then (if x69 ≤ (x6.length : Int) then (laws_FnElements.x1 k x1 x6 y1 x67 x68 x69 ((x6.drop 0).take (x69.toNat - 0)) (((x6.drop 0).take (x69.toNat - 0)).length : Int) 0 y0_0 y0_1 y0_2 y0_3 ((rdE x67 x69).f0) ((rdE x67 x69).f1) ((rdE x67 x69).f2)) else none) else (some (laws_FnElements.en false)))) else (some (laws_FnElements.en false))) else (some (laws_FnElements.en false)))) else (some (laws_FnElements.en false))) else none)) else none) else none) else (if (x6.length : Int) = 0 then none else (if 0 ≤ ((x1.length : Int).tmod (x6.length : Int)) then (if ((x1.length : Int).tmod (x6.length : Int)) < (x6.length : Int) then ((impl_Stabilise.f k ((rdE x6 ((x1.length : Int).tmod (x6.length : Int))).f0) ((rdE x6 ((x1.length : Int).tmod (x6.length : Int))).f1)).bind fun t7 => (if t7.2.2 = true then ((laws_daIn.f k x6 t7.1 t7.2.1).bind fun t8 => (if t8 = true then (laws_FnElements.x2 k x6 x6 (x6.length : Int) 0 ((rdE x6 ((x1.length : Int).tmod (x6.length : Int))).f0) ((rdE x6 ((x1.length : Int).tmod (x6.length : Int))).f1) ((rdE x6 ((x1.length : Int).tmod (x6.length : Int))).f2)) else (some (laws_FnElements.en false)))) else (laws_FnElements.x2 k x6 x6 (x6.length : Int) 0 ((rdE x6 ((x1.length : Int).tmod (x6.length : Int))).f0) ((rdE x6 ((x1.length : Int).tmod (x6.length : Int))).f1) ((rdE x6 ((x1.length : Int).tmod (x6.length : Int))).f2)))) else none) else none))) := by
  refine Eq.trans ?_ (R.icong (fun h0 => (R.icong (fun h1 => (R.icong (fun h2 => (R.bcong fun t4 => (R.idropT (p := 0 ≤ x69) (z := none) h1 (R.icong (fun h3 => (R.icong (fun h4 => (R.idropT (p := 0 ≤ x69) (z := none) h1 (R.idropT (p := x69 < (y1.length : Int)) (z := none) h3 (R.bcong fun t5 => (R.icong (fun h5 => (R.icong (fun h6 => (R.bcong fun t6 => (R.icong (fun h7 => (R.idropT (p := 0 ≤ x69) (z := none) h1 rfl)) (fun h7 => rfl)))) (fun h6 => rfl))) (fun h5 => rfl)))))) (fun h4 => rfl))) (fun h3 => rfl))))) (fun h2 => rfl))) (fun h1 => rfl))) (fun h0 => rfl))
  kernel_rfl
set_option maxRecDepth 100000 in
theorem laws_FnElements.e1 (k : Nat) (x1 : List Int) (x6 : List Elm) (y1 : List Elm) (x67 : List Elm) (x68 : Int) (x69 : Int) (x113 : List Elm) (x114 : Int) (x115 : Int) (y0_0 : Int) (y0_1 : List Int) (y0_2 : List Int) (y0_3 : List Stp) (y2_0 : Int) (y2_1 : List Int) (y2_2 : ByteArray) : laws_FnElements.x1 (k + 1) x1 x6 y1 x67 x68 x69 x113 x114 x115 y0_0 y0_1 y0_2 y0_3 y2_0 y2_1 y2_2 = (if x115 < x114 then (if 0 ≤ x115 then (if x115 < (x113.length : Int) then ((laws_daMatrix.f k y2_0 y2_1 ((rdE x113 x115).f0) ((rdE x113 x115).f1)).bind fun t9 => (if t9 = true then (some (laws_FnElements.en false)) else (laws_FnElements.x1 k x1 x6 y1 x67 x68 x69 x113 x114 (wr64 (x115 + 1)) y0_0 y0_1 y0_2 y0_3 y2_0 y2_1 y2_2))) else none) else none) else (laws_FnElements.x0 k x1 x6 y1 x67 x68 (wr64 (x69 + 1)) y0_0 y0_1 y0_2 y0_3)) := by kernel_rfl
set_option maxRecDepth 100000 in
theorem laws_FnElements.e2 (k : Nat) (x6 : List Elm) (x147 : List Elm) (x148 : Int) (x149 : Int) (y0_0 : Int) (y0_1 : List Int) (y0_2 : ByteArray) : laws_FnElements.x2 (k + 1) x6 x147 x148 x149 y0_0 y0_1 y0_2 = (if x149 < x148 then (if 0 ≤ x149 then (if x149 < (x147.length : Int) then ((impl_MulGrades.f k y0_0 y0_1 ((rdE x147 x149).f0) ((rdE x147 x149).f1)).bind fun t10 => ((laws_daIn.f k x6 t10.1 t10.2.1).bind fun t11 => (if t11 = true then (laws_FnElements.x2 k x6 x147 x148 (wr64 (x149 + 1)) y0_0 y0_1 y0_2) else (some (laws_FnElements.en false))))) else none) else none) else (some (laws_FnElements.en true))) := by kernel_rfl
set_option maxRecDepth 100000 in
theorem laws_FnElements.ef (k : Nat) (l0 : List Int) (l1 : List Int) : R.start Try.prog xhn laws_FnElements.O 0 Try.f11 laws_FnElements.fh k [.imm (.I .u8 l0), .imm (.I .u8 l1)] [] = (if (l0.length : Int) > 1048576 then (some (laws_FnElements.en true)) else (if (l1.length : Int) > 1048576 then (some (laws_FnElements.en true)) else ((spec_DrawElementsOf.f k l0).bind fun t1 => ((impl_ElementsOf.f k t1.1 t1.2.1 t1.2.2.1 t1.2.2.2).bind fun t2 => ((spec_ElementsOf.f k t1.1 t1.2.1 t1.2.2.1 t1.2.2.2).bind fun t3 => (if (t2.1.length : Int) = (t3.1.length : Int) then (if (t2.2 != t3.2) = true then (some (laws_FnElements.en (t2.2 == t3.2))) else (if t2.2 = true then (laws_FnElements.x0 k l1 t2.1 t3.1 t2.1 (t2.1.length : Int) 0 t1.1 t1.2.1 t1.2.2.1 t1.2.2.2) else (some (laws_FnElements.en (t2.2 == t3.2))))) else (some (laws_FnElements.en false)))))))) := by
  refine Eq.trans ?_ (R.icong (fun h0 => rfl) (fun h0 => (R.icong (fun h1 => rfl) (fun h1 => (R.bcong fun t1 => (R.bcong fun t2 => (R.bcong fun t3 => (R.icong (fun h2 => (R.icong (fun h3 => (R.idropT (p := (t2.1.length : Int) = (t3.1.length : Int)) (z := (some (laws_FnElements.en false))) h2 rfl)) (fun h3 => (R.icong (fun h4 => rfl) (fun h4 => (R.idropT (p := (t2.1.length : Int) = (t3.1.length : Int)) (z := (some (laws_FnElements.en false))) h2 rfl)))))) (fun h2 => (R.idropF (p := (t2.1.length : Int) = (t3.1.length : Int)) (z := (some (laws_FnElements.en (t2.2 == t3.2)))) h2 rfl))))))))))
  kernel_rfl
theorem laws_FnElements.link : ∀ k, (∀ (x1 : List Int) (x6 : List Elm) (y1 : List Elm) (x67 : List Elm) (x68 : Int) (x69 : Int) (y0_0 : Int) (y0_1 : List Int) (y0_2 : List Int) (y0_3 : List Stp), laws_FnElements.x0 k x1 x6 y1 x67 x68 x69 y0_0 y0_1 y0_2 y0_3 = (laws_FnElements.l0 k x1 x6 y1 x67 x68 x69 y0_0 y0_1 y0_2 y0_3).map (laws_FnElements.en)) ∧ (∀ (x1 : List Int) (x6 : List Elm) (y1 : List Elm) (x67 : List Elm) (x68 : Int) (x69 : Int) (x113 : List Elm) (x114 : Int) (x115 : Int) (y0_0 : Int) (y0_1 : List Int) (y0_2 : List Int) (y0_3 : List Stp) (y2_0 : Int) (y2_1 : List Int) (y2_2 : ByteArray), laws_FnElements.x1 k x1 x6 y1 x67 x68 x69 x113 x114 x115 y0_0 y0_1 y0_2 y0_3 y2_0 y2_1 y2_2 = (laws_FnElements.l1 k x1 x6 y1 x67 x68 x69 x113 x114 x115 y0_0 y0_1 y0_2 y0_3 y2_0 y2_1 y2_2).map (laws_FnElements.en)) ∧ (∀ (x6 : List Elm) (x147 : List Elm) (x148 : Int) (x149 : Int) (y0_0 : Int) (y0_1 : List Int) (y0_2 : ByteArray), laws_FnElements.x2 k x6 x147 x148 x149 y0_0 y0_1 y0_2 = (laws_FnElements.l2 k x6 x147 x148 x149 y0_0 y0_1 y0_2).map (laws_FnElements.en))
  | 0 => ⟨fun _ _ _ _ _ _ _ _ _ _ => by simp only [laws_FnElements.l0, R.map_none]; rfl, fun _ _ _ _ _ _ _ _ _ _ _ _ _ _ _ _ => by simp only [laws_FnElements.l1, R.map_none]; rfl, fun _ _ _ _ _ _ _ => by simp only [laws_FnElements.l2, R.map_none]; rfl⟩
  | k + 1 => by
    obtain ⟨ih0, ih1, ih2⟩ := laws_FnElements.link k
    refine ⟨?_, ?_, ?_⟩
    · intro x1 x6 y1 x67 x68 x69 y0_0 y0_1 y0_2 y0_3
      rw [laws_FnElements.e0]
      simp only [laws_FnElements.l0, R.map_ite, R.map_bind, R.map_none, R.map_some, R.wr64_eq, ← ih0, ← ih1, ← ih2]
    · intro x1 x6 y1 x67 x68 x69 x113 x114 x115 y0_0 y0_1 y0_2 y0_3 y2_0 y2_1 y2_2
      rw [laws_FnElements.e1]
      simp only [laws_FnElements.l1, R.map_ite, R.map_bind, R.map_none, R.map_some, R.wr64_eq, ← ih0, ← ih1, ← ih2]
    · intro x6 x147 x148 x149 y0_0 y0_1 y0_2
      rw [laws_FnElements.e2]
      simp only [laws_FnElements.l2, R.map_ite, R.map_bind, R.map_none, R.map_some, R.wr64_eq, ← ih0, ← ih1, ← ih2]
theorem laws_FnElements.sf (k : Nat) (l0 : List Int) (l1 : List Int) : R.start Try.prog xhn laws_FnElements.O 0 Try.f11 laws_FnElements.fh k [.imm (.I .u8 l0), .imm (.I .u8 l1)] [] = (laws_FnElements.f k l0 l1).map (laws_FnElements.en) := by
  obtain ⟨ih0, ih1, ih2⟩ := laws_FnElements.link k
  rw [laws_FnElements.ef]
  simp only [laws_FnElements.f, R.map_ite, R.map_bind, R.map_none, R.map_some, R.wr64_eq, ← ih0, ← ih1, ← ih2]
theorem laws_FnElements.ok (k : Nat) : laws_FnElements.tw.Ok Try.prog k := by
  intro a r h
  refine fn_ok (H := xhn) (fh := laws_FnElements.fh) (O := laws_FnElements.O) (k := k) Try.func11 (by kernel_rfl) (by kernel_rfl) (fun j _ => (Tw.orc_sound spec_DrawElementsOf.dok (spec_DrawElementsOf.ok j) (Tw.orc_sound impl_ElementsOf.dok (impl_ElementsOf.ok j) (Tw.orc_sound spec_ElementsOf.dok (spec_ElementsOf.ok j) (Tw.orc_sound impl_ValueOf.dok (impl_ValueOf.ok j) (Tw.orc_sound laws_daMatrix.dok (laws_daMatrix.ok j) (Tw.orc_sound impl_Stabilise.dok (impl_Stabilise.ok j) (Tw.orc_sound laws_daIn.dok (laws_daIn.ok j) (Tw.orc_sound impl_MulGrades.dok (impl_MulGrades.ok j) noO_sound))))))))) (by kernel_rfl) (m := 0) rfl ?_
  refine (laws_FnElements.sf k a.1 a.2).trans ?_
  exact congrArg (Option.map _) h
end Go.Proofs.Ytaaajdlgmllhaaa.V
end
