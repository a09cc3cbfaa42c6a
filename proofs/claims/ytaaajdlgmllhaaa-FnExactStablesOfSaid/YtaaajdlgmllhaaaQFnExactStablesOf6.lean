import Derived.Test.YtaaajdlgmllhaaaQFnExactStablesOf5
import Derived.Test.YtaaajdlgmllhaaaQFnExactStablesOf4
import Derived.Test.YtaaajdlgmllhaaaProg
import Derived.WalkKit
import Derived.ProofKit
import Derived.Lib.Bytealg
import Derived.Test.YtaaajdlgmllhaaaQFnExactStablesOf2
import Derived.Below
section
set_option linter.unusedVariables false
set_option linter.unusedSimpArgs false
namespace Go.Proofs.Ytaaajdlgmllhaaa.V
open Go Go.Proofs.Ytaaajdlgmllhaaa.R Go.RowKit
def impl_GradesOf_1.f (a0 : Int) (a1 : Int) (a3_0 : Int) (l3_1 : List Int) : Option (Int) := ((impl_Matrix_at.f a3_0 l3_1 a0 a1).bind fun t1 => (if t1 = 0 then (some 0) else (if t1 = 1000000 then (some 3) else (some 1))))
def impl_GradesOf_1.en (a3_0 : Int) (l3_1 : List Int) (r : Int) : Res := (.int .i64 r, [.box true [.int .i64 a3_0, .imm (.I .i64 l3_1)]])
def impl_GradesOf_1.dec : List AV → List R.Obj → Option (Int × Int × Int × (List Int))
  | [.int .i64 a0, .int .i64 a1, .ptr 0 0], [.box true [.int .i64 a3_0, .imm (.I .i64 l3_1)]] => some (a0, a1, a3_0, l3_1)
  | _, _ => none
def impl_GradesOf_1.tw : Tw := ⟨108, Int × Int × Int × (List Int), Int, impl_GradesOf_1.dec, fun a => [.int .i64 a.1, .int .i64 a.2.1, .ptr 0 0], fun a => [.box true [.int .i64 a.2.2.1, .imm (.I .i64 a.2.2.2)]], fun k a => impl_GradesOf_1.f a.1 a.2.1 a.2.2.1 a.2.2.2, fun a r => impl_GradesOf_1.en a.2.2.1 a.2.2.2 r⟩
theorem impl_GradesOf_1.dok : impl_GradesOf_1.tw.DecOk := by
  intro args hc a h
  have h : impl_GradesOf_1.dec args hc = some a := h
  unfold impl_GradesOf_1.dec at h
  split at h
  · cases h; exact ⟨rfl, rfl⟩
  · cases h
noncomputable def impl_GradesOf_1.O (k : Nat) : Oracle := (impl_Matrix_at.tw.orc k noO)
def impl_GradesOf_1.fh : FH := ⟨fun i => match i with | _ => none, [], false⟩
set_option maxRecDepth 100000 in
theorem impl_GradesOf_1.ef (k : Nat) (a0 : Int) (a1 : Int) (a3_0 : Int) (l3_1 : List Int) : R.start Try.prog xhn impl_GradesOf_1.O 1 Try.f108 impl_GradesOf_1.fh k [.int .i64 a0, .int .i64 a1, .ptr 0 0] [.box true [.int .i64 a3_0, .imm (.I .i64 l3_1)]] = ((impl_Matrix_at.f a3_0 l3_1 a0 a1).bind fun t1 => (if t1 = 0 then (some (impl_GradesOf_1.en a3_0 l3_1 0)) else (if t1 = 1000000 then (some (impl_GradesOf_1.en a3_0 l3_1 3)) else (some (impl_GradesOf_1.en a3_0 l3_1 1))))) := by kernel_rfl
theorem impl_GradesOf_1.sf (k : Nat) (a0 : Int) (a1 : Int) (a3_0 : Int) (l3_1 : List Int) : R.start Try.prog xhn impl_GradesOf_1.O 1 Try.f108 impl_GradesOf_1.fh k [.int .i64 a0, .int .i64 a1, .ptr 0 0] [.box true [.int .i64 a3_0, .imm (.I .i64 l3_1)]] = (impl_GradesOf_1.f a0 a1 a3_0 l3_1).map (impl_GradesOf_1.en a3_0 l3_1) := by
  rw [impl_GradesOf_1.ef]
  simp only [impl_GradesOf_1.f, R.map_ite, R.map_bind, R.map_none, R.map_some]
theorem impl_GradesOf_1.ok (k : Nat) : impl_GradesOf_1.tw.Ok Try.prog k := by
  intro a r h
  refine fn_ok (H := xhn) (fh := impl_GradesOf_1.fh) (O := impl_GradesOf_1.O) (k := k) Try.func108 (by kernel_rfl) (by kernel_rfl) (fun j _ => (Tw.orc_sound impl_Matrix_at.dok (impl_Matrix_at.ok j) noO_sound)) (by kernel_rfl) (m := 1) rfl ?_
  refine (impl_GradesOf_1.sf k a.1 a.2.1 a.2.2.1 a.2.2.2).trans ?_
  exact congrArg (Option.map _) h
mutual
def impl_filled_b.l0 : Nat → Int → Int → Int → Int → (List Int) → Int → (List Int) → Option (Int × (List Int))
  | 0, _, _, _, _, _, _, _ => none
  | k + 1, x0, x10, x11, y0_0, y0_1, y2_0, y4 => (if x11 < x10 then (impl_filled_b.l1 k x0 x11 x10 x11 x0 0 y0_0 y0_1 y2_0 y4) else (some (y2_0, y4)))
def impl_filled_b.l1 : Nat → Int → Int → Int → Int → Int → Int → Int → (List Int) → Int → (List Int) → Option (Int × (List Int))
  | 0, _, _, _, _, _, _, _, _, _, _ => none
  | k + 1, x0, x6, x10, x11, x14, x15, y0_0, y0_1, y2_0, y4 => (if x15 < x14 then ((impl_GradesOf_1.f x6 x15 y0_0 y0_1).bind fun t1 => (if y4.length < 17592186044416 then (impl_filled_b.l1 k x0 x6 x10 x11 x14 (wrap64 (x15 + 1)) y0_0 y0_1 y2_0 (y4 ++ [t1])) else none)) else (impl_filled_b.l0 k x0 x10 (wrap64 (x11 + 1)) y0_0 y0_1 y2_0 y4))
end
def impl_filled_b.f (k : Nat) (a0 : Int) (a2_0 : Int) (l2_1 : List Int) : Option (Int × (List Int)) := (impl_filled_b.l0 k a0 a0 0 a2_0 l2_1 a0 ([] : List Int))
def impl_filled_b.en (a2_0 : Int) (l2_1 : List Int) (r : Int × (List Int)) : Res := (.agg [.int .i64 r.1, .sl 1 0], [.box true [.int .i64 a2_0, .imm (.I .i64 l2_1)], .arr 3 0 (.I .i64 r.2) false])
def impl_filled_b.dec : List AV → List R.Obj → Option (Int × Int × (List Int))
  | [.int .i64 a0, .clo 108 [.ptr 0 0]], [.box true [.int .i64 a2_0, .imm (.I .i64 l2_1)]] => some (a0, a2_0, l2_1)
  | _, _ => none
def impl_filled_b.tw : Tw := ⟨107, Int × Int × (List Int), Int × (List Int), impl_filled_b.dec, fun a => [.int .i64 a.1, .clo 108 [.ptr 0 0]], fun a => [.box true [.int .i64 a.2.1, .imm (.I .i64 a.2.2)]], fun k a => impl_filled_b.f k a.1 a.2.1 a.2.2, fun a r => impl_filled_b.en a.2.1 a.2.2 r⟩
theorem impl_filled_b.dok : impl_filled_b.tw.DecOk := by
  intro args hc a h
  have h : impl_filled_b.dec args hc = some a := h
  unfold impl_filled_b.dec at h
  split at h
  · cases h; exact ⟨rfl, rfl⟩
  · cases h
noncomputable def impl_filled_b.O (k : Nat) : Oracle := (impl_GradesOf_1.tw.orc k noO)
def impl_filled_b.fh : FH := ⟨fun i => match i with | 3 => some [(0, 0), (1, 0), (4, 0), (5, 0), (10, 0), (11, 0)] | 6 => some [(0, 0), (1, 0), (4, 0), (5, 0), (6, 0), (10, 0), (11, 0), (14, 0), (15, 0)] | _ => none, [(true, 3)], false⟩
noncomputable def impl_filled_b.x0 (k : Nat) (x0 : Int) (x10 : Int) (x11 : Int) (y0_0 : Int) (y0_1 : List Int) (y2_0 : Int) (y4 : List Int) : Option Res := R.exec Try.prog xhn impl_filled_b.O 1 Try.f107 impl_filled_b.fh k (R.point Try.f107 3) ⟨[(0, .int .i64 x0), (1, .clo 108 [.ptr 0 0]), (4, .ptr 1 0), (5, .ptr 2 0), (10, .int .i64 x10), (11, .int .i64 x11)], [(0, .box true [.int .i64 y0_0, .imm (.I .i64 y0_1)]), (1, .box false [.int .i64 0, .sl 3 0]), (2, .box false [.int .i64 y2_0, .sl 4 0]), (3, .arr 3 0 (.I .i64 ([] : List Int)) false), (4, .arr 3 0 (.I .i64 y4) false)], 7⟩
noncomputable def impl_filled_b.x1 (k : Nat) (x0 : Int) (x6 : Int) (x10 : Int) (x11 : Int) (x14 : Int) (x15 : Int) (y0_0 : Int) (y0_1 : List Int) (y2_0 : Int) (y4 : List Int) : Option Res := R.exec Try.prog xhn impl_filled_b.O 1 Try.f107 impl_filled_b.fh k (R.point Try.f107 6) ⟨[(0, .int .i64 x0), (1, .clo 108 [.ptr 0 0]), (4, .ptr 1 0), (5, .ptr 2 0), (6, .int .i64 x6), (10, .int .i64 x10), (11, .int .i64 x11), (14, .int .i64 x14), (15, .int .i64 x15)], [(0, .box true [.int .i64 y0_0, .imm (.I .i64 y0_1)]), (1, .box false [.int .i64 0, .sl 3 0]), (2, .box false [.int .i64 y2_0, .sl 4 0]), (3, .arr 3 0 (.I .i64 ([] : List Int)) false), (4, .arr 3 0 (.I .i64 y4) false)], 7⟩
set_option maxRecDepth 100000 in
theorem impl_filled_b.e0 (k : Nat) (x0 : Int) (x10 : Int) (x11 : Int) (y0_0 : Int) (y0_1 : List Int) (y2_0 : Int) (y4 : List Int) : impl_filled_b.x0 (k + 1) x0 x10 x11 y0_0 y0_1 y2_0 y4 = (if x11 < x10 then (impl_filled_b.x1 k x0 x11 x10 x11 x0 0 y0_0 y0_1 y2_0 y4) else (some (impl_filled_b.en y0_0 y0_1 (y2_0, y4)))) := by kernel_rfl
set_option maxRecDepth 100000 in
theorem impl_filled_b.e1 (k : Nat) (x0 : Int) (x6 : Int) (x10 : Int) (x11 : Int) (x14 : Int) (x15 : Int) (y0_0 : Int) (y0_1 : List Int) (y2_0 : Int) (y4 : List Int) : impl_filled_b.x1 (k + 1) x0 x6 x10 x11 x14 x15 y0_0 y0_1 y2_0 y4 = (if x15 < x14 then ((impl_GradesOf_1.f x6 x15 y0_0 y0_1).bind fun t1 => (if y4.length < 17592186044416 then (impl_filled_b.x1 k x0 x6 x10 x11 x14 (wrap64 (x15 + 1)) y0_0 y0_1 y2_0 (y4 ++ [t1])) else none)) else (impl_filled_b.x0 k x0 x10 (wrap64 (x11 + 1)) y0_0 y0_1 y2_0 y4)) := by kernel_rfl
set_option maxRecDepth 100000 in
theorem impl_filled_b.ef (k : Nat) (a0 : Int) (a2_0 : Int) (l2_1 : List Int) : R.start Try.prog xhn impl_filled_b.O 1 Try.f107 impl_filled_b.fh k [.int .i64 a0, .clo 108 [.ptr 0 0]] [.box true [.int .i64 a2_0, .imm (.I .i64 l2_1)]] = (impl_filled_b.x0 k a0 a0 0 a2_0 l2_1 a0 ([] : List Int)) := by kernel_rfl
theorem impl_filled_b.link : ∀ k, (∀ (x0 : Int) (x10 : Int) (x11 : Int) (y0_0 : Int) (y0_1 : List Int) (y2_0 : Int) (y4 : List Int), impl_filled_b.x0 k x0 x10 x11 y0_0 y0_1 y2_0 y4 = (impl_filled_b.l0 k x0 x10 x11 y0_0 y0_1 y2_0 y4).map (impl_filled_b.en y0_0 y0_1)) ∧ (∀ (x0 : Int) (x6 : Int) (x10 : Int) (x11 : Int) (x14 : Int) (x15 : Int) (y0_0 : Int) (y0_1 : List Int) (y2_0 : Int) (y4 : List Int), impl_filled_b.x1 k x0 x6 x10 x11 x14 x15 y0_0 y0_1 y2_0 y4 = (impl_filled_b.l1 k x0 x6 x10 x11 x14 x15 y0_0 y0_1 y2_0 y4).map (impl_filled_b.en y0_0 y0_1))
  | 0 => ⟨fun _ _ _ _ _ _ _ => by simp only [impl_filled_b.l0, R.map_none]; rfl, fun _ _ _ _ _ _ _ _ _ _ => by simp only [impl_filled_b.l1, R.map_none]; rfl⟩
  | k + 1 => by
    obtain ⟨ih0, ih1⟩ := impl_filled_b.link k
    refine ⟨?_, ?_⟩
    · intro x0 x10 x11 y0_0 y0_1 y2_0 y4
      rw [impl_filled_b.e0]
      simp only [impl_filled_b.l0, R.map_ite, R.map_bind, R.map_none, R.map_some, ← ih0, ← ih1]
    · intro x0 x6 x10 x11 x14 x15 y0_0 y0_1 y2_0 y4
      rw [impl_filled_b.e1]
      simp only [impl_filled_b.l1, R.map_ite, R.map_bind, R.map_none, R.map_some, ← ih0, ← ih1]
theorem impl_filled_b.sf (k : Nat) (a0 : Int) (a2_0 : Int) (l2_1 : List Int) : R.start Try.prog xhn impl_filled_b.O 1 Try.f107 impl_filled_b.fh k [.int .i64 a0, .clo 108 [.ptr 0 0]] [.box true [.int .i64 a2_0, .imm (.I .i64 l2_1)]] = (impl_filled_b.f k a0 a2_0 l2_1).map (impl_filled_b.en a2_0 l2_1) := by
  obtain ⟨ih0, ih1⟩ := impl_filled_b.link k
  rw [impl_filled_b.ef]
  simp only [impl_filled_b.f, R.map_ite, R.map_bind, R.map_none, R.map_some, ← ih0, ← ih1]
theorem impl_filled_b.ok (k : Nat) : impl_filled_b.tw.Ok Try.prog k := by
  intro a r h
  refine fn_ok (H := xhn) (fh := impl_filled_b.fh) (O := impl_filled_b.O) (k := k) Try.func107 (by kernel_rfl) (by kernel_rfl) (fun j _ => (Tw.orc_sound impl_GradesOf_1.dok (impl_GradesOf_1.ok j) noO_sound)) (by kernel_rfl) (m := 1) rfl ?_
  refine (impl_filled_b.sf k a.1 a.2.1 a.2.2).trans ?_
  exact congrArg (Option.map _) h
def impl_GradesOf.f (k : Nat) (a0_0 : Int) (l0_1 : List Int) : Option (Int × (List Int) × Bool) := ((impl_MatrixValid.f k a0_0 l0_1).bind fun t1 => (if t1 = true then ((impl_filled_b.f k a0_0 a0_0 l0_1).bind fun t2 => (some (t2.1, t2.2, true))) else (some (0, ([] : List Int), false))))
def impl_GradesOf.en (r : Int × (List Int) × Bool) : Res := (.tup [.agg [.int .i64 r.1, .sl 0 0], .lit r.2.2], [.arr 3 0 (.I .i64 r.2.1) false])
def impl_GradesOf.dec : List AV → List R.Obj → Option (Int × (List Int))
  | [.agg [.int .i64 a0_0, .imm (.I .i64 l0_1)]], [] => some (a0_0, l0_1)
  | _, _ => none
def impl_GradesOf.tw : Tw := ⟨41, Int × (List Int), Int × (List Int) × Bool, impl_GradesOf.dec, fun a => [.agg [.int .i64 a.1, .imm (.I .i64 a.2)]], fun a => [], fun k a => impl_GradesOf.f k a.1 a.2, fun a r => impl_GradesOf.en r⟩
theorem impl_GradesOf.dok : impl_GradesOf.tw.DecOk := by
  intro args hc a h
  have h : impl_GradesOf.dec args hc = some a := h
  unfold impl_GradesOf.dec at h
  split at h
  · cases h; exact ⟨rfl, rfl⟩
  · cases h
noncomputable def impl_GradesOf.O (k : Nat) : Oracle := (impl_MatrixValid.tw.orc k (impl_filled_b.tw.orc k noO))
def impl_GradesOf.fh : FH := ⟨fun i => match i with | _ => none, [(true, 3)], false⟩
set_option maxRecDepth 100000 in
theorem impl_GradesOf.ef (k : Nat) (a0_0 : Int) (l0_1 : List Int) : R.start Try.prog xhn impl_GradesOf.O 0 Try.f41 impl_GradesOf.fh k [.agg [.int .i64 a0_0, .imm (.I .i64 l0_1)]] [] = ((impl_MatrixValid.f k a0_0 l0_1).bind fun t1 => (if t1 = true then ((impl_filled_b.f k a0_0 a0_0 l0_1).bind fun t2 => (some (impl_GradesOf.en (t2.1, t2.2, true)))) else (some (impl_GradesOf.en (0, ([] : List Int), false))))) := by kernel_rfl
theorem impl_GradesOf.sf (k : Nat) (a0_0 : Int) (l0_1 : List Int) : R.start Try.prog xhn impl_GradesOf.O 0 Try.f41 impl_GradesOf.fh k [.agg [.int .i64 a0_0, .imm (.I .i64 l0_1)]] [] = (impl_GradesOf.f k a0_0 l0_1).map (impl_GradesOf.en) := by
  rw [impl_GradesOf.ef]
  simp only [impl_GradesOf.f, R.map_ite, R.map_bind, R.map_none, R.map_some]
theorem impl_GradesOf.ok (k : Nat) : impl_GradesOf.tw.Ok Try.prog k := by
  intro a r h
  refine fn_ok (H := xhn) (fh := impl_GradesOf.fh) (O := impl_GradesOf.O) (k := k) Try.func41 (by kernel_rfl) (by kernel_rfl) (fun j _ => (Tw.orc_sound impl_MatrixValid.dok (impl_MatrixValid.ok j) (Tw.orc_sound impl_filled_b.dok (impl_filled_b.ok j) noO_sound))) (by kernel_rfl) (m := 0) rfl ?_
  refine (impl_GradesOf.sf k a.1 a.2).trans ?_
  exact congrArg (Option.map _) h
def impl_GradesValid_1.f (a0 : Int) : Option (Bool) := (some (decide (a0 > 3)))
def impl_GradesValid_1.en (r : Bool) : Res := (.lit r, [])
def impl_GradesValid_1.dec : List AV → List R.Obj → Option (Int)
  | [.int .i64 a0], [] => some a0
  | _, _ => none
def impl_GradesValid_1.tw : Tw := ⟨114, Int, Bool, impl_GradesValid_1.dec, fun a => [.int .i64 a], fun a => [], fun k a => impl_GradesValid_1.f a, fun a r => impl_GradesValid_1.en r⟩
theorem impl_GradesValid_1.dok : impl_GradesValid_1.tw.DecOk := by
  intro args hc a h
  have h : impl_GradesValid_1.dec args hc = some a := h
  unfold impl_GradesValid_1.dec at h
  split at h
  · cases h; exact ⟨rfl, rfl⟩
  · cases h
noncomputable def impl_GradesValid_1.O (k : Nat) : Oracle := noO
def impl_GradesValid_1.fh : FH := ⟨fun i => match i with | _ => none, [], false⟩
set_option maxRecDepth 100000 in
theorem impl_GradesValid_1.ef (k : Nat) (a0 : Int) : R.start Try.prog xhn impl_GradesValid_1.O 0 Try.f114 impl_GradesValid_1.fh k [.int .i64 a0] [] = (some (impl_GradesValid_1.en (decide (a0 > 3)))) := by kernel_rfl
theorem impl_GradesValid_1.sf (k : Nat) (a0 : Int) : R.start Try.prog xhn impl_GradesValid_1.O 0 Try.f114 impl_GradesValid_1.fh k [.int .i64 a0] [] = (impl_GradesValid_1.f a0).map (impl_GradesValid_1.en) := by
  rw [impl_GradesValid_1.ef]
  simp only [impl_GradesValid_1.f, R.map_ite, R.map_bind, R.map_none, R.map_some]
theorem impl_GradesValid_1.ok (k : Nat) : impl_GradesValid_1.tw.Ok Try.prog k := by
  intro a r h
  refine fn_ok (H := xhn) (fh := impl_GradesValid_1.fh) (O := impl_GradesValid_1.O) (k := k) Try.func114 (by kernel_rfl) (by kernel_rfl) (fun j _ => noO_sound) (by kernel_rfl) (m := 0) rfl ?_
  refine (impl_GradesValid_1.sf k a).trans ?_
  exact congrArg (Option.map _) h
def slices_IndexFunc_int_int_b.l0 : Nat → (List Int) → Int → Int → Option (Int)
  | 0, _, _, _ => none
  | k + 1, x0, x7, x8 => (if x8 < x7 then (if 0 ≤ x8 then (if x8 < (x0.length : Int) then ((impl_GradesValid_1.f (rdI x0 x8)).bind fun t1 => (if t1 = true then (some x8) else (slices_IndexFunc_int_int_b.l0 k x0 x7 (wrap64 (x8 + 1))))) else none) else none) else (some (-1)))
def slices_IndexFunc_int_int_b.f (k : Nat) (l0 : List Int) : Option (Int) := (slices_IndexFunc_int_int_b.l0 k l0 (l0.length : Int) 0)
def slices_IndexFunc_int_int_b.en (r : Int) : Res := (.int .i64 r, [])
def slices_IndexFunc_int_int_b.dec : List AV → List R.Obj → Option (List Int)
  | [.imm (.I .i64 l0), .clo 114 []], [] => some l0
  | _, _ => none
def slices_IndexFunc_int_int_b.tw : Tw := ⟨164, List Int, Int, slices_IndexFunc_int_int_b.dec, fun a => [.imm (.I .i64 a), .clo 114 []], fun a => [], fun k a => slices_IndexFunc_int_int_b.f k a, fun a r => slices_IndexFunc_int_int_b.en r⟩
theorem slices_IndexFunc_int_int_b.dok : slices_IndexFunc_int_int_b.tw.DecOk := by
  intro args hc a h
  have h : slices_IndexFunc_int_int_b.dec args hc = some a := h
  unfold slices_IndexFunc_int_int_b.dec at h
  split at h
  · cases h; exact ⟨rfl, rfl⟩
  · cases h
noncomputable def slices_IndexFunc_int_int_b.O (k : Nat) : Oracle := (impl_GradesValid_1.tw.orc k noO)
def slices_IndexFunc_int_int_b.fh : FH := ⟨fun i => match i with | 2 => some [(0, 0), (1, 0), (7, 0), (8, 0)] | _ => none, [], false⟩
noncomputable def slices_IndexFunc_int_int_b.x0 (k : Nat) (x0 : List Int) (x7 : Int) (x8 : Int) : Option Res := R.exec Try.prog xhn slices_IndexFunc_int_int_b.O 0 Try.f164 slices_IndexFunc_int_int_b.fh k (R.point Try.f164 2) ⟨[(0, .imm (.I .i64 x0)), (1, .clo 114 []), (7, .int .i64 x7), (8, .int .i64 x8)], [], 2⟩
set_option maxRecDepth 100000 in
theorem slices_IndexFunc_int_int_b.e0 (k : Nat) (x0 : List Int) (x7 : Int) (x8 : Int) : slices_IndexFunc_int_int_b.x0 (k + 1) x0 x7 x8 = (if x8 < x7 then (if 0 ≤ x8 then (if x8 < (x0.length : Int) then ((impl_GradesValid_1.f (rdI x0 x8)).bind fun t1 => (if t1 = true then (some (slices_IndexFunc_int_int_b.en x8)) else (slices_IndexFunc_int_int_b.x0 k x0 x7 (wrap64 (x8 + 1))))) else none) else none) else (some (slices_IndexFunc_int_int_b.en (-1)))) := by kernel_rfl
set_option maxRecDepth 100000 in
theorem slices_IndexFunc_int_int_b.ef (k : Nat) (l0 : List Int) : R.start Try.prog xhn slices_IndexFunc_int_int_b.O 0 Try.f164 slices_IndexFunc_int_int_b.fh k [.imm (.I .i64 l0), .clo 114 []] [] = (slices_IndexFunc_int_int_b.x0 k l0 (l0.length : Int) 0) := by kernel_rfl
theorem slices_IndexFunc_int_int_b.link : ∀ k, (∀ (x0 : List Int) (x7 : Int) (x8 : Int), slices_IndexFunc_int_int_b.x0 k x0 x7 x8 = (slices_IndexFunc_int_int_b.l0 k x0 x7 x8).map (slices_IndexFunc_int_int_b.en))
  | 0 => fun _ _ _ => by simp only [slices_IndexFunc_int_int_b.l0, R.map_none]; rfl
  | k + 1 => by
    have ih0 := slices_IndexFunc_int_int_b.link k
    · intro x0 x7 x8
      rw [slices_IndexFunc_int_int_b.e0]
      simp only [slices_IndexFunc_int_int_b.l0, R.map_ite, R.map_bind, R.map_none, R.map_some, ← ih0]
theorem slices_IndexFunc_int_int_b.sf (k : Nat) (l0 : List Int) : R.start Try.prog xhn slices_IndexFunc_int_int_b.O 0 Try.f164 slices_IndexFunc_int_int_b.fh k [.imm (.I .i64 l0), .clo 114 []] [] = (slices_IndexFunc_int_int_b.f k l0).map (slices_IndexFunc_int_int_b.en) := by
  have ih0 := slices_IndexFunc_int_int_b.link k
  rw [slices_IndexFunc_int_int_b.ef]
  simp only [slices_IndexFunc_int_int_b.f, R.map_ite, R.map_bind, R.map_none, R.map_some, ← ih0]
theorem slices_IndexFunc_int_int_b.ok (k : Nat) : slices_IndexFunc_int_int_b.tw.Ok Try.prog k := by
  intro a r h
  refine fn_ok (H := xhn) (fh := slices_IndexFunc_int_int_b.fh) (O := slices_IndexFunc_int_int_b.O) (k := k) Try.func164 (by kernel_rfl) (by kernel_rfl) (fun j _ => (Tw.orc_sound impl_GradesValid_1.dok (impl_GradesValid_1.ok j) noO_sound)) (by kernel_rfl) (m := 0) rfl ?_
  refine (slices_IndexFunc_int_int_b.sf k a).trans ?_
  exact congrArg (Option.map _) h
def slices_ContainsFunc_int_int_b.f (k : Nat) (l0 : List Int) : Option (Bool) := ((slices_IndexFunc_int_int_b.f k l0).bind fun t1 => (some (decide (t1 ≥ 0))))
def slices_ContainsFunc_int_int_b.en (r : Bool) : Res := (.lit r, [])
def slices_ContainsFunc_int_int_b.dec : List AV → List R.Obj → Option (List Int)
  | [.imm (.I .i64 l0), .clo 114 []], [] => some l0
  | _, _ => none
def slices_ContainsFunc_int_int_b.tw : Tw := ⟨113, List Int, Bool, slices_ContainsFunc_int_int_b.dec, fun a => [.imm (.I .i64 a), .clo 114 []], fun a => [], fun k a => slices_ContainsFunc_int_int_b.f k a, fun a r => slices_ContainsFunc_int_int_b.en r⟩
theorem slices_ContainsFunc_int_int_b.dok : slices_ContainsFunc_int_int_b.tw.DecOk := by
  intro args hc a h
  have h : slices_ContainsFunc_int_int_b.dec args hc = some a := h
  unfold slices_ContainsFunc_int_int_b.dec at h
  split at h
  · cases h; exact ⟨rfl, rfl⟩
  · cases h
noncomputable def slices_ContainsFunc_int_int_b.O (k : Nat) : Oracle := (slices_IndexFunc_int_int_b.tw.orc k noO)
def slices_ContainsFunc_int_int_b.fh : FH := ⟨fun i => match i with | _ => none, [], false⟩
set_option maxRecDepth 100000 in
theorem slices_ContainsFunc_int_int_b.ef (k : Nat) (l0 : List Int) : R.start Try.prog xhn slices_ContainsFunc_int_int_b.O 0 Try.f113 slices_ContainsFunc_int_int_b.fh k [.imm (.I .i64 l0), .clo 114 []] [] = ((slices_IndexFunc_int_int_b.f k l0).bind fun t1 => (some (slices_ContainsFunc_int_int_b.en (decide (t1 ≥ 0))))) := by kernel_rfl
theorem slices_ContainsFunc_int_int_b.sf (k : Nat) (l0 : List Int) : R.start Try.prog xhn slices_ContainsFunc_int_int_b.O 0 Try.f113 slices_ContainsFunc_int_int_b.fh k [.imm (.I .i64 l0), .clo 114 []] [] = (slices_ContainsFunc_int_int_b.f k l0).map (slices_ContainsFunc_int_int_b.en) := by
  rw [slices_ContainsFunc_int_int_b.ef]
  simp only [slices_ContainsFunc_int_int_b.f, R.map_ite, R.map_bind, R.map_none, R.map_some]
theorem slices_ContainsFunc_int_int_b.ok (k : Nat) : slices_ContainsFunc_int_int_b.tw.Ok Try.prog k := by
  intro a r h
  refine fn_ok (H := xhn) (fh := slices_ContainsFunc_int_int_b.fh) (O := slices_ContainsFunc_int_int_b.O) (k := k) Try.func113 (by kernel_rfl) (by kernel_rfl) (fun j _ => (Tw.orc_sound slices_IndexFunc_int_int_b.dok (slices_IndexFunc_int_int_b.ok j) noO_sound)) (by kernel_rfl) (m := 0) rfl ?_
  refine (slices_ContainsFunc_int_int_b.sf k a).trans ?_
  exact congrArg (Option.map _) h
def impl_GradesValid.f (k : Nat) (a0_0 : Int) (l0_1 : List Int) : Option (Bool) := ((impl_MatrixValid.f k a0_0 l0_1).bind fun t1 => (if t1 = true then ((slices_ContainsFunc_int_int_b.f k l0_1).bind fun t2 => (some (!decide (t2 = true)))) else (some false)))
def impl_GradesValid.en (r : Bool) : Res := (.lit r, [])
def impl_GradesValid.dec : List AV → List R.Obj → Option (Int × (List Int))
  | [.agg [.int .i64 a0_0, .imm (.I .i64 l0_1)]], [] => some (a0_0, l0_1)
  | _, _ => none
def impl_GradesValid.tw : Tw := ⟨46, Int × (List Int), Bool, impl_GradesValid.dec, fun a => [.agg [.int .i64 a.1, .imm (.I .i64 a.2)]], fun a => [], fun k a => impl_GradesValid.f k a.1 a.2, fun a r => impl_GradesValid.en r⟩
theorem impl_GradesValid.dok : impl_GradesValid.tw.DecOk := by
  intro args hc a h
  have h : impl_GradesValid.dec args hc = some a := h
  unfold impl_GradesValid.dec at h
  split at h
  · cases h; exact ⟨rfl, rfl⟩
  · cases h
noncomputable def impl_GradesValid.O (k : Nat) : Oracle := (impl_MatrixValid.tw.orc k (slices_ContainsFunc_int_int_b.tw.orc k noO))
def impl_GradesValid.fh : FH := ⟨fun i => match i with | _ => none, [], false⟩
set_option maxRecDepth 100000 in
theorem impl_GradesValid.ef (k : Nat) (a0_0 : Int) (l0_1 : List Int) : R.start Try.prog xhn impl_GradesValid.O 0 Try.f46 impl_GradesValid.fh k [.agg [.int .i64 a0_0, .imm (.I .i64 l0_1)]] [] = ((impl_MatrixValid.f k a0_0 l0_1).bind fun t1 => (if t1 = true then ((slices_ContainsFunc_int_int_b.f k l0_1).bind fun t2 => (some (impl_GradesValid.en (!decide (t2 = true))))) else (some (impl_GradesValid.en false)))) := by kernel_rfl
theorem impl_GradesValid.sf (k : Nat) (a0_0 : Int) (l0_1 : List Int) : R.start Try.prog xhn impl_GradesValid.O 0 Try.f46 impl_GradesValid.fh k [.agg [.int .i64 a0_0, .imm (.I .i64 l0_1)]] [] = (impl_GradesValid.f k a0_0 l0_1).map (impl_GradesValid.en) := by
  rw [impl_GradesValid.ef]
  simp only [impl_GradesValid.f, R.map_ite, R.map_bind, R.map_none, R.map_some]
theorem impl_GradesValid.ok (k : Nat) : impl_GradesValid.tw.Ok Try.prog k := by
  intro a r h
  refine fn_ok (H := xhn) (fh := impl_GradesValid.fh) (O := impl_GradesValid.O) (k := k) Try.func46 (by kernel_rfl) (by kernel_rfl) (fun j _ => (Tw.orc_sound impl_MatrixValid.dok (impl_MatrixValid.ok j) (Tw.orc_sound slices_ContainsFunc_int_int_b.dok (slices_ContainsFunc_int_int_b.ok j) noO_sound))) (by kernel_rfl) (m := 0) rfl ?_
  refine (impl_GradesValid.sf k a.1 a.2).trans ?_
  exact congrArg (Option.map _) h
def impl_MulGrades_1.l0 : Nat → Int → Int → Int → Int → Int → Int → (List Int) → Int → (List Int) → Option (Int)
  | 0, _, _, _, _, _, _, _, _, _ => none
  | k + 1, x0, x1, x7, x10, x11, y0_0, y0_1, y1_0, y1_1 => (if x11 < x10 then ((impl_Matrix_at.f y0_0 y0_1 x0 x11).bind fun t1 => ((impl_Matrix_at.f y1_0 y1_1 x11 x1).bind fun t2 => (impl_MulGrades_1.l0 k x0 x1 (mn x7 (mx t1 t2)) x10 (wrap64 (x11 + 1)) y0_0 y0_1 y1_0 y1_1))) else (some x7))
def impl_MulGrades_1.f (k : Nat) (a0 : Int) (a1 : Int) (a4_0 : Int) (l4_1 : List Int) (a5_0 : Int) (l5_1 : List Int) : Option (Int) := (impl_MulGrades_1.l0 k a0 a1 3 a4_0 0 a4_0 l4_1 a5_0 l5_1)
def impl_MulGrades_1.en (a4_0 : Int) (l4_1 : List Int) (a5_0 : Int) (l5_1 : List Int) (r : Int) : Res := (.int .i64 r, [.box true [.int .i64 a4_0, .imm (.I .i64 l4_1)], .box true [.int .i64 a5_0, .imm (.I .i64 l5_1)]])
def impl_MulGrades_1.dec : List AV → List R.Obj → Option (Int × Int × Int × (List Int) × Int × (List Int))
  | [.int .i64 a0, .int .i64 a1, .ptr 0 0, .ptr 1 0], [.box true [.int .i64 a4_0, .imm (.I .i64 l4_1)], .box true [.int .i64 a5_0, .imm (.I .i64 l5_1)]] => some (a0, a1, a4_0, l4_1, a5_0, l5_1)
  | _, _ => none
def impl_MulGrades_1.tw : Tw := ⟨112, Int × Int × Int × (List Int) × Int × (List Int), Int, impl_MulGrades_1.dec, fun a => [.int .i64 a.1, .int .i64 a.2.1, .ptr 0 0, .ptr 1 0], fun a => [.box true [.int .i64 a.2.2.1, .imm (.I .i64 a.2.2.2.1)], .box true [.int .i64 a.2.2.2.2.1, .imm (.I .i64 a.2.2.2.2.2)]], fun k a => impl_MulGrades_1.f k a.1 a.2.1 a.2.2.1 a.2.2.2.1 a.2.2.2.2.1 a.2.2.2.2.2, fun a r => impl_MulGrades_1.en a.2.2.1 a.2.2.2.1 a.2.2.2.2.1 a.2.2.2.2.2 r⟩
theorem impl_MulGrades_1.dok : impl_MulGrades_1.tw.DecOk := by
  intro args hc a h
  have h : impl_MulGrades_1.dec args hc = some a := h
  unfold impl_MulGrades_1.dec at h
  split at h
  · cases h; exact ⟨rfl, rfl⟩
  · cases h
noncomputable def impl_MulGrades_1.O (k : Nat) : Oracle := (impl_Matrix_at.tw.orc k noO)
def impl_MulGrades_1.fh : FH := ⟨fun i => match i with | 3 => some [(0, 0), (1, 0), (2, 0), (3, 0), (7, 0), (10, 0), (11, 0)] | _ => none, [], false⟩
noncomputable def impl_MulGrades_1.x0 (k : Nat) (x0 : Int) (x1 : Int) (x7 : Int) (x10 : Int) (x11 : Int) (y0_0 : Int) (y0_1 : List Int) (y1_0 : Int) (y1_1 : List Int) : Option Res := R.exec Try.prog xhn impl_MulGrades_1.O 2 Try.f112 impl_MulGrades_1.fh k (R.point Try.f112 3) ⟨[(0, .int .i64 x0), (1, .int .i64 x1), (2, .ptr 0 0), (3, .ptr 1 0), (7, .int .i64 x7), (10, .int .i64 x10), (11, .int .i64 x11)], [(0, .box true [.int .i64 y0_0, .imm (.I .i64 y0_1)]), (1, .box true [.int .i64 y1_0, .imm (.I .i64 y1_1)])], 4⟩
set_option maxRecDepth 100000 in
theorem impl_MulGrades_1.e0 (k : Nat) (x0 : Int) (x1 : Int) (x7 : Int) (x10 : Int) (x11 : Int) (y0_0 : Int) (y0_1 : List Int) (y1_0 : Int) (y1_1 : List Int) : impl_MulGrades_1.x0 (k + 1) x0 x1 x7 x10 x11 y0_0 y0_1 y1_0 y1_1 = (if x11 < x10 then ((impl_Matrix_at.f y0_0 y0_1 x0 x11).bind fun t1 => ((impl_Matrix_at.f y1_0 y1_1 x11 x1).bind fun t2 => (impl_MulGrades_1.x0 k x0 x1 (mn x7 (mx t1 t2)) x10 (wrap64 (x11 + 1)) y0_0 y0_1 y1_0 y1_1))) else (some (impl_MulGrades_1.en y0_0 y0_1 y1_0 y1_1 x7))) := by kernel_rfl
set_option maxRecDepth 100000 in
theorem impl_MulGrades_1.ef (k : Nat) (a0 : Int) (a1 : Int) (a4_0 : Int) (l4_1 : List Int) (a5_0 : Int) (l5_1 : List Int) : R.start Try.prog xhn impl_MulGrades_1.O 2 Try.f112 impl_MulGrades_1.fh k [.int .i64 a0, .int .i64 a1, .ptr 0 0, .ptr 1 0] [.box true [.int .i64 a4_0, .imm (.I .i64 l4_1)], .box true [.int .i64 a5_0, .imm (.I .i64 l5_1)]] = (impl_MulGrades_1.x0 k a0 a1 3 a4_0 0 a4_0 l4_1 a5_0 l5_1) := by kernel_rfl
theorem impl_MulGrades_1.link : ∀ k, (∀ (x0 : Int) (x1 : Int) (x7 : Int) (x10 : Int) (x11 : Int) (y0_0 : Int) (y0_1 : List Int) (y1_0 : Int) (y1_1 : List Int), impl_MulGrades_1.x0 k x0 x1 x7 x10 x11 y0_0 y0_1 y1_0 y1_1 = (impl_MulGrades_1.l0 k x0 x1 x7 x10 x11 y0_0 y0_1 y1_0 y1_1).map (impl_MulGrades_1.en y0_0 y0_1 y1_0 y1_1))
  | 0 => fun _ _ _ _ _ _ _ _ _ => by simp only [impl_MulGrades_1.l0, R.map_none]; rfl
  | k + 1 => by
    have ih0 := impl_MulGrades_1.link k
    · intro x0 x1 x7 x10 x11 y0_0 y0_1 y1_0 y1_1
      rw [impl_MulGrades_1.e0]
      simp only [impl_MulGrades_1.l0, R.map_ite, R.map_bind, R.map_none, R.map_some, ← ih0]
theorem impl_MulGrades_1.sf (k : Nat) (a0 : Int) (a1 : Int) (a4_0 : Int) (l4_1 : List Int) (a5_0 : Int) (l5_1 : List Int) : R.start Try.prog xhn impl_MulGrades_1.O 2 Try.f112 impl_MulGrades_1.fh k [.int .i64 a0, .int .i64 a1, .ptr 0 0, .ptr 1 0] [.box true [.int .i64 a4_0, .imm (.I .i64 l4_1)], .box true [.int .i64 a5_0, .imm (.I .i64 l5_1)]] = (impl_MulGrades_1.f k a0 a1 a4_0 l4_1 a5_0 l5_1).map (impl_MulGrades_1.en a4_0 l4_1 a5_0 l5_1) := by
  have ih0 := impl_MulGrades_1.link k
  rw [impl_MulGrades_1.ef]
  simp only [impl_MulGrades_1.f, R.map_ite, R.map_bind, R.map_none, R.map_some, ← ih0]
theorem impl_MulGrades_1.ok (k : Nat) : impl_MulGrades_1.tw.Ok Try.prog k := by
  intro a r h
  refine fn_ok (H := xhn) (fh := impl_MulGrades_1.fh) (O := impl_MulGrades_1.O) (k := k) Try.func112 (by kernel_rfl) (by kernel_rfl) (fun j _ => (Tw.orc_sound impl_Matrix_at.dok (impl_Matrix_at.ok j) noO_sound)) (by kernel_rfl) (m := 2) rfl ?_
  refine (impl_MulGrades_1.sf k a.1 a.2.1 a.2.2.1 a.2.2.2.1 a.2.2.2.2.1 a.2.2.2.2.2).trans ?_
  exact congrArg (Option.map _) h
mutual
def impl_filled_c.l0 : Nat → Int → Int → Int → Int → (List Int) → Int → (List Int) → Int → (List Int) → Option (Int × (List Int))
  | 0, _, _, _, _, _, _, _, _, _ => none
  | k + 1, x0, x10, x11, y0_0, y0_1, y1_0, y1_1, y3_0, y5 => (if x11 < x10 then (impl_filled_c.l1 k x0 x11 x10 x11 x0 0 y0_0 y0_1 y1_0 y1_1 y3_0 y5) else (some (y3_0, y5)))
def impl_filled_c.l1 : Nat → Int → Int → Int → Int → Int → Int → Int → (List Int) → Int → (List Int) → Int → (List Int) → Option (Int × (List Int))
  | 0, _, _, _, _, _, _, _, _, _, _, _, _ => none
  | k + 1, x0, x6, x10, x11, x14, x15, y0_0, y0_1, y1_0, y1_1, y3_0, y5 => (if x15 < x14 then ((impl_MulGrades_1.f k x6 x15 y0_0 y0_1 y1_0 y1_1).bind fun t1 => (if y5.length < 17592186044416 then (impl_filled_c.l1 k x0 x6 x10 x11 x14 (wrap64 (x15 + 1)) y0_0 y0_1 y1_0 y1_1 y3_0 (y5 ++ [t1])) else none)) else (impl_filled_c.l0 k x0 x10 (wrap64 (x11 + 1)) y0_0 y0_1 y1_0 y1_1 y3_0 y5))
end
def impl_filled_c.f (k : Nat) (a0 : Int) (a2_0 : Int) (l2_1 : List Int) (a3_0 : Int) (l3_1 : List Int) : Option (Int × (List Int)) := (impl_filled_c.l0 k a0 a0 0 a2_0 l2_1 a3_0 l3_1 a0 ([] : List Int))
def impl_filled_c.en (a2_0 : Int) (l2_1 : List Int) (a3_0 : Int) (l3_1 : List Int) (r : Int × (List Int)) : Res := (.agg [.int .i64 r.1, .sl 2 0], [.box true [.int .i64 a2_0, .imm (.I .i64 l2_1)], .box true [.int .i64 a3_0, .imm (.I .i64 l3_1)], .arr 3 0 (.I .i64 r.2) false])
def impl_filled_c.dec : List AV → List R.Obj → Option (Int × Int × (List Int) × Int × (List Int))
  | [.int .i64 a0, .clo 112 [.ptr 0 0, .ptr 1 0]], [.box true [.int .i64 a2_0, .imm (.I .i64 l2_1)], .box true [.int .i64 a3_0, .imm (.I .i64 l3_1)]] => some (a0, a2_0, l2_1, a3_0, l3_1)
  | _, _ => none
def impl_filled_c.tw : Tw := ⟨107, Int × Int × (List Int) × Int × (List Int), Int × (List Int), impl_filled_c.dec, fun a => [.int .i64 a.1, .clo 112 [.ptr 0 0, .ptr 1 0]], fun a => [.box true [.int .i64 a.2.1, .imm (.I .i64 a.2.2.1)], .box true [.int .i64 a.2.2.2.1, .imm (.I .i64 a.2.2.2.2)]], fun k a => impl_filled_c.f k a.1 a.2.1 a.2.2.1 a.2.2.2.1 a.2.2.2.2, fun a r => impl_filled_c.en a.2.1 a.2.2.1 a.2.2.2.1 a.2.2.2.2 r⟩
theorem impl_filled_c.dok : impl_filled_c.tw.DecOk := by
  intro args hc a h
  have h : impl_filled_c.dec args hc = some a := h
  unfold impl_filled_c.dec at h
  split at h
  · cases h; exact ⟨rfl, rfl⟩
  · cases h
noncomputable def impl_filled_c.O (k : Nat) : Oracle := (impl_MulGrades_1.tw.orc k noO)
def impl_filled_c.fh : FH := ⟨fun i => match i with | 3 => some [(0, 0), (1, 0), (4, 0), (5, 0), (10, 0), (11, 0)] | 6 => some [(0, 0), (1, 0), (4, 0), (5, 0), (6, 0), (10, 0), (11, 0), (14, 0), (15, 0)] | _ => none, [(true, 3)], false⟩
noncomputable def impl_filled_c.x0 (k : Nat) (x0 : Int) (x10 : Int) (x11 : Int) (y0_0 : Int) (y0_1 : List Int) (y1_0 : Int) (y1_1 : List Int) (y3_0 : Int) (y5 : List Int) : Option Res := R.exec Try.prog xhn impl_filled_c.O 2 Try.f107 impl_filled_c.fh k (R.point Try.f107 3) ⟨[(0, .int .i64 x0), (1, .clo 112 [.ptr 0 0, .ptr 1 0]), (4, .ptr 2 0), (5, .ptr 3 0), (10, .int .i64 x10), (11, .int .i64 x11)], [(0, .box true [.int .i64 y0_0, .imm (.I .i64 y0_1)]), (1, .box true [.int .i64 y1_0, .imm (.I .i64 y1_1)]), (2, .box false [.int .i64 0, .sl 4 0]), (3, .box false [.int .i64 y3_0, .sl 5 0]), (4, .arr 3 0 (.I .i64 ([] : List Int)) false), (5, .arr 3 0 (.I .i64 y5) false)], 8⟩
noncomputable def impl_filled_c.x1 (k : Nat) (x0 : Int) (x6 : Int) (x10 : Int) (x11 : Int) (x14 : Int) (x15 : Int) (y0_0 : Int) (y0_1 : List Int) (y1_0 : Int) (y1_1 : List Int) (y3_0 : Int) (y5 : List Int) : Option Res := R.exec Try.prog xhn impl_filled_c.O 2 Try.f107 impl_filled_c.fh k (R.point Try.f107 6) ⟨[(0, .int .i64 x0), (1, .clo 112 [.ptr 0 0, .ptr 1 0]), (4, .ptr 2 0), (5, .ptr 3 0), (6, .int .i64 x6), (10, .int .i64 x10), (11, .int .i64 x11), (14, .int .i64 x14), (15, .int .i64 x15)], [(0, .box true [.int .i64 y0_0, .imm (.I .i64 y0_1)]), (1, .box true [.int .i64 y1_0, .imm (.I .i64 y1_1)]), (2, .box false [.int .i64 0, .sl 4 0]), (3, .box false [.int .i64 y3_0, .sl 5 0]), (4, .arr 3 0 (.I .i64 ([] : List Int)) false), (5, .arr 3 0 (.I .i64 y5) false)], 8⟩
set_option maxRecDepth 100000 in
theorem impl_filled_c.e0 (k : Nat) (x0 : Int) (x10 : Int) (x11 : Int) (y0_0 : Int) (y0_1 : List Int) (y1_0 : Int) (y1_1 : List Int) (y3_0 : Int) (y5 : List Int) : impl_filled_c.x0 (k + 1) x0 x10 x11 y0_0 y0_1 y1_0 y1_1 y3_0 y5 = (if x11 < x10 then (impl_filled_c.x1 k x0 x11 x10 x11 x0 0 y0_0 y0_1 y1_0 y1_1 y3_0 y5) else (some (impl_filled_c.en y0_0 y0_1 y1_0 y1_1 (y3_0, y5)))) := by kernel_rfl
set_option maxRecDepth 100000 in
theorem impl_filled_c.e1 (k : Nat) (x0 : Int) (x6 : Int) (x10 : Int) (x11 : Int) (x14 : Int) (x15 : Int) (y0_0 : Int) (y0_1 : List Int) (y1_0 : Int) (y1_1 : List Int) (y3_0 : Int) (y5 : List Int) : impl_filled_c.x1 (k + 1) x0 x6 x10 x11 x14 x15 y0_0 y0_1 y1_0 y1_1 y3_0 y5 = (if x15 < x14 then ((impl_MulGrades_1.f k x6 x15 y0_0 y0_1 y1_0 y1_1).bind fun t1 => (if y5.length < 17592186044416 then (impl_filled_c.x1 k x0 x6 x10 x11 x14 (wrap64 (x15 + 1)) y0_0 y0_1 y1_0 y1_1 y3_0 (y5 ++ [t1])) else none)) else (impl_filled_c.x0 k x0 x10 (wrap64 (x11 + 1)) y0_0 y0_1 y1_0 y1_1 y3_0 y5)) := by kernel_rfl
set_option maxRecDepth 100000 in
theorem impl_filled_c.ef (k : Nat) (a0 : Int) (a2_0 : Int) (l2_1 : List Int) (a3_0 : Int) (l3_1 : List Int) : R.start Try.prog xhn impl_filled_c.O 2 Try.f107 impl_filled_c.fh k [.int .i64 a0, .clo 112 [.ptr 0 0, .ptr 1 0]] [.box true [.int .i64 a2_0, .imm (.I .i64 l2_1)], .box true [.int .i64 a3_0, .imm (.I .i64 l3_1)]] = (impl_filled_c.x0 k a0 a0 0 a2_0 l2_1 a3_0 l3_1 a0 ([] : List Int)) := by kernel_rfl
theorem impl_filled_c.link : ∀ k, (∀ (x0 : Int) (x10 : Int) (x11 : Int) (y0_0 : Int) (y0_1 : List Int) (y1_0 : Int) (y1_1 : List Int) (y3_0 : Int) (y5 : List Int), impl_filled_c.x0 k x0 x10 x11 y0_0 y0_1 y1_0 y1_1 y3_0 y5 = (impl_filled_c.l0 k x0 x10 x11 y0_0 y0_1 y1_0 y1_1 y3_0 y5).map (impl_filled_c.en y0_0 y0_1 y1_0 y1_1)) ∧ (∀ (x0 : Int) (x6 : Int) (x10 : Int) (x11 : Int) (x14 : Int) (x15 : Int) (y0_0 : Int) (y0_1 : List Int) (y1_0 : Int) (y1_1 : List Int) (y3_0 : Int) (y5 : List Int), impl_filled_c.x1 k x0 x6 x10 x11 x14 x15 y0_0 y0_1 y1_0 y1_1 y3_0 y5 = (impl_filled_c.l1 k x0 x6 x10 x11 x14 x15 y0_0 y0_1 y1_0 y1_1 y3_0 y5).map (impl_filled_c.en y0_0 y0_1 y1_0 y1_1))
  | 0 => ⟨fun _ _ _ _ _ _ _ _ _ => by simp only [impl_filled_c.l0, R.map_none]; rfl, fun _ _ _ _ _ _ _ _ _ _ _ _ => by simp only [impl_filled_c.l1, R.map_none]; rfl⟩
  | k + 1 => by
    obtain ⟨ih0, ih1⟩ := impl_filled_c.link k
    refine ⟨?_, ?_⟩
    · intro x0 x10 x11 y0_0 y0_1 y1_0 y1_1 y3_0 y5
      rw [impl_filled_c.e0]
      simp only [impl_filled_c.l0, R.map_ite, R.map_bind, R.map_none, R.map_some, ← ih0, ← ih1]
    · intro x0 x6 x10 x11 x14 x15 y0_0 y0_1 y1_0 y1_1 y3_0 y5
      rw [impl_filled_c.e1]
      simp only [impl_filled_c.l1, R.map_ite, R.map_bind, R.map_none, R.map_some, ← ih0, ← ih1]
theorem impl_filled_c.sf (k : Nat) (a0 : Int) (a2_0 : Int) (l2_1 : List Int) (a3_0 : Int) (l3_1 : List Int) : R.start Try.prog xhn impl_filled_c.O 2 Try.f107 impl_filled_c.fh k [.int .i64 a0, .clo 112 [.ptr 0 0, .ptr 1 0]] [.box true [.int .i64 a2_0, .imm (.I .i64 l2_1)], .box true [.int .i64 a3_0, .imm (.I .i64 l3_1)]] = (impl_filled_c.f k a0 a2_0 l2_1 a3_0 l3_1).map (impl_filled_c.en a2_0 l2_1 a3_0 l3_1) := by
  obtain ⟨ih0, ih1⟩ := impl_filled_c.link k
  rw [impl_filled_c.ef]
  simp only [impl_filled_c.f, R.map_ite, R.map_bind, R.map_none, R.map_some, ← ih0, ← ih1]
theorem impl_filled_c.ok (k : Nat) : impl_filled_c.tw.Ok Try.prog k := by
  intro a r h
  refine fn_ok (H := xhn) (fh := impl_filled_c.fh) (O := impl_filled_c.O) (k := k) Try.func107 (by kernel_rfl) (by kernel_rfl) (fun j _ => (Tw.orc_sound impl_MulGrades_1.dok (impl_MulGrades_1.ok j) noO_sound)) (by kernel_rfl) (m := 2) rfl ?_
  refine (impl_filled_c.sf k a.1 a.2.1 a.2.2.1 a.2.2.2.1 a.2.2.2.2).trans ?_
  exact congrArg (Option.map _) h
def impl_MulGrades.f (k : Nat) (a0_0 : Int) (l0_1 : List Int) (a1_0 : Int) (l1_1 : List Int) : Option (Int × (List Int) × Bool) := ((impl_GradesValid.f k a0_0 l0_1).bind fun t1 => (if t1 = true then ((impl_GradesValid.f k a1_0 l1_1).bind fun t2 => (if t2 = true then (if a0_0 = a1_0 then ((impl_filled_c.f k a0_0 a0_0 l0_1 a1_0 l1_1).bind fun t3 => (some (t3.1, t3.2, true))) else (some (0, ([] : List Int), false))) else (some (0, ([] : List Int), false)))) else (some (0, ([] : List Int), false))))
def impl_MulGrades.en (r : Int × (List Int) × Bool) : Res := (.tup [.agg [.int .i64 r.1, .sl 0 0], .lit r.2.2], [.arr 3 0 (.I .i64 r.2.1) false])
def impl_MulGrades.dec : List AV → List R.Obj → Option (Int × (List Int) × Int × (List Int))
  | [.agg [.int .i64 a0_0, .imm (.I .i64 l0_1)], .agg [.int .i64 a1_0, .imm (.I .i64 l1_1)]], [] => some (a0_0, l0_1, a1_0, l1_1)
  | _, _ => none
def impl_MulGrades.tw : Tw := ⟨44, Int × (List Int) × Int × (List Int), Int × (List Int) × Bool, impl_MulGrades.dec, fun a => [.agg [.int .i64 a.1, .imm (.I .i64 a.2.1)], .agg [.int .i64 a.2.2.1, .imm (.I .i64 a.2.2.2)]], fun a => [], fun k a => impl_MulGrades.f k a.1 a.2.1 a.2.2.1 a.2.2.2, fun a r => impl_MulGrades.en r⟩
theorem impl_MulGrades.dok : impl_MulGrades.tw.DecOk := by
  intro args hc a h
  have h : impl_MulGrades.dec args hc = some a := h
  unfold impl_MulGrades.dec at h
  split at h
  · cases h; exact ⟨rfl, rfl⟩
  · cases h
noncomputable def impl_MulGrades.O (k : Nat) : Oracle := (impl_GradesValid.tw.orc k (impl_filled_c.tw.orc k noO))
def impl_MulGrades.fh : FH := ⟨fun i => match i with | _ => none, [(true, 3)], false⟩
set_option maxRecDepth 100000 in
theorem impl_MulGrades.ef (k : Nat) (a0_0 : Int) (l0_1 : List Int) (a1_0 : Int) (l1_1 : List Int) : R.start Try.prog xhn impl_MulGrades.O 0 Try.f44 impl_MulGrades.fh k [.agg [.int .i64 a0_0, .imm (.I .i64 l0_1)], .agg [.int .i64 a1_0, .imm (.I .i64 l1_1)]] [] = ((impl_GradesValid.f k a0_0 l0_1).bind fun t1 => (if t1 = true then ((impl_GradesValid.f k a1_0 l1_1).bind fun t2 => (if t2 = true then (if a0_0 = a1_0 then ((impl_filled_c.f k a0_0 a0_0 l0_1 a1_0 l1_1).bind fun t3 => (some (impl_MulGrades.en (t3.1, t3.2, true)))) else (some (impl_MulGrades.en (0, ([] : List Int), false)))) else (some (impl_MulGrades.en (0, ([] : List Int), false))))) else (some (impl_MulGrades.en (0, ([] : List Int), false))))) := by kernel_rfl
theorem impl_MulGrades.sf (k : Nat) (a0_0 : Int) (l0_1 : List Int) (a1_0 : Int) (l1_1 : List Int) : R.start Try.prog xhn impl_MulGrades.O 0 Try.f44 impl_MulGrades.fh k [.agg [.int .i64 a0_0, .imm (.I .i64 l0_1)], .agg [.int .i64 a1_0, .imm (.I .i64 l1_1)]] [] = (impl_MulGrades.f k a0_0 l0_1 a1_0 l1_1).map (impl_MulGrades.en) := by
  rw [impl_MulGrades.ef]
  simp only [impl_MulGrades.f, R.map_ite, R.map_bind, R.map_none, R.map_some]
theorem impl_MulGrades.ok (k : Nat) : impl_MulGrades.tw.Ok Try.prog k := by
  intro a r h
  refine fn_ok (H := xhn) (fh := impl_MulGrades.fh) (O := impl_MulGrades.O) (k := k) Try.func44 (by kernel_rfl) (by kernel_rfl) (fun j _ => (Tw.orc_sound impl_GradesValid.dok (impl_GradesValid.ok j) (Tw.orc_sound impl_filled_c.dok (impl_filled_c.ok j) noO_sound))) (by kernel_rfl) (m := 0) rfl ?_
  refine (impl_MulGrades.sf k a.1 a.2.1 a.2.2.1 a.2.2.2).trans ?_
  exact congrArg (Option.map _) h
def slices_Equal_int_int.l0 : Nat → (List Int) → (List Int) → Int → Int → Option (Bool)
  | 0, _, _, _, _ => none
  | k + 1, x0, x1, x12, x13 => (if x13 < x12 then (if 0 ≤ x13 then (if x13 < (x0.length : Int) then (if x13 < (x1.length : Int) then (if (rdI x0 x13) = (rdI x1 x13) then (slices_Equal_int_int.l0 k x0 x1 x12 (wrap64 (x13 + 1))) else (some false)) else none) else none) else none) else (some true))
def slices_Equal_int_int.f (k : Nat) (l0 : List Int) (l1 : List Int) : Option (Bool) := (if (l0.length : Int) = (l1.length : Int) then (slices_Equal_int_int.l0 k l0 l1 (l0.length : Int) 0) else (some false))
def slices_Equal_int_int.en (r : Bool) : Res := (.lit r, [])
def slices_Equal_int_int.dec : List AV → List R.Obj → Option ((List Int) × (List Int))
  | [.imm (.I .i64 l0), .imm (.I .i64 l1)], [] => some (l0, l1)
  | _, _ => none
def slices_Equal_int_int.tw : Tw := ⟨165, (List Int) × (List Int), Bool, slices_Equal_int_int.dec, fun a => [.imm (.I .i64 a.1), .imm (.I .i64 a.2)], fun a => [], fun k a => slices_Equal_int_int.f k a.1 a.2, fun a r => slices_Equal_int_int.en r⟩
theorem slices_Equal_int_int.dok : slices_Equal_int_int.tw.DecOk := by
  intro args hc a h
  have h : slices_Equal_int_int.dec args hc = some a := h
  unfold slices_Equal_int_int.dec at h
  split at h
  · cases h; exact ⟨rfl, rfl⟩
  · cases h
noncomputable def slices_Equal_int_int.O (k : Nat) : Oracle := noO
def slices_Equal_int_int.fh : FH := ⟨fun i => match i with | 4 => some [(0, 0), (1, 0), (12, 0), (13, 0)] | _ => none, [], false⟩
noncomputable def slices_Equal_int_int.x0 (k : Nat) (x0 : List Int) (x1 : List Int) (x12 : Int) (x13 : Int) : Option Res := R.exec Try.prog xhn slices_Equal_int_int.O 0 Try.f165 slices_Equal_int_int.fh k (R.point Try.f165 4) ⟨[(0, .imm (.I .i64 x0)), (1, .imm (.I .i64 x1)), (12, .int .i64 x12), (13, .int .i64 x13)], [], 2⟩
set_option maxRecDepth 100000 in
theorem slices_Equal_int_int.e0 (k : Nat) (x0 : List Int) (x1 : List Int) (x12 : Int) (x13 : Int) : slices_Equal_int_int.x0 (k + 1) x0 x1 x12 x13 = (if x13 < x12 then (if 0 ≤ x13 then (if x13 < (x0.length : Int) then (if x13 < (x1.length : Int) then (if (rdI x0 x13) = (rdI x1 x13) then (slices_Equal_int_int.x0 k x0 x1 x12 (wrap64 (x13 + 1))) else (some (slices_Equal_int_int.en false))) else none) else none) else none) else (some (slices_Equal_int_int.en true))) := by
  refine Eq.trans ?_ (R.icong (fun h0 => (R.icong (fun h1 => (R.icong (fun h2 => (R.idropT (p := 0 ≤ x13) (z := none) h1 rfl)) (fun h2 => rfl))) (fun h1 => rfl))) (fun h0 => rfl))
  kernel_rfl
set_option maxRecDepth 100000 in
theorem slices_Equal_int_int.ef (k : Nat) (l0 : List Int) (l1 : List Int) : R.start Try.prog xhn slices_Equal_int_int.O 0 Try.f165 slices_Equal_int_int.fh k [.imm (.I .i64 l0), .imm (.I .i64 l1)] [] = (if (l0.length : Int) = (l1.length : Int) then (slices_Equal_int_int.x0 k l0 l1 (l0.length : Int) 0) else (some (slices_Equal_int_int.en false))) := by kernel_rfl
theorem slices_Equal_int_int.link : ∀ k, (∀ (x0 : List Int) (x1 : List Int) (x12 : Int) (x13 : Int), slices_Equal_int_int.x0 k x0 x1 x12 x13 = (slices_Equal_int_int.l0 k x0 x1 x12 x13).map (slices_Equal_int_int.en))
  | 0 => fun _ _ _ _ => by simp only [slices_Equal_int_int.l0, R.map_none]; rfl
  | k + 1 => by
    have ih0 := slices_Equal_int_int.link k
    · intro x0 x1 x12 x13
      rw [slices_Equal_int_int.e0]
      simp only [slices_Equal_int_int.l0, R.map_ite, R.map_bind, R.map_none, R.map_some, ← ih0]
theorem slices_Equal_int_int.sf (k : Nat) (l0 : List Int) (l1 : List Int) : R.start Try.prog xhn slices_Equal_int_int.O 0 Try.f165 slices_Equal_int_int.fh k [.imm (.I .i64 l0), .imm (.I .i64 l1)] [] = (slices_Equal_int_int.f k l0 l1).map (slices_Equal_int_int.en) := by
  have ih0 := slices_Equal_int_int.link k
  rw [slices_Equal_int_int.ef]
  simp only [slices_Equal_int_int.f, R.map_ite, R.map_bind, R.map_none, R.map_some, ← ih0]
theorem slices_Equal_int_int.ok (k : Nat) : slices_Equal_int_int.tw.Ok Try.prog k := by
  intro a r h
  refine fn_ok (H := xhn) (fh := slices_Equal_int_int.fh) (O := slices_Equal_int_int.O) (k := k) Try.func165 (by kernel_rfl) (by kernel_rfl) (fun j _ => noO_sound) (by kernel_rfl) (m := 0) rfl ?_
  refine (slices_Equal_int_int.sf k a.1 a.2).trans ?_
  exact congrArg (Option.map _) h
def impl_SameMatrix.f (k : Nat) (a0_0 : Int) (l0_1 : List Int) (a1_0 : Int) (l1_1 : List Int) : Option (Bool) := (if a0_0 = a1_0 then ((slices_Equal_int_int.f k l0_1 l1_1).bind fun t1 => (some t1)) else (some false))
def impl_SameMatrix.en (r : Bool) : Res := (.lit r, [])
def impl_SameMatrix.dec : List AV → List R.Obj → Option (Int × (List Int) × Int × (List Int))
  | [.agg [.int .i64 a0_0, .imm (.I .i64 l0_1)], .agg [.int .i64 a1_0, .imm (.I .i64 l1_1)]], [] => some (a0_0, l0_1, a1_0, l1_1)
  | _, _ => none
def impl_SameMatrix.tw : Tw := ⟨116, Int × (List Int) × Int × (List Int), Bool, impl_SameMatrix.dec, fun a => [.agg [.int .i64 a.1, .imm (.I .i64 a.2.1)], .agg [.int .i64 a.2.2.1, .imm (.I .i64 a.2.2.2)]], fun a => [], fun k a => impl_SameMatrix.f k a.1 a.2.1 a.2.2.1 a.2.2.2, fun a r => impl_SameMatrix.en r⟩
theorem impl_SameMatrix.dok : impl_SameMatrix.tw.DecOk := by
  intro args hc a h
  have h : impl_SameMatrix.dec args hc = some a := h
  unfold impl_SameMatrix.dec at h
  split at h
  · cases h; exact ⟨rfl, rfl⟩
  · cases h
noncomputable def impl_SameMatrix.O (k : Nat) : Oracle := (slices_Equal_int_int.tw.orc k noO)
def impl_SameMatrix.fh : FH := ⟨fun i => match i with | _ => none, [], false⟩
set_option maxRecDepth 100000 in
theorem impl_SameMatrix.ef (k : Nat) (a0_0 : Int) (l0_1 : List Int) (a1_0 : Int) (l1_1 : List Int) : R.start Try.prog xhn impl_SameMatrix.O 0 Try.f116 impl_SameMatrix.fh k [.agg [.int .i64 a0_0, .imm (.I .i64 l0_1)], .agg [.int .i64 a1_0, .imm (.I .i64 l1_1)]] [] = (if a0_0 = a1_0 then ((slices_Equal_int_int.f k l0_1 l1_1).bind fun t1 => (some (impl_SameMatrix.en t1))) else (some (impl_SameMatrix.en false))) := by kernel_rfl
theorem impl_SameMatrix.sf (k : Nat) (a0_0 : Int) (l0_1 : List Int) (a1_0 : Int) (l1_1 : List Int) : R.start Try.prog xhn impl_SameMatrix.O 0 Try.f116 impl_SameMatrix.fh k [.agg [.int .i64 a0_0, .imm (.I .i64 l0_1)], .agg [.int .i64 a1_0, .imm (.I .i64 l1_1)]] [] = (impl_SameMatrix.f k a0_0 l0_1 a1_0 l1_1).map (impl_SameMatrix.en) := by
  rw [impl_SameMatrix.ef]
  simp only [impl_SameMatrix.f, R.map_ite, R.map_bind, R.map_none, R.map_some]
theorem impl_SameMatrix.ok (k : Nat) : impl_SameMatrix.tw.Ok Try.prog k := by
  intro a r h
  refine fn_ok (H := xhn) (fh := impl_SameMatrix.fh) (O := impl_SameMatrix.O) (k := k) Try.func116 (by kernel_rfl) (by kernel_rfl) (fun j _ => (Tw.orc_sound slices_Equal_int_int.dok (slices_Equal_int_int.ok j) noO_sound)) (by kernel_rfl) (m := 0) rfl ?_
  refine (impl_SameMatrix.sf k a.1 a.2.1 a.2.2.1 a.2.2.2).trans ?_
  exact congrArg (Option.map _) h
def impl_IsIdempotent.f (k : Nat) (a0_0 : Int) (l0_1 : List Int) : Option (Bool) := ((impl_MulGrades.f k a0_0 l0_1 a0_0 l0_1).bind fun t1 => (if t1.2.2 = true then ((impl_SameMatrix.f k t1.1 t1.2.1 a0_0 l0_1).bind fun t2 => (some t2)) else (some false)))
def impl_IsIdempotent.en (r : Bool) : Res := (.lit r, [])
def impl_IsIdempotent.dec : List AV → List R.Obj → Option (Int × (List Int))
  | [.agg [.int .i64 a0_0, .imm (.I .i64 l0_1)]], [] => some (a0_0, l0_1)
  | _, _ => none
def impl_IsIdempotent.tw : Tw := ⟨132, Int × (List Int), Bool, impl_IsIdempotent.dec, fun a => [.agg [.int .i64 a.1, .imm (.I .i64 a.2)]], fun a => [], fun k a => impl_IsIdempotent.f k a.1 a.2, fun a r => impl_IsIdempotent.en r⟩
theorem impl_IsIdempotent.dok : impl_IsIdempotent.tw.DecOk := by
  intro args hc a h
  have h : impl_IsIdempotent.dec args hc = some a := h
  unfold impl_IsIdempotent.dec at h
  split at h
  · cases h; exact ⟨rfl, rfl⟩
  · cases h
noncomputable def impl_IsIdempotent.O (k : Nat) : Oracle := (impl_MulGrades.tw.orc k (impl_SameMatrix.tw.orc k noO))
def impl_IsIdempotent.fh : FH := ⟨fun i => match i with | _ => none, [], false⟩
set_option maxRecDepth 100000 in
theorem impl_IsIdempotent.ef (k : Nat) (a0_0 : Int) (l0_1 : List Int) : R.start Try.prog xhn impl_IsIdempotent.O 0 Try.f132 impl_IsIdempotent.fh k [.agg [.int .i64 a0_0, .imm (.I .i64 l0_1)]] [] = ((impl_MulGrades.f k a0_0 l0_1 a0_0 l0_1).bind fun t1 => (if t1.2.2 = true then ((impl_SameMatrix.f k t1.1 t1.2.1 a0_0 l0_1).bind fun t2 => (some (impl_IsIdempotent.en t2))) else (some (impl_IsIdempotent.en false)))) := by kernel_rfl
theorem impl_IsIdempotent.sf (k : Nat) (a0_0 : Int) (l0_1 : List Int) : R.start Try.prog xhn impl_IsIdempotent.O 0 Try.f132 impl_IsIdempotent.fh k [.agg [.int .i64 a0_0, .imm (.I .i64 l0_1)]] [] = (impl_IsIdempotent.f k a0_0 l0_1).map (impl_IsIdempotent.en) := by
  rw [impl_IsIdempotent.ef]
  simp only [impl_IsIdempotent.f, R.map_ite, R.map_bind, R.map_none, R.map_some]
theorem impl_IsIdempotent.ok (k : Nat) : impl_IsIdempotent.tw.Ok Try.prog k := by
  intro a r h
  refine fn_ok (H := xhn) (fh := impl_IsIdempotent.fh) (O := impl_IsIdempotent.O) (k := k) Try.func132 (by kernel_rfl) (by kernel_rfl) (fun j _ => (Tw.orc_sound impl_MulGrades.dok (impl_MulGrades.ok j) (Tw.orc_sound impl_SameMatrix.dok (impl_SameMatrix.ok j) noO_sound))) (by kernel_rfl) (m := 0) rfl ?_
  refine (impl_IsIdempotent.sf k a.1 a.2).trans ?_
  exact congrArg (Option.map _) h
def impl_Stabilise_1.l0 : Nat → Int → Int → Int → Int → Int → Int → (List Int) → Option (Int)
  | 0, _, _, _, _, _, _, _ => none
  | k + 1, x0, x1, x6, x10, x11, y0_0, y0_1 => (if x11 < x10 then ((impl_Matrix_at.f y0_0 y0_1 x11 x11).bind fun t1 => (if t1 = 1 then ((impl_Matrix_at.f y0_0 y0_1 x0 x11).bind fun t2 => ((impl_Matrix_at.f y0_0 y0_1 x11 x1).bind fun t3 => (impl_Stabilise_1.l0 k x0 x1 (mn x6 (mx (mx t2 2) t3)) x10 (wrap64 (x11 + 1)) y0_0 y0_1))) else ((impl_Matrix_at.f y0_0 y0_1 x0 x11).bind fun t4 => ((impl_Matrix_at.f y0_0 y0_1 x11 x1).bind fun t5 => (impl_Stabilise_1.l0 k x0 x1 (mn x6 (mx (mx t4 t1) t5)) x10 (wrap64 (x11 + 1)) y0_0 y0_1))))) else (some x6))
def impl_Stabilise_1.f (k : Nat) (a0 : Int) (a1 : Int) (a3_0 : Int) (l3_1 : List Int) : Option (Int) := (impl_Stabilise_1.l0 k a0 a1 3 a3_0 0 a3_0 l3_1)
def impl_Stabilise_1.en (a3_0 : Int) (l3_1 : List Int) (r : Int) : Res := (.int .i64 r, [.box true [.int .i64 a3_0, .imm (.I .i64 l3_1)]])
def impl_Stabilise_1.dec : List AV → List R.Obj → Option (Int × Int × Int × (List Int))
  | [.int .i64 a0, .int .i64 a1, .ptr 0 0], [.box true [.int .i64 a3_0, .imm (.I .i64 l3_1)]] => some (a0, a1, a3_0, l3_1)
  | _, _ => none
def impl_Stabilise_1.tw : Tw := ⟨133, Int × Int × Int × (List Int), Int, impl_Stabilise_1.dec, fun a => [.int .i64 a.1, .int .i64 a.2.1, .ptr 0 0], fun a => [.box true [.int .i64 a.2.2.1, .imm (.I .i64 a.2.2.2)]], fun k a => impl_Stabilise_1.f k a.1 a.2.1 a.2.2.1 a.2.2.2, fun a r => impl_Stabilise_1.en a.2.2.1 a.2.2.2 r⟩
theorem impl_Stabilise_1.dok : impl_Stabilise_1.tw.DecOk := by
  intro args hc a h
  have h : impl_Stabilise_1.dec args hc = some a := h
  unfold impl_Stabilise_1.dec at h
  split at h
  · cases h; exact ⟨rfl, rfl⟩
  · cases h
noncomputable def impl_Stabilise_1.O (k : Nat) : Oracle := (impl_Matrix_at.tw.orc k noO)
def impl_Stabilise_1.fh : FH := ⟨fun i => match i with | 3 => some [(0, 0), (1, 0), (2, 0), (6, 0), (10, 0), (11, 0)] | _ => none, [], false⟩
noncomputable def impl_Stabilise_1.x0 (k : Nat) (x0 : Int) (x1 : Int) (x6 : Int) (x10 : Int) (x11 : Int) (y0_0 : Int) (y0_1 : List Int) : Option Res := R.exec Try.prog xhn impl_Stabilise_1.O 1 Try.f133 impl_Stabilise_1.fh k (R.point Try.f133 3) ⟨[(0, .int .i64 x0), (1, .int .i64 x1), (2, .ptr 0 0), (6, .int .i64 x6), (10, .int .i64 x10), (11, .int .i64 x11)], [(0, .box true [.int .i64 y0_0, .imm (.I .i64 y0_1)])], 3⟩
set_option maxRecDepth 100000 in
theorem impl_Stabilise_1.e0 (k : Nat) (x0 : Int) (x1 : Int) (x6 : Int) (x10 : Int) (x11 : Int) (y0_0 : Int) (y0_1 : List Int) : impl_Stabilise_1.x0 (k + 1) x0 x1 x6 x10 x11 y0_0 y0_1 = (if x11 < x10 then ((impl_Matrix_at.f y0_0 y0_1 x11 x11).bind fun t1 => (if t1 = 1 then ((impl_Matrix_at.f y0_0 y0_1 x0 x11).bind fun t2 => ((impl_Matrix_at.f y0_0 y0_1 x11 x1).bind fun t3 => (impl_Stabilise_1.x0 k x0 x1 (mn x6 (mx (mx t2 2) t3)) x10 (wrap64 (x11 + 1)) y0_0 y0_1))) else ((impl_Matrix_at.f y0_0 y0_1 x0 x11).bind fun t4 => ((impl_Matrix_at.f y0_0 y0_1 x11 x1).bind fun t5 => (impl_Stabilise_1.x0 k x0 x1 (mn x6 (mx (mx t4 t1) t5)) x10 (wrap64 (x11 + 1)) y0_0 y0_1))))) else (some (impl_Stabilise_1.en y0_0 y0_1 x6))) := by kernel_rfl
set_option maxRecDepth 100000 in
theorem impl_Stabilise_1.ef (k : Nat) (a0 : Int) (a1 : Int) (a3_0 : Int) (l3_1 : List Int) : R.start Try.prog xhn impl_Stabilise_1.O 1 Try.f133 impl_Stabilise_1.fh k [.int .i64 a0, .int .i64 a1, .ptr 0 0] [.box true [.int .i64 a3_0, .imm (.I .i64 l3_1)]] = (impl_Stabilise_1.x0 k a0 a1 3 a3_0 0 a3_0 l3_1) := by kernel_rfl
theorem impl_Stabilise_1.link : ∀ k, (∀ (x0 : Int) (x1 : Int) (x6 : Int) (x10 : Int) (x11 : Int) (y0_0 : Int) (y0_1 : List Int), impl_Stabilise_1.x0 k x0 x1 x6 x10 x11 y0_0 y0_1 = (impl_Stabilise_1.l0 k x0 x1 x6 x10 x11 y0_0 y0_1).map (impl_Stabilise_1.en y0_0 y0_1))
  | 0 => fun _ _ _ _ _ _ _ => by simp only [impl_Stabilise_1.l0, R.map_none]; rfl
  | k + 1 => by
    have ih0 := impl_Stabilise_1.link k
    · intro x0 x1 x6 x10 x11 y0_0 y0_1
      rw [impl_Stabilise_1.e0]
      simp only [impl_Stabilise_1.l0, R.map_ite, R.map_bind, R.map_none, R.map_some, ← ih0]
theorem impl_Stabilise_1.sf (k : Nat) (a0 : Int) (a1 : Int) (a3_0 : Int) (l3_1 : List Int) : R.start Try.prog xhn impl_Stabilise_1.O 1 Try.f133 impl_Stabilise_1.fh k [.int .i64 a0, .int .i64 a1, .ptr 0 0] [.box true [.int .i64 a3_0, .imm (.I .i64 l3_1)]] = (impl_Stabilise_1.f k a0 a1 a3_0 l3_1).map (impl_Stabilise_1.en a3_0 l3_1) := by
  have ih0 := impl_Stabilise_1.link k
  rw [impl_Stabilise_1.ef]
  simp only [impl_Stabilise_1.f, R.map_ite, R.map_bind, R.map_none, R.map_some, ← ih0]
theorem impl_Stabilise_1.ok (k : Nat) : impl_Stabilise_1.tw.Ok Try.prog k := by
  intro a r h
  refine fn_ok (H := xhn) (fh := impl_Stabilise_1.fh) (O := impl_Stabilise_1.O) (k := k) Try.func133 (by kernel_rfl) (by kernel_rfl) (fun j _ => (Tw.orc_sound impl_Matrix_at.dok (impl_Matrix_at.ok j) noO_sound)) (by kernel_rfl) (m := 1) rfl ?_
  refine (impl_Stabilise_1.sf k a.1 a.2.1 a.2.2.1 a.2.2.2).trans ?_
  exact congrArg (Option.map _) h
mutual
def impl_filled_d.l0 : Nat → Int → Int → Int → Int → (List Int) → Int → (List Int) → Option (Int × (List Int))
  | 0, _, _, _, _, _, _, _ => none
  | k + 1, x0, x10, x11, y0_0, y0_1, y2_0, y4 => (if x11 < x10 then (impl_filled_d.l1 k x0 x11 x10 x11 x0 0 y0_0 y0_1 y2_0 y4) else (some (y2_0, y4)))
def impl_filled_d.l1 : Nat → Int → Int → Int → Int → Int → Int → Int → (List Int) → Int → (List Int) → Option (Int × (List Int))
  | 0, _, _, _, _, _, _, _, _, _, _ => none
  | k + 1, x0, x6, x10, x11, x14, x15, y0_0, y0_1, y2_0, y4 => (if x15 < x14 then ((impl_Stabilise_1.f k x6 x15 y0_0 y0_1).bind fun t1 => (if y4.length < 17592186044416 then (impl_filled_d.l1 k x0 x6 x10 x11 x14 (wrap64 (x15 + 1)) y0_0 y0_1 y2_0 (y4 ++ [t1])) else none)) else (impl_filled_d.l0 k x0 x10 (wrap64 (x11 + 1)) y0_0 y0_1 y2_0 y4))
end
def impl_filled_d.f (k : Nat) (a0 : Int) (a2_0 : Int) (l2_1 : List Int) : Option (Int × (List Int)) := (impl_filled_d.l0 k a0 a0 0 a2_0 l2_1 a0 ([] : List Int))
def impl_filled_d.en (a2_0 : Int) (l2_1 : List Int) (r : Int × (List Int)) : Res := (.agg [.int .i64 r.1, .sl 1 0], [.box true [.int .i64 a2_0, .imm (.I .i64 l2_1)], .arr 3 0 (.I .i64 r.2) false])
def impl_filled_d.dec : List AV → List R.Obj → Option (Int × Int × (List Int))
  | [.int .i64 a0, .clo 133 [.ptr 0 0]], [.box true [.int .i64 a2_0, .imm (.I .i64 l2_1)]] => some (a0, a2_0, l2_1)
  | _, _ => none
def impl_filled_d.tw : Tw := ⟨107, Int × Int × (List Int), Int × (List Int), impl_filled_d.dec, fun a => [.int .i64 a.1, .clo 133 [.ptr 0 0]], fun a => [.box true [.int .i64 a.2.1, .imm (.I .i64 a.2.2)]], fun k a => impl_filled_d.f k a.1 a.2.1 a.2.2, fun a r => impl_filled_d.en a.2.1 a.2.2 r⟩
theorem impl_filled_d.dok : impl_filled_d.tw.DecOk := by
  intro args hc a h
  have h : impl_filled_d.dec args hc = some a := h
  unfold impl_filled_d.dec at h
  split at h
  · cases h; exact ⟨rfl, rfl⟩
  · cases h
noncomputable def impl_filled_d.O (k : Nat) : Oracle := (impl_Stabilise_1.tw.orc k noO)
def impl_filled_d.fh : FH := ⟨fun i => match i with | 3 => some [(0, 0), (1, 0), (4, 0), (5, 0), (10, 0), (11, 0)] | 6 => some [(0, 0), (1, 0), (4, 0), (5, 0), (6, 0), (10, 0), (11, 0), (14, 0), (15, 0)] | _ => none, [(true, 3)], false⟩
noncomputable def impl_filled_d.x0 (k : Nat) (x0 : Int) (x10 : Int) (x11 : Int) (y0_0 : Int) (y0_1 : List Int) (y2_0 : Int) (y4 : List Int) : Option Res := R.exec Try.prog xhn impl_filled_d.O 1 Try.f107 impl_filled_d.fh k (R.point Try.f107 3) ⟨[(0, .int .i64 x0), (1, .clo 133 [.ptr 0 0]), (4, .ptr 1 0), (5, .ptr 2 0), (10, .int .i64 x10), (11, .int .i64 x11)], [(0, .box true [.int .i64 y0_0, .imm (.I .i64 y0_1)]), (1, .box false [.int .i64 0, .sl 3 0]), (2, .box false [.int .i64 y2_0, .sl 4 0]), (3, .arr 3 0 (.I .i64 ([] : List Int)) false), (4, .arr 3 0 (.I .i64 y4) false)], 7⟩
noncomputable def impl_filled_d.x1 (k : Nat) (x0 : Int) (x6 : Int) (x10 : Int) (x11 : Int) (x14 : Int) (x15 : Int) (y0_0 : Int) (y0_1 : List Int) (y2_0 : Int) (y4 : List Int) : Option Res := R.exec Try.prog xhn impl_filled_d.O 1 Try.f107 impl_filled_d.fh k (R.point Try.f107 6) ⟨[(0, .int .i64 x0), (1, .clo 133 [.ptr 0 0]), (4, .ptr 1 0), (5, .ptr 2 0), (6, .int .i64 x6), (10, .int .i64 x10), (11, .int .i64 x11), (14, .int .i64 x14), (15, .int .i64 x15)], [(0, .box true [.int .i64 y0_0, .imm (.I .i64 y0_1)]), (1, .box false [.int .i64 0, .sl 3 0]), (2, .box false [.int .i64 y2_0, .sl 4 0]), (3, .arr 3 0 (.I .i64 ([] : List Int)) false), (4, .arr 3 0 (.I .i64 y4) false)], 7⟩
set_option maxRecDepth 100000 in
theorem impl_filled_d.e0 (k : Nat) (x0 : Int) (x10 : Int) (x11 : Int) (y0_0 : Int) (y0_1 : List Int) (y2_0 : Int) (y4 : List Int) : impl_filled_d.x0 (k + 1) x0 x10 x11 y0_0 y0_1 y2_0 y4 = (if x11 < x10 then (impl_filled_d.x1 k x0 x11 x10 x11 x0 0 y0_0 y0_1 y2_0 y4) else (some (impl_filled_d.en y0_0 y0_1 (y2_0, y4)))) := by kernel_rfl
set_option maxRecDepth 100000 in
theorem impl_filled_d.e1 (k : Nat) (x0 : Int) (x6 : Int) (x10 : Int) (x11 : Int) (x14 : Int) (x15 : Int) (y0_0 : Int) (y0_1 : List Int) (y2_0 : Int) (y4 : List Int) : impl_filled_d.x1 (k + 1) x0 x6 x10 x11 x14 x15 y0_0 y0_1 y2_0 y4 = (if x15 < x14 then ((impl_Stabilise_1.f k x6 x15 y0_0 y0_1).bind fun t1 => (if y4.length < 17592186044416 then (impl_filled_d.x1 k x0 x6 x10 x11 x14 (wrap64 (x15 + 1)) y0_0 y0_1 y2_0 (y4 ++ [t1])) else none)) else (impl_filled_d.x0 k x0 x10 (wrap64 (x11 + 1)) y0_0 y0_1 y2_0 y4)) := by kernel_rfl
set_option maxRecDepth 100000 in
theorem impl_filled_d.ef (k : Nat) (a0 : Int) (a2_0 : Int) (l2_1 : List Int) : R.start Try.prog xhn impl_filled_d.O 1 Try.f107 impl_filled_d.fh k [.int .i64 a0, .clo 133 [.ptr 0 0]] [.box true [.int .i64 a2_0, .imm (.I .i64 l2_1)]] = (impl_filled_d.x0 k a0 a0 0 a2_0 l2_1 a0 ([] : List Int)) := by kernel_rfl
theorem impl_filled_d.link : ∀ k, (∀ (x0 : Int) (x10 : Int) (x11 : Int) (y0_0 : Int) (y0_1 : List Int) (y2_0 : Int) (y4 : List Int), impl_filled_d.x0 k x0 x10 x11 y0_0 y0_1 y2_0 y4 = (impl_filled_d.l0 k x0 x10 x11 y0_0 y0_1 y2_0 y4).map (impl_filled_d.en y0_0 y0_1)) ∧ (∀ (x0 : Int) (x6 : Int) (x10 : Int) (x11 : Int) (x14 : Int) (x15 : Int) (y0_0 : Int) (y0_1 : List Int) (y2_0 : Int) (y4 : List Int), impl_filled_d.x1 k x0 x6 x10 x11 x14 x15 y0_0 y0_1 y2_0 y4 = (impl_filled_d.l1 k x0 x6 x10 x11 x14 x15 y0_0 y0_1 y2_0 y4).map (impl_filled_d.en y0_0 y0_1))
  | 0 => ⟨fun _ _ _ _ _ _ _ => by simp only [impl_filled_d.l0, R.map_none]; rfl, fun _ _ _ _ _ _ _ _ _ _ => by simp only [impl_filled_d.l1, R.map_none]; rfl⟩
  | k + 1 => by
    obtain ⟨ih0, ih1⟩ := impl_filled_d.link k
    refine ⟨?_, ?_⟩
    · intro x0 x10 x11 y0_0 y0_1 y2_0 y4
      rw [impl_filled_d.e0]
      simp only [impl_filled_d.l0, R.map_ite, R.map_bind, R.map_none, R.map_some, ← ih0, ← ih1]
    · intro x0 x6 x10 x11 x14 x15 y0_0 y0_1 y2_0 y4
      rw [impl_filled_d.e1]
      simp only [impl_filled_d.l1, R.map_ite, R.map_bind, R.map_none, R.map_some, ← ih0, ← ih1]
theorem impl_filled_d.sf (k : Nat) (a0 : Int) (a2_0 : Int) (l2_1 : List Int) : R.start Try.prog xhn impl_filled_d.O 1 Try.f107 impl_filled_d.fh k [.int .i64 a0, .clo 133 [.ptr 0 0]] [.box true [.int .i64 a2_0, .imm (.I .i64 l2_1)]] = (impl_filled_d.f k a0 a2_0 l2_1).map (impl_filled_d.en a2_0 l2_1) := by
  obtain ⟨ih0, ih1⟩ := impl_filled_d.link k
  rw [impl_filled_d.ef]
  simp only [impl_filled_d.f, R.map_ite, R.map_bind, R.map_none, R.map_some, ← ih0, ← ih1]
theorem impl_filled_d.ok (k : Nat) : impl_filled_d.tw.Ok Try.prog k := by
  intro a r h
  refine fn_ok (H := xhn) (fh := impl_filled_d.fh) (O := impl_filled_d.O) (k := k) Try.func107 (by kernel_rfl) (by kernel_rfl) (fun j _ => (Tw.orc_sound impl_Stabilise_1.dok (impl_Stabilise_1.ok j) noO_sound)) (by kernel_rfl) (m := 1) rfl ?_
  refine (impl_filled_d.sf k a.1 a.2.1 a.2.2).trans ?_
  exact congrArg (Option.map _) h
def impl_Stabilise.f (k : Nat) (a0_0 : Int) (l0_1 : List Int) : Option (Int × (List Int) × Bool) := ((impl_IsIdempotent.f k a0_0 l0_1).bind fun t1 => (if t1 = true then ((impl_filled_d.f k a0_0 a0_0 l0_1).bind fun t2 => (some (t2.1, t2.2, true))) else (some (0, ([] : List Int), false))))
def impl_Stabilise.en (r : Int × (List Int) × Bool) : Res := (.tup [.agg [.int .i64 r.1, .sl 0 0], .lit r.2.2], [.arr 3 0 (.I .i64 r.2.1) false])
def impl_Stabilise.dec : List AV → List R.Obj → Option (Int × (List Int))
  | [.agg [.int .i64 a0_0, .imm (.I .i64 l0_1)]], [] => some (a0_0, l0_1)
  | _, _ => none
def impl_Stabilise.tw : Tw := ⟨66, Int × (List Int), Int × (List Int) × Bool, impl_Stabilise.dec, fun a => [.agg [.int .i64 a.1, .imm (.I .i64 a.2)]], fun a => [], fun k a => impl_Stabilise.f k a.1 a.2, fun a r => impl_Stabilise.en r⟩
theorem impl_Stabilise.dok : impl_Stabilise.tw.DecOk := by
  intro args hc a h
  have h : impl_Stabilise.dec args hc = some a := h
  unfold impl_Stabilise.dec at h
  split at h
  · cases h; exact ⟨rfl, rfl⟩
  · cases h
noncomputable def impl_Stabilise.O (k : Nat) : Oracle := (impl_IsIdempotent.tw.orc k (impl_filled_d.tw.orc k noO))
def impl_Stabilise.fh : FH := ⟨fun i => match i with | _ => none, [(true, 3)], false⟩
set_option maxRecDepth 100000 in
theorem impl_Stabilise.ef (k : Nat) (a0_0 : Int) (l0_1 : List Int) : R.start Try.prog xhn impl_Stabilise.O 0 Try.f66 impl_Stabilise.fh k [.agg [.int .i64 a0_0, .imm (.I .i64 l0_1)]] [] = ((impl_IsIdempotent.f k a0_0 l0_1).bind fun t1 => (if t1 = true then ((impl_filled_d.f k a0_0 a0_0 l0_1).bind fun t2 => (some (impl_Stabilise.en (t2.1, t2.2, true)))) else (some (impl_Stabilise.en (0, ([] : List Int), false))))) := by kernel_rfl
theorem impl_Stabilise.sf (k : Nat) (a0_0 : Int) (l0_1 : List Int) : R.start Try.prog xhn impl_Stabilise.O 0 Try.f66 impl_Stabilise.fh k [.agg [.int .i64 a0_0, .imm (.I .i64 l0_1)]] [] = (impl_Stabilise.f k a0_0 l0_1).map (impl_Stabilise.en) := by
  rw [impl_Stabilise.ef]
  simp only [impl_Stabilise.f, R.map_ite, R.map_bind, R.map_none, R.map_some]
theorem impl_Stabilise.ok (k : Nat) : impl_Stabilise.tw.Ok Try.prog k := by
  intro a r h
  refine fn_ok (H := xhn) (fh := impl_Stabilise.fh) (O := impl_Stabilise.O) (k := k) Try.func66 (by kernel_rfl) (by kernel_rfl) (fun j _ => (Tw.orc_sound impl_IsIdempotent.dok (impl_IsIdempotent.ok j) (Tw.orc_sound impl_filled_d.dok (impl_filled_d.ok j) noO_sound))) (by kernel_rfl) (m := 0) rfl ?_
  refine (impl_Stabilise.sf k a.1 a.2).trans ?_
  exact congrArg (Option.map _) h
mutual
def impl_value.l0 : Nat → (List Part) → Int → Int → Int → (List Int) → (List Int) → (List Stp) → Int → (List Int) → Option (Int × (List Int) × Bool)
  | 0, _, _, _, _, _, _, _, _, _ => none
  | k + 1, x13, x14, x15, y0_0, y0_1, y0_2, y0_3, y2_0, y4 => (if x15 < x14 then (if 0 ≤ x15 then (if x15 < (x13.length : Int) then (if (rdP x13 x15).f0.toList = ([] : List UInt8) then ((impl_value.f k y0_0 y0_1 y0_2 y0_3 ((rdP x13 x15).f1)).bind fun t1 => (if t1.2.2 = true then ((impl_Stabilise.f k t1.1 t1.2.1).bind fun t2 => (if t2.2.2 = true then (if x15 > 0 then ((impl_MulGrades.f k y2_0 y4 t2.1 t2.2.1).bind fun t3 => (impl_value.l0 k x13 x14 (wrap64 (x15 + 1)) y0_0 y0_1 y0_2 y0_3 t3.1 t3.2.1)) else (impl_value.l0 k x13 x14 (wrap64 (x15 + 1)) y0_0 y0_1 y0_2 y0_3 t2.1 t2.2.1)) else (some (0, ([] : List Int), false)))) else (some (0, ([] : List Int), false)))) else ((impl_StepMatrix.f k y0_0 y0_1 y0_2 y0_3 ((rdP x13 x15).f0)).bind fun t5 => ((impl_GradesOf.f k t5.1 t5.2.1).bind fun t6 => (if x15 > 0 then ((impl_MulGrades.f k y2_0 y4 t6.1 t6.2.1).bind fun t7 => (impl_value.l0 k x13 x14 (wrap64 (x15 + 1)) y0_0 y0_1 y0_2 y0_3 t7.1 t7.2.1)) else (impl_value.l0 k x13 x14 (wrap64 (x15 + 1)) y0_0 y0_1 y0_2 y0_3 t6.1 t6.2.1))))) else none) else none) else (some (y2_0, y4, true)))
def impl_value.f : Nat → Int → (List Int) → (List Int) → (List Stp) → (List Part) → Option (Int × (List Int) × Bool)
  | 0, _, _, _, _, _ => none
  | k + 1, a0_0, l0_1, l0_2, l0_3, l1 => (impl_value.l0 k l1 (l1.length : Int) 0 a0_0 l0_1 l0_2 l0_3 0 ([] : List Int))
end
def impl_value.en (r : Int × (List Int) × Bool) : Res := (.tup [.agg [.int .i64 r.1, .sl 0 0], .lit r.2.2], [.arr 3 0 (.I .i64 r.2.1) false])
def impl_value.dec : List AV → List R.Obj → Option (Int × (List Int) × (List Int) × (List Stp) × (List Part))
  | [.agg [.int .i64 a0_0, .imm (.I .i64 l0_1), .imm (.I .i64 l0_2), .imm (.T l0_3)], .imm (.P l1)], [] => some (a0_0, l0_1, l0_2, l0_3, l1)
  | _, _ => none
def impl_value.tw : Tw := ⟨131, Int × (List Int) × (List Int) × (List Stp) × (List Part), Int × (List Int) × Bool, impl_value.dec, fun a => [.agg [.int .i64 a.1, .imm (.I .i64 a.2.1), .imm (.I .i64 a.2.2.1), .imm (.T a.2.2.2.1)], .imm (.P a.2.2.2.2)], fun a => [], fun k a => impl_value.f k a.1 a.2.1 a.2.2.1 a.2.2.2.1 a.2.2.2.2, fun a r => impl_value.en r⟩
theorem impl_value.dok : impl_value.tw.DecOk := by
  intro args hc a h
  have h : impl_value.dec args hc = some a := h
  unfold impl_value.dec at h
  split at h
  · cases h; exact ⟨rfl, rfl⟩
  · cases h
noncomputable def impl_value.O (k : Nat) : Oracle := (impl_Stabilise.tw.orc k (impl_MulGrades.tw.orc k (impl_StepMatrix.tw.orc k (impl_GradesOf.tw.orc k (impl_value.tw.orc k noO)))))
def impl_value.fh : FH := ⟨fun i => match i with | 3 => some [(2, 0), (4, 0), (6, 0), (13, 0), (14, 0), (15, 0)] | _ => none, [(true, 3)], false⟩
noncomputable def impl_value.x0 (k : Nat) (x13 : List Part) (x14 : Int) (x15 : Int) (y0_0 : Int) (y0_1 : List Int) (y0_2 : List Int) (y0_3 : List Stp) (y2_0 : Int) (y4 : List Int) : Option Res := R.exec Try.prog xhn impl_value.O 0 Try.f131 impl_value.fh k (R.point Try.f131 3) ⟨[(2, .ptr 0 0), (4, .ptr 1 0), (6, .ptr 2 0), (13, .imm (.P x13)), (14, .int .i64 x14), (15, .int .i64 x15)], [(0, .box false [.int .i64 y0_0, .imm (.I .i64 y0_1), .imm (.I .i64 y0_2), .imm (.T y0_3)]), (1, .box false [.int .i64 0, .sl 3 0]), (2, .box false [.int .i64 y2_0, .sl 4 0]), (3, .arr 3 0 (.I .i64 ([] : List Int)) false), (4, .arr 3 0 (.I .i64 y4) false)], 7⟩
set_option maxRecDepth 100000 in
theorem impl_value.e0 (k : Nat) (x13 : List Part) (x14 : Int) (x15 : Int) (y0_0 : Int) (y0_1 : List Int) (y0_2 : List Int) (y0_3 : List Stp) (y2_0 : Int) (y4 : List Int) : impl_value.x0 (k + 1) x13 x14 x15 y0_0 y0_1 y0_2 y0_3 y2_0 y4 = (if x15 < x14 then (if 0 ≤ x15 then (if x15 < (x13.length : Int) then (if (rdP x13 x15).f0.toList = ([] : List UInt8) then ((impl_value.f k y0_0 y0_1 y0_2 y0_3 ((rdP x13 x15).f1)).bind fun t1 => (if t1.2.2 = true then ((impl_Stabilise.f k t1.1 t1.2.1).bind fun t2 => (if t2.2.2 = true then (if x15 > 0 then ((impl_MulGrades.f k y2_0 y4 t2.1 t2.2.1).bind fun t3 => (impl_value.x0 k x13 x14 (wrap64 (x15 + 1)) y0_0 y0_1 y0_2 y0_3 t3.1 t3.2.1)) else (impl_value.x0 k x13 x14 (wrap64 (x15 + 1)) y0_0 y0_1 y0_2 y0_3 t2.1 t2.2.1)) else (some (impl_value.en (0, ([] : List Int), false))))) else (some (impl_value.en (0, ([] : List Int), false))))) else ((impl_StepMatrix.f k y0_0 y0_1 y0_2 y0_3 ((rdP x13 x15).f0)).bind fun t5 => ((impl_GradesOf.f k t5.1 t5.2.1).bind fun t6 => (if x15 > 0 then ((impl_MulGrades.f k y2_0 y4 t6.1 t6.2.1).bind fun t7 => (impl_value.x0 k x13 x14 (wrap64 (x15 + 1)) y0_0 y0_1 y0_2 y0_3 t7.1 t7.2.1)) else (impl_value.x0 k x13 x14 (wrap64 (x15 + 1)) y0_0 y0_1 y0_2 y0_3 t6.1 t6.2.1))))) else none) else none) else (some (impl_value.en (y2_0, y4, true)))) := by
  refine Eq.trans ?_ (R.icong (fun h0 => (R.icong (fun h1 => (R.icong (fun h2 => (R.icong (fun h3 => (R.bcong fun t1 => (R.icong (fun h4 => rfl) (fun h4 => (R.idropF (p := t1.2.2 = true) (z := (if x15 > 0 then ((impl_MulGrades.f k y2_0 y4 t1.1 t1.2.1).bind fun t4 => (impl_value.x0 k x13 x14 (wrap64 (x15 + 1)) y0_0 y0_1 y0_2 y0_3 t4.1 t4.2.1)) else (impl_value.x0 k x13 x14 (wrap64 (x15 + 1)) y0_0 y0_1 y0_2 y0_3 t1.1 t1.2.1))) h4 rfl))))) (fun h3 => rfl))) (fun h2 => rfl))) (fun h1 => rfl))) (fun h0 => rfl))
  kernel_rfl
set_option maxRecDepth 100000 in
theorem impl_value.ef (k : Nat) (a0_0 : Int) (l0_1 : List Int) (l0_2 : List Int) (l0_3 : List Stp) (l1 : List Part) : R.start Try.prog xhn impl_value.O 0 Try.f131 impl_value.fh k [.agg [.int .i64 a0_0, .imm (.I .i64 l0_1), .imm (.I .i64 l0_2), .imm (.T l0_3)], .imm (.P l1)] [] = (impl_value.x0 k l1 (l1.length : Int) 0 a0_0 l0_1 l0_2 l0_3 0 ([] : List Int)) := by kernel_rfl
theorem impl_value.link : ∀ k, (∀ (x13 : List Part) (x14 : Int) (x15 : Int) (y0_0 : Int) (y0_1 : List Int) (y0_2 : List Int) (y0_3 : List Stp) (y2_0 : Int) (y4 : List Int), impl_value.x0 k x13 x14 x15 y0_0 y0_1 y0_2 y0_3 y2_0 y4 = (impl_value.l0 k x13 x14 x15 y0_0 y0_1 y0_2 y0_3 y2_0 y4).map (impl_value.en))
  | 0 => fun _ _ _ _ _ _ _ _ _ => by simp only [impl_value.l0, R.map_none]; rfl
  | k + 1 => by
    have ih0 := impl_value.link k
    · intro x13 x14 x15 y0_0 y0_1 y0_2 y0_3 y2_0 y4
      rw [impl_value.e0]
      simp only [impl_value.l0, R.map_ite, R.map_bind, R.map_none, R.map_some, ← ih0]
theorem impl_value.sf (k : Nat) (a0_0 : Int) (l0_1 : List Int) (l0_2 : List Int) (l0_3 : List Stp) (l1 : List Part) : R.start Try.prog xhn impl_value.O 0 Try.f131 impl_value.fh k [.agg [.int .i64 a0_0, .imm (.I .i64 l0_1), .imm (.I .i64 l0_2), .imm (.T l0_3)], .imm (.P l1)] [] = (impl_value.f (k + 1) a0_0 l0_1 l0_2 l0_3 l1).map (impl_value.en) := by
  have ih0 := impl_value.link k
  rw [impl_value.ef]
  simp only [impl_value.f, R.map_ite, R.map_bind, R.map_none, R.map_some, ← ih0]
theorem impl_value.ok : ∀ k, impl_value.tw.Ok Try.prog k := by
  intro k
  induction k using Nat.strongRecOn with
  | ind k ih =>
    cases k with
    | zero =>
      intro a r h
      have h : impl_value.f 0 a.1 a.2.1 a.2.2.1 a.2.2.2.1 a.2.2.2.2 = some r := h
      simp only [impl_value.f] at h
      cases h
    | succ k =>
      intro a r h
      refine fn_ok (H := xhn) (fh := impl_value.fh) (O := impl_value.O) (k := k) Try.func131 (by kernel_rfl) (by kernel_rfl) (fun j hj => (Tw.orc_sound impl_Stabilise.dok (impl_Stabilise.ok j) (Tw.orc_sound impl_MulGrades.dok (impl_MulGrades.ok j) (Tw.orc_sound impl_StepMatrix.dok (impl_StepMatrix.ok j) (Tw.orc_sound impl_GradesOf.dok (impl_GradesOf.ok j) (Tw.orc_sound impl_value.dok (ih j (by omega)) noO_sound)))))) (by kernel_rfl) (m := 0) rfl ?_
      refine (impl_value.sf k a.1 a.2.1 a.2.2.1 a.2.2.2.1 a.2.2.2.2).trans ?_
      exact congrArg (Option.map _) h
def impl_ValueOf.f (k : Nat) (a0_0 : Int) (l0_1 : List Int) (l0_2 : List Int) (l0_3 : List Stp) (a1 : ByteArray) : Option (Int × (List Int) × Bool) := ((impl_parts.f k a1).bind fun t1 => (if t1.2 = true then ((impl_AutomatonValid.f k a0_0 l0_1 l0_2 l0_3).bind fun t2 => (if t2 = true then ((impl_value.f k a0_0 l0_1 l0_2 l0_3 t1.1).bind fun t3 => (some (t3.1, t3.2.1, t3.2.2))) else (some (0, ([] : List Int), false)))) else (some (0, ([] : List Int), false))))
def impl_ValueOf.en (r : Int × (List Int) × Bool) : Res := (.tup [.agg [.int .i64 r.1, .sl 0 0], .lit r.2.2], [.arr 3 0 (.I .i64 r.2.1) false])
def impl_ValueOf.dec : List AV → List R.Obj → Option (Int × (List Int) × (List Int) × (List Stp) × ByteArray)
  | [.agg [.int .i64 a0_0, .imm (.I .i64 l0_1), .imm (.I .i64 l0_2), .imm (.T l0_3)], .str a1], [] => some (a0_0, l0_1, l0_2, l0_3, a1)
  | _, _ => none
def impl_ValueOf.tw : Tw := ⟨65, Int × (List Int) × (List Int) × (List Stp) × ByteArray, Int × (List Int) × Bool, impl_ValueOf.dec, fun a => [.agg [.int .i64 a.1, .imm (.I .i64 a.2.1), .imm (.I .i64 a.2.2.1), .imm (.T a.2.2.2.1)], .str a.2.2.2.2], fun a => [], fun k a => impl_ValueOf.f k a.1 a.2.1 a.2.2.1 a.2.2.2.1 a.2.2.2.2, fun a r => impl_ValueOf.en r⟩
theorem impl_ValueOf.dok : impl_ValueOf.tw.DecOk := by
  intro args hc a h
  have h : impl_ValueOf.dec args hc = some a := h
  unfold impl_ValueOf.dec at h
  split at h
  · cases h; exact ⟨rfl, rfl⟩
  · cases h
noncomputable def impl_ValueOf.O (k : Nat) : Oracle := (impl_parts.tw.orc k (impl_AutomatonValid.tw.orc k (impl_value.tw.orc k noO)))
def impl_ValueOf.fh : FH := ⟨fun i => match i with | _ => none, [(true, 3)], false⟩
set_option maxRecDepth 100000 in
theorem impl_ValueOf.ef (k : Nat) (a0_0 : Int) (l0_1 : List Int) (l0_2 : List Int) (l0_3 : List Stp) (a1 : ByteArray) : R.start Try.prog xhn impl_ValueOf.O 0 Try.f65 impl_ValueOf.fh k [.agg [.int .i64 a0_0, .imm (.I .i64 l0_1), .imm (.I .i64 l0_2), .imm (.T l0_3)], .str a1] [] = ((impl_parts.f k a1).bind fun t1 => (if t1.2 = true then ((impl_AutomatonValid.f k a0_0 l0_1 l0_2 l0_3).bind fun t2 => (if t2 = true then ((impl_value.f k a0_0 l0_1 l0_2 l0_3 t1.1).bind fun t3 => (some (impl_ValueOf.en (t3.1, t3.2.1, t3.2.2)))) else (some (impl_ValueOf.en (0, ([] : List Int), false))))) else (some (impl_ValueOf.en (0, ([] : List Int), false))))) := by kernel_rfl
theorem impl_ValueOf.sf (k : Nat) (a0_0 : Int) (l0_1 : List Int) (l0_2 : List Int) (l0_3 : List Stp) (a1 : ByteArray) : R.start Try.prog xhn impl_ValueOf.O 0 Try.f65 impl_ValueOf.fh k [.agg [.int .i64 a0_0, .imm (.I .i64 l0_1), .imm (.I .i64 l0_2), .imm (.T l0_3)], .str a1] [] = (impl_ValueOf.f k a0_0 l0_1 l0_2 l0_3 a1).map (impl_ValueOf.en) := by
  rw [impl_ValueOf.ef]
  simp only [impl_ValueOf.f, R.map_ite, R.map_bind, R.map_none, R.map_some]
theorem impl_ValueOf.ok (k : Nat) : impl_ValueOf.tw.Ok Try.prog k := by
  intro a r h
  refine fn_ok (H := xhn) (fh := impl_ValueOf.fh) (O := impl_ValueOf.O) (k := k) Try.func65 (by kernel_rfl) (by kernel_rfl) (fun j _ => (Tw.orc_sound impl_parts.dok (impl_parts.ok j) (Tw.orc_sound impl_AutomatonValid.dok (impl_AutomatonValid.ok j) (Tw.orc_sound impl_value.dok (impl_value.ok j) noO_sound)))) (by kernel_rfl) (m := 0) rfl ?_
  refine (impl_ValueOf.sf k a.1 a.2.1 a.2.2.1 a.2.2.2.1 a.2.2.2.2).trans ?_
  exact congrArg (Option.map _) h
def impl_found_put_1.f (k : Nat) (a0_0 : Int) (l0_1 : List Int) (a0_2 : ByteArray) (a2_0 : Int) (l2_1 : List Int) : Option (Bool) := ((impl_SameMatrix.f k a0_0 l0_1 a2_0 l2_1).bind fun t1 => (some t1))
def impl_found_put_1.en (a2_0 : Int) (l2_1 : List Int) (r : Bool) : Res := (.lit r, [.box true [.int .i64 a2_0, .imm (.I .i64 l2_1)]])
def impl_found_put_1.dec : List AV → List R.Obj → Option (Int × (List Int) × ByteArray × Int × (List Int))
  | [.agg [.int .i64 a0_0, .imm (.I .i64 l0_1), .str a0_2], .ptr 0 0], [.box true [.int .i64 a2_0, .imm (.I .i64 l2_1)]] => some (a0_0, l0_1, a0_2, a2_0, l2_1)
  | _, _ => none
def impl_found_put_1.tw : Tw := ⟨171, Int × (List Int) × ByteArray × Int × (List Int), Bool, impl_found_put_1.dec, fun a => [.agg [.int .i64 a.1, .imm (.I .i64 a.2.1), .str a.2.2.1], .ptr 0 0], fun a => [.box true [.int .i64 a.2.2.2.1, .imm (.I .i64 a.2.2.2.2)]], fun k a => impl_found_put_1.f k a.1 a.2.1 a.2.2.1 a.2.2.2.1 a.2.2.2.2, fun a r => impl_found_put_1.en a.2.2.2.1 a.2.2.2.2 r⟩
theorem impl_found_put_1.dok : impl_found_put_1.tw.DecOk := by
  intro args hc a h
  have h : impl_found_put_1.dec args hc = some a := h
  unfold impl_found_put_1.dec at h
  split at h
  · cases h; exact ⟨rfl, rfl⟩
  · cases h
noncomputable def impl_found_put_1.O (k : Nat) : Oracle := (impl_SameMatrix.tw.orc k noO)
def impl_found_put_1.fh : FH := ⟨fun i => match i with | _ => none, [], false⟩
set_option maxRecDepth 100000 in
theorem impl_found_put_1.ef (k : Nat) (a0_0 : Int) (l0_1 : List Int) (a0_2 : ByteArray) (a2_0 : Int) (l2_1 : List Int) : R.start Try.prog xhn impl_found_put_1.O 1 Try.f171 impl_found_put_1.fh k [.agg [.int .i64 a0_0, .imm (.I .i64 l0_1), .str a0_2], .ptr 0 0] [.box true [.int .i64 a2_0, .imm (.I .i64 l2_1)]] = ((impl_SameMatrix.f k a0_0 l0_1 a2_0 l2_1).bind fun t1 => (some (impl_found_put_1.en a2_0 l2_1 t1))) := by kernel_rfl
theorem impl_found_put_1.sf (k : Nat) (a0_0 : Int) (l0_1 : List Int) (a0_2 : ByteArray) (a2_0 : Int) (l2_1 : List Int) : R.start Try.prog xhn impl_found_put_1.O 1 Try.f171 impl_found_put_1.fh k [.agg [.int .i64 a0_0, .imm (.I .i64 l0_1), .str a0_2], .ptr 0 0] [.box true [.int .i64 a2_0, .imm (.I .i64 l2_1)]] = (impl_found_put_1.f k a0_0 l0_1 a0_2 a2_0 l2_1).map (impl_found_put_1.en a2_0 l2_1) := by
  rw [impl_found_put_1.ef]
  simp only [impl_found_put_1.f, R.map_ite, R.map_bind, R.map_none, R.map_some]
theorem impl_found_put_1.ok (k : Nat) : impl_found_put_1.tw.Ok Try.prog k := by
  intro a r h
  refine fn_ok (H := xhn) (fh := impl_found_put_1.fh) (O := impl_found_put_1.O) (k := k) Try.func171 (by kernel_rfl) (by kernel_rfl) (fun j _ => (Tw.orc_sound impl_SameMatrix.dok (impl_SameMatrix.ok j) noO_sound)) (by kernel_rfl) (m := 1) rfl ?_
  refine (impl_found_put_1.sf k a.1 a.2.1 a.2.2.1 a.2.2.2.1 a.2.2.2.2).trans ?_
  exact congrArg (Option.map _) h
def slices_IndexFunc_impl_Element_impl_Element.l0 : Nat → (List Elm) → Int → Int → Int → (List Int) → Option (Int)
  | 0, _, _, _, _, _ => none
  | k + 1, x0, x7, x8, y0_0, y0_1 => (if x8 < x7 then (if 0 ≤ x8 then (if x8 < (x0.length : Int) then ((impl_found_put_1.f k ((rdE x0 x8).f0) ((rdE x0 x8).f1) ((rdE x0 x8).f2) y0_0 y0_1).bind fun t1 => (if t1 = true then (some x8) else (slices_IndexFunc_impl_Element_impl_Element.l0 k x0 x7 (wrap64 (x8 + 1)) y0_0 y0_1))) else none) else none) else (some (-1)))
def slices_IndexFunc_impl_Element_impl_Element.f (k : Nat) (l0 : List Elm) (a2_0 : Int) (l2_1 : List Int) : Option (Int) := (slices_IndexFunc_impl_Element_impl_Element.l0 k l0 (l0.length : Int) 0 a2_0 l2_1)
def slices_IndexFunc_impl_Element_impl_Element.en (a2_0 : Int) (l2_1 : List Int) (r : Int) : Res := (.int .i64 r, [.box true [.int .i64 a2_0, .imm (.I .i64 l2_1)]])
def slices_IndexFunc_impl_Element_impl_Element.dec : List AV → List R.Obj → Option ((List Elm) × Int × (List Int))
  | [.imm (.E l0), .clo 171 [.ptr 0 0]], [.box true [.int .i64 a2_0, .imm (.I .i64 l2_1)]] => some (l0, a2_0, l2_1)
  | _, _ => none
def slices_IndexFunc_impl_Element_impl_Element.tw : Tw := ⟨191, (List Elm) × Int × (List Int), Int, slices_IndexFunc_impl_Element_impl_Element.dec, fun a => [.imm (.E a.1), .clo 171 [.ptr 0 0]], fun a => [.box true [.int .i64 a.2.1, .imm (.I .i64 a.2.2)]], fun k a => slices_IndexFunc_impl_Element_impl_Element.f k a.1 a.2.1 a.2.2, fun a r => slices_IndexFunc_impl_Element_impl_Element.en a.2.1 a.2.2 r⟩
theorem slices_IndexFunc_impl_Element_impl_Element.dok : slices_IndexFunc_impl_Element_impl_Element.tw.DecOk := by
  intro args hc a h
  have h : slices_IndexFunc_impl_Element_impl_Element.dec args hc = some a := h
  unfold slices_IndexFunc_impl_Element_impl_Element.dec at h
  split at h
  · cases h; exact ⟨rfl, rfl⟩
  · cases h
noncomputable def slices_IndexFunc_impl_Element_impl_Element.O (k : Nat) : Oracle := (impl_found_put_1.tw.orc k noO)
def slices_IndexFunc_impl_Element_impl_Element.fh : FH := ⟨fun i => match i with | 2 => some [(0, 0), (1, 0), (7, 0), (8, 0)] | _ => none, [], false⟩
noncomputable def slices_IndexFunc_impl_Element_impl_Element.x0 (k : Nat) (x0 : List Elm) (x7 : Int) (x8 : Int) (y0_0 : Int) (y0_1 : List Int) : Option Res := R.exec Try.prog xhn slices_IndexFunc_impl_Element_impl_Element.O 1 Try.f191 slices_IndexFunc_impl_Element_impl_Element.fh k (R.point Try.f191 2) ⟨[(0, .imm (.E x0)), (1, .clo 171 [.ptr 0 0]), (7, .int .i64 x7), (8, .int .i64 x8)], [(0, .box true [.int .i64 y0_0, .imm (.I .i64 y0_1)])], 3⟩
set_option maxRecDepth 100000 in
theorem slices_IndexFunc_impl_Element_impl_Element.e0 (k : Nat) (x0 : List Elm) (x7 : Int) (x8 : Int) (y0_0 : Int) (y0_1 : List Int) : slices_IndexFunc_impl_Element_impl_Element.x0 (k + 1) x0 x7 x8 y0_0 y0_1 = (if x8 < x7 then (if 0 ≤ x8 then (if x8 < (x0.length : Int) then ((impl_found_put_1.f k ((rdE x0 x8).f0) ((rdE x0 x8).f1) ((rdE x0 x8).f2) y0_0 y0_1).bind fun t1 => (if t1 = true then (some (slices_IndexFunc_impl_Element_impl_Element.en y0_0 y0_1 x8)) else (slices_IndexFunc_impl_Element_impl_Element.x0 k x0 x7 (wrap64 (x8 + 1)) y0_0 y0_1))) else none) else none) else (some (slices_IndexFunc_impl_Element_impl_Element.en y0_0 y0_1 (-1)))) := by kernel_rfl
set_option maxRecDepth 100000 in
theorem slices_IndexFunc_impl_Element_impl_Element.ef (k : Nat) (l0 : List Elm) (a2_0 : Int) (l2_1 : List Int) : R.start Try.prog xhn slices_IndexFunc_impl_Element_impl_Element.O 1 Try.f191 slices_IndexFunc_impl_Element_impl_Element.fh k [.imm (.E l0), .clo 171 [.ptr 0 0]] [.box true [.int .i64 a2_0, .imm (.I .i64 l2_1)]] = (slices_IndexFunc_impl_Element_impl_Element.x0 k l0 (l0.length : Int) 0 a2_0 l2_1) := by kernel_rfl
theorem slices_IndexFunc_impl_Element_impl_Element.link : ∀ k, (∀ (x0 : List Elm) (x7 : Int) (x8 : Int) (y0_0 : Int) (y0_1 : List Int), slices_IndexFunc_impl_Element_impl_Element.x0 k x0 x7 x8 y0_0 y0_1 = (slices_IndexFunc_impl_Element_impl_Element.l0 k x0 x7 x8 y0_0 y0_1).map (slices_IndexFunc_impl_Element_impl_Element.en y0_0 y0_1))
  | 0 => fun _ _ _ _ _ => by simp only [slices_IndexFunc_impl_Element_impl_Element.l0, R.map_none]; rfl
  | k + 1 => by
    have ih0 := slices_IndexFunc_impl_Element_impl_Element.link k
    · intro x0 x7 x8 y0_0 y0_1
      rw [slices_IndexFunc_impl_Element_impl_Element.e0]
      simp only [slices_IndexFunc_impl_Element_impl_Element.l0, R.map_ite, R.map_bind, R.map_none, R.map_some, ← ih0]
theorem slices_IndexFunc_impl_Element_impl_Element.sf (k : Nat) (l0 : List Elm) (a2_0 : Int) (l2_1 : List Int) : R.start Try.prog xhn slices_IndexFunc_impl_Element_impl_Element.O 1 Try.f191 slices_IndexFunc_impl_Element_impl_Element.fh k [.imm (.E l0), .clo 171 [.ptr 0 0]] [.box true [.int .i64 a2_0, .imm (.I .i64 l2_1)]] = (slices_IndexFunc_impl_Element_impl_Element.f k l0 a2_0 l2_1).map (slices_IndexFunc_impl_Element_impl_Element.en a2_0 l2_1) := by
  have ih0 := slices_IndexFunc_impl_Element_impl_Element.link k
  rw [slices_IndexFunc_impl_Element_impl_Element.ef]
  simp only [slices_IndexFunc_impl_Element_impl_Element.f, R.map_ite, R.map_bind, R.map_none, R.map_some, ← ih0]
theorem slices_IndexFunc_impl_Element_impl_Element.ok (k : Nat) : slices_IndexFunc_impl_Element_impl_Element.tw.Ok Try.prog k := by
  intro a r h
  refine fn_ok (H := xhn) (fh := slices_IndexFunc_impl_Element_impl_Element.fh) (O := slices_IndexFunc_impl_Element_impl_Element.O) (k := k) Try.func191 (by kernel_rfl) (by kernel_rfl) (fun j _ => (Tw.orc_sound impl_found_put_1.dok (impl_found_put_1.ok j) noO_sound)) (by kernel_rfl) (m := 1) rfl ?_
  refine (slices_IndexFunc_impl_Element_impl_Element.sf k a.1 a.2.1 a.2.2).trans ?_
  exact congrArg (Option.map _) h
def slices_ContainsFunc_impl_Element_impl_Element.f (k : Nat) (l0 : List Elm) (a2_0 : Int) (l2_1 : List Int) : Option (Bool) := ((slices_IndexFunc_impl_Element_impl_Element.f k l0 a2_0 l2_1).bind fun t1 => (some (decide (t1 ≥ 0))))
def slices_ContainsFunc_impl_Element_impl_Element.en (a2_0 : Int) (l2_1 : List Int) (r : Bool) : Res := (.lit r, [.box true [.int .i64 a2_0, .imm (.I .i64 l2_1)]])
def slices_ContainsFunc_impl_Element_impl_Element.dec : List AV → List R.Obj → Option ((List Elm) × Int × (List Int))
  | [.imm (.E l0), .clo 171 [.ptr 0 0]], [.box true [.int .i64 a2_0, .imm (.I .i64 l2_1)]] => some (l0, a2_0, l2_1)
  | _, _ => none
def slices_ContainsFunc_impl_Element_impl_Element.tw : Tw := ⟨170, (List Elm) × Int × (List Int), Bool, slices_ContainsFunc_impl_Element_impl_Element.dec, fun a => [.imm (.E a.1), .clo 171 [.ptr 0 0]], fun a => [.box true [.int .i64 a.2.1, .imm (.I .i64 a.2.2)]], fun k a => slices_ContainsFunc_impl_Element_impl_Element.f k a.1 a.2.1 a.2.2, fun a r => slices_ContainsFunc_impl_Element_impl_Element.en a.2.1 a.2.2 r⟩
theorem slices_ContainsFunc_impl_Element_impl_Element.dok : slices_ContainsFunc_impl_Element_impl_Element.tw.DecOk := by
  intro args hc a h
  have h : slices_ContainsFunc_impl_Element_impl_Element.dec args hc = some a := h
  unfold slices_ContainsFunc_impl_Element_impl_Element.dec at h
  split at h
  · cases h; exact ⟨rfl, rfl⟩
  · cases h
noncomputable def slices_ContainsFunc_impl_Element_impl_Element.O (k : Nat) : Oracle := (slices_IndexFunc_impl_Element_impl_Element.tw.orc k noO)
def slices_ContainsFunc_impl_Element_impl_Element.fh : FH := ⟨fun i => match i with | _ => none, [], false⟩
set_option maxRecDepth 100000 in
theorem slices_ContainsFunc_impl_Element_impl_Element.ef (k : Nat) (l0 : List Elm) (a2_0 : Int) (l2_1 : List Int) : R.start Try.prog xhn slices_ContainsFunc_impl_Element_impl_Element.O 1 Try.f170 slices_ContainsFunc_impl_Element_impl_Element.fh k [.imm (.E l0), .clo 171 [.ptr 0 0]] [.box true [.int .i64 a2_0, .imm (.I .i64 l2_1)]] = ((slices_IndexFunc_impl_Element_impl_Element.f k l0 a2_0 l2_1).bind fun t1 => (some (slices_ContainsFunc_impl_Element_impl_Element.en a2_0 l2_1 (decide (t1 ≥ 0))))) := by kernel_rfl
theorem slices_ContainsFunc_impl_Element_impl_Element.sf (k : Nat) (l0 : List Elm) (a2_0 : Int) (l2_1 : List Int) : R.start Try.prog xhn slices_ContainsFunc_impl_Element_impl_Element.O 1 Try.f170 slices_ContainsFunc_impl_Element_impl_Element.fh k [.imm (.E l0), .clo 171 [.ptr 0 0]] [.box true [.int .i64 a2_0, .imm (.I .i64 l2_1)]] = (slices_ContainsFunc_impl_Element_impl_Element.f k l0 a2_0 l2_1).map (slices_ContainsFunc_impl_Element_impl_Element.en a2_0 l2_1) := by
  rw [slices_ContainsFunc_impl_Element_impl_Element.ef]
  simp only [slices_ContainsFunc_impl_Element_impl_Element.f, R.map_ite, R.map_bind, R.map_none, R.map_some]
theorem slices_ContainsFunc_impl_Element_impl_Element.ok (k : Nat) : slices_ContainsFunc_impl_Element_impl_Element.tw.Ok Try.prog k := by
  intro a r h
  refine fn_ok (H := xhn) (fh := slices_ContainsFunc_impl_Element_impl_Element.fh) (O := slices_ContainsFunc_impl_Element_impl_Element.O) (k := k) Try.func170 (by kernel_rfl) (by kernel_rfl) (fun j _ => (Tw.orc_sound slices_IndexFunc_impl_Element_impl_Element.dok (slices_IndexFunc_impl_Element_impl_Element.ok j) noO_sound)) (by kernel_rfl) (m := 1) rfl ?_
  refine (slices_ContainsFunc_impl_Element_impl_Element.sf k a.1 a.2.1 a.2.2).trans ?_
  exact congrArg (Option.map _) h
def impl_found_put.f (k : Nat) (a1_0 : Int) (l1_1 : List Int) (a2 : ByteArray) (l4 : List Elm) (a3_1 : Bool) : Option ((List Elm) × Bool) := ((slices_ContainsFunc_impl_Element_impl_Element.f k l4 a1_0 l1_1).bind fun t1 => (if t1 = true then (some (l4, a3_1)) else (if (l4.length : Int) ≥ 120 then (some (l4, false)) else (if (a2.size : Int) > 120 then (some (l4, false)) else (if l4.length < 2932031007402 then (some ((l4 ++ [(⟨a1_0, l1_1, a2⟩ : Elm)]), a3_1)) else none)))))
def impl_found_put.en (r : (List Elm) × Bool) : Res := (.tup [], [.box false [.sl 1 1, .lit r.2], .arr 82 1 (.E r.1) true])
def impl_found_put.dec : List AV → List R.Obj → Option (Int × (List Int) × ByteArray × (List Elm) × Bool)
  | [.ptr 0 0, .agg [.int .i64 a1_0, .imm (.I .i64 l1_1)], .str a2], [.box false [.sl 1 0, .lit a3_1], .arr 82 0 (.E l4) false] => some (a1_0, l1_1, a2, l4, a3_1)
  | _, _ => none
def impl_found_put.tw : Tw := ⟨125, Int × (List Int) × ByteArray × (List Elm) × Bool, (List Elm) × Bool, impl_found_put.dec, fun a => [.ptr 0 0, .agg [.int .i64 a.1, .imm (.I .i64 a.2.1)], .str a.2.2.1], fun a => [.box false [.sl 1 0, .lit a.2.2.2.2], .arr 82 0 (.E a.2.2.2.1) false], fun k a => impl_found_put.f k a.1 a.2.1 a.2.2.1 a.2.2.2.1 a.2.2.2.2, fun a r => impl_found_put.en r⟩
theorem impl_found_put.dok : impl_found_put.tw.DecOk := by
  intro args hc a h
  have h : impl_found_put.dec args hc = some a := h
  unfold impl_found_put.dec at h
  split at h
  · cases h; exact ⟨rfl, rfl⟩
  · cases h
noncomputable def impl_found_put.O (k : Nat) : Oracle := (slices_ContainsFunc_impl_Element_impl_Element.tw.orc k noO)
def impl_found_put.fh : FH := ⟨fun i => match i with | _ => none, [], true⟩
set_option maxRecDepth 100000 in
theorem impl_found_put.ef (k : Nat) (a1_0 : Int) (l1_1 : List Int) (a2 : ByteArray) (l4 : List Elm) (a3_1 : Bool) : R.start Try.prog xhn impl_found_put.O 2 Try.f125 impl_found_put.fh k [.ptr 0 0, .agg [.int .i64 a1_0, .imm (.I .i64 l1_1)], .str a2] [.box false [.sl 1 0, .lit a3_1], .arr 82 0 (.E l4) false] = ((slices_ContainsFunc_impl_Element_impl_Element.f k l4 a1_0 l1_1).bind fun t1 => (if t1 = true then (some (impl_found_put.en (l4, a3_1))) else (if (l4.length : Int) ≥ 120 then (some (impl_found_put.en (l4, false))) else (if (a2.size : Int) > 120 then (some (impl_found_put.en (l4, false))) else (if l4.length < 2932031007402 then (some (impl_found_put.en ((l4 ++ [(⟨a1_0, l1_1, a2⟩ : Elm)]), a3_1))) else none))))) := by kernel_rfl
theorem impl_found_put.sf (k : Nat) (a1_0 : Int) (l1_1 : List Int) (a2 : ByteArray) (l4 : List Elm) (a3_1 : Bool) : R.start Try.prog xhn impl_found_put.O 2 Try.f125 impl_found_put.fh k [.ptr 0 0, .agg [.int .i64 a1_0, .imm (.I .i64 l1_1)], .str a2] [.box false [.sl 1 0, .lit a3_1], .arr 82 0 (.E l4) false] = (impl_found_put.f k a1_0 l1_1 a2 l4 a3_1).map (impl_found_put.en) := by
  rw [impl_found_put.ef]
  simp only [impl_found_put.f, R.map_ite, R.map_bind, R.map_none, R.map_some]
theorem impl_found_put.ok (k : Nat) : impl_found_put.tw.Ok Try.prog k := by
  intro a r h
  refine fn_ok (H := xhn) (fh := impl_found_put.fh) (O := impl_found_put.O) (k := k) Try.func125 (by kernel_rfl) (by kernel_rfl) (fun j _ => (Tw.orc_sound slices_ContainsFunc_impl_Element_impl_Element.dok (slices_ContainsFunc_impl_Element_impl_Element.ok j) noO_sound)) (by kernel_rfl) (m := 2) rfl ?_
  refine (impl_found_put.sf k a.1 a.2.1 a.2.2.1 a.2.2.2.1 a.2.2.2.2).trans ?_
  exact congrArg (Option.map _) h
def impl_found_put_b.f (k : Nat) (a1_0 : Int) (l1_1 : List Int) (a2 : ByteArray) (l4 : List Elm) (a3_1 : Bool) : Option ((List Elm) × Bool) := ((slices_ContainsFunc_impl_Element_impl_Element.f k l4 a1_0 l1_1).bind fun t1 => (if t1 = true then (some (l4, a3_1)) else (if (l4.length : Int) ≥ 120 then (some (l4, false)) else (if (a2.size : Int) > 120 then (some (l4, false)) else (if l4.length < 2932031007402 then (some ((l4 ++ [(⟨a1_0, l1_1, a2⟩ : Elm)]), a3_1)) else none)))))
def impl_found_put_b.en (r : (List Elm) × Bool) : Res := (.tup [], [.box false [.sl 1 1, .lit r.2], .arr 82 1 (.E r.1) true])
def impl_found_put_b.dec : List AV → List R.Obj → Option (Int × (List Int) × ByteArray × (List Elm) × Bool)
  | [.ptr 0 0, .agg [.int .i64 a1_0, .imm (.I .i64 l1_1)], .str a2], [.box false [.sl 1 0, .lit a3_1], .arr 82 0 (.E l4) true] => some (a1_0, l1_1, a2, l4, a3_1)
  | _, _ => none
def impl_found_put_b.tw : Tw := ⟨125, Int × (List Int) × ByteArray × (List Elm) × Bool, (List Elm) × Bool, impl_found_put_b.dec, fun a => [.ptr 0 0, .agg [.int .i64 a.1, .imm (.I .i64 a.2.1)], .str a.2.2.1], fun a => [.box false [.sl 1 0, .lit a.2.2.2.2], .arr 82 0 (.E a.2.2.2.1) true], fun k a => impl_found_put_b.f k a.1 a.2.1 a.2.2.1 a.2.2.2.1 a.2.2.2.2, fun a r => impl_found_put_b.en r⟩
theorem impl_found_put_b.dok : impl_found_put_b.tw.DecOk := by
  intro args hc a h
  have h : impl_found_put_b.dec args hc = some a := h
  unfold impl_found_put_b.dec at h
  split at h
  · cases h; exact ⟨rfl, rfl⟩
  · cases h
noncomputable def impl_found_put_b.O (k : Nat) : Oracle := (slices_ContainsFunc_impl_Element_impl_Element.tw.orc k noO)
def impl_found_put_b.fh : FH := ⟨fun i => match i with | _ => none, [], true⟩
set_option maxRecDepth 100000 in
theorem impl_found_put_b.ef (k : Nat) (a1_0 : Int) (l1_1 : List Int) (a2 : ByteArray) (l4 : List Elm) (a3_1 : Bool) : R.start Try.prog xhn impl_found_put_b.O 2 Try.f125 impl_found_put_b.fh k [.ptr 0 0, .agg [.int .i64 a1_0, .imm (.I .i64 l1_1)], .str a2] [.box false [.sl 1 0, .lit a3_1], .arr 82 0 (.E l4) true] = ((slices_ContainsFunc_impl_Element_impl_Element.f k l4 a1_0 l1_1).bind fun t1 => (if t1 = true then (some (impl_found_put_b.en (l4, a3_1))) else (if (l4.length : Int) ≥ 120 then (some (impl_found_put_b.en (l4, false))) else (if (a2.size : Int) > 120 then (some (impl_found_put_b.en (l4, false))) else (if l4.length < 2932031007402 then (some (impl_found_put_b.en ((l4 ++ [(⟨a1_0, l1_1, a2⟩ : Elm)]), a3_1))) else none))))) := by kernel_rfl
theorem impl_found_put_b.sf (k : Nat) (a1_0 : Int) (l1_1 : List Int) (a2 : ByteArray) (l4 : List Elm) (a3_1 : Bool) : R.start Try.prog xhn impl_found_put_b.O 2 Try.f125 impl_found_put_b.fh k [.ptr 0 0, .agg [.int .i64 a1_0, .imm (.I .i64 l1_1)], .str a2] [.box false [.sl 1 0, .lit a3_1], .arr 82 0 (.E l4) true] = (impl_found_put_b.f k a1_0 l1_1 a2 l4 a3_1).map (impl_found_put_b.en) := by
  rw [impl_found_put_b.ef]
  simp only [impl_found_put_b.f, R.map_ite, R.map_bind, R.map_none, R.map_some]
theorem impl_found_put_b.ok (k : Nat) : impl_found_put_b.tw.Ok Try.prog k := by
  intro a r h
  refine fn_ok (H := xhn) (fh := impl_found_put_b.fh) (O := impl_found_put_b.O) (k := k) Try.func125 (by kernel_rfl) (by kernel_rfl) (fun j _ => (Tw.orc_sound slices_ContainsFunc_impl_Element_impl_Element.dok (slices_ContainsFunc_impl_Element_impl_Element.ok j) noO_sound)) (by kernel_rfl) (m := 2) rfl ?_
  refine (impl_found_put_b.sf k a.1 a.2.1 a.2.2.1 a.2.2.2.1 a.2.2.2.2).trans ?_
  exact congrArg (Option.map _) h
def impl_ElementsOf_1.l0 : Nat → Int → Int → (List Elm) → Bool → Int → (List Int) → ByteArray → Option ((List Elm) × Bool)
  | 0, _, _, _, _, _, _, _ => none
  | k + 1, x1, x7, y1, y0_1, y2_0, y2_1, y2_2 => (if x7 ≤ x1 then (if y0_1 = true then (if 0 ≤ x7 then (if x7 < (y1.length : Int) then ((impl_MulGrades.f k y2_0 y2_1 ((rdE y1 x7).f0) ((rdE y1 x7).f1)).bind fun t3 => (if y2_2.size + (rdE y1 x7).f2.size ≤ 9223372036854775807 then ((impl_found_put_b.f k t3.1 t3.2.1 (y2_2 ++ (rdE y1 x7).f2) y1 y0_1).bind fun t4 => ((impl_MulGrades.f k ((rdE y1 x7).f0) ((rdE y1 x7).f1) y2_0 y2_1).bind fun t5 => (if (rdE y1 x7).f2.size + y2_2.size ≤ 9223372036854775807 then ((impl_found_put_b.f k t5.1 t5.2.1 ((rdE y1 x7).f2 ++ y2_2) t4.1 t4.2).bind fun t6 => (impl_ElementsOf_1.l0 k x1 (wrap64 (x7 + 1)) t6.1 t6.2 y2_0 y2_1 y2_2)) else none))) else none)) else none) else none) else (some (y1, y0_1))) else (some (y1, y0_1)))
def impl_ElementsOf_1.f (k : Nat) (a1 : Int) (l3 : List Elm) (a2_1 : Bool) : Option ((List Elm) × Bool) := (if 0 ≤ a1 then (if a1 < (l3.length : Int) then ((impl_Stabilise.f k ((rdE l3 a1).f0) ((rdE l3 a1).f1)).bind fun t1 => (if t1.2.2 = true then (if 1 + (rdE l3 a1).f2.size ≤ 9223372036854775807 then (if ((⟨#[40]⟩ : ByteArray) ++ (rdE l3 a1).f2).size + 2 ≤ 9223372036854775807 then ((impl_found_put_b.f k t1.1 t1.2.1 (((⟨#[40]⟩ : ByteArray) ++ (rdE l3 a1).f2) ++ (⟨#[41, 35]⟩ : ByteArray)) l3 a2_1).bind fun t2 => (impl_ElementsOf_1.l0 k a1 0 t2.1 t2.2 ((rdE l3 a1).f0) ((rdE l3 a1).f1) ((rdE l3 a1).f2))) else none) else none) else (impl_ElementsOf_1.l0 k a1 0 l3 a2_1 ((rdE l3 a1).f0) ((rdE l3 a1).f1) ((rdE l3 a1).f2)))) else none) else none)
def impl_ElementsOf_1.en (r : (List Elm) × Bool) : Res := (.tup [], [.box false [.sl 1 1, .lit r.2], .arr 82 1 (.E r.1) true])
def impl_ElementsOf_1.dec : List AV → List R.Obj → Option (Int × (List Elm) × Bool)
  | [.ptr 0 0, .int .i64 a1], [.box false [.sl 1 0, .lit a2_1], .arr 82 0 (.E l3) true] => some (a1, l3, a2_1)
  | _, _ => none
def impl_ElementsOf_1.tw : Tw := ⟨128, Int × (List Elm) × Bool, (List Elm) × Bool, impl_ElementsOf_1.dec, fun a => [.ptr 0 0, .int .i64 a.1], fun a => [.box false [.sl 1 0, .lit a.2.2], .arr 82 0 (.E a.2.1) true], fun k a => impl_ElementsOf_1.f k a.1 a.2.1 a.2.2, fun a r => impl_ElementsOf_1.en r⟩
theorem impl_ElementsOf_1.dok : impl_ElementsOf_1.tw.DecOk := by
  intro args hc a h
  have h : impl_ElementsOf_1.dec args hc = some a := h
  unfold impl_ElementsOf_1.dec at h
  split at h
  · cases h; exact ⟨rfl, rfl⟩
  · cases h
noncomputable def impl_ElementsOf_1.O (k : Nat) : Oracle := (impl_Stabilise.tw.orc k (impl_found_put_b.tw.orc k (impl_MulGrades.tw.orc k noO)))
def impl_ElementsOf_1.fh : FH := ⟨fun i => match i with | 5 => some [(0, 0), (1, 0), (4, 0), (7, 0)] | _ => none, [], true⟩
noncomputable def impl_ElementsOf_1.x0 (k : Nat) (x1 : Int) (x7 : Int) (y1 : List Elm) (y0_1 : Bool) (y2_0 : Int) (y2_1 : List Int) (y2_2 : ByteArray) : Option Res := R.exec Try.prog xhn impl_ElementsOf_1.O 2 Try.f128 impl_ElementsOf_1.fh k (R.point Try.f128 5) ⟨[(0, .ptr 0 0), (1, .int .i64 x1), (4, .ptr 2 0), (7, .int .i64 x7)], [(0, .box false [.sl 1 1, .lit y0_1]), (1, .arr 82 1 (.E y1) true), (2, .box false [.int .i64 y2_0, .imm (.I .i64 y2_1), .str y2_2])], 5⟩
set_option maxRecDepth 100000 in
theorem impl_ElementsOf_1.e0 (k : Nat) (x1 : Int) (x7 : Int) (y1 : List Elm) (y0_1 : Bool) (y2_0 : Int) (y2_1 : List Int) (y2_2 : ByteArray) : impl_ElementsOf_1.x0 (k + 1) x1 x7 y1 y0_1 y2_0 y2_1 y2_2 = (if x7 ≤ x1 then (if y0_1 = true then (if 0 ≤ x7 then (if x7 < (y1.length : Int) then ((impl_MulGrades.f k y2_0 y2_1 ((rdE y1 x7).f0) ((rdE y1 x7).f1)).bind fun t3 => (if y2_2.size + (rdE y1 x7).f2.size ≤ 9223372036854775807 then ((impl_found_put_b.f k t3.1 t3.2.1 (y2_2 ++ (rdE y1 x7).f2) y1 y0_1).bind fun t4 => ((impl_MulGrades.f k ((rdE y1 x7).f0) ((rdE y1 x7).f1) y2_0 y2_1).bind fun t5 => (if (rdE y1 x7).f2.size + y2_2.size ≤ 9223372036854775807 then ((impl_found_put_b.f k t5.1 t5.2.1 ((rdE y1 x7).f2 ++ y2_2) t4.1 t4.2).bind fun t6 => (impl_ElementsOf_1.x0 k x1 (wrap64 (x7 + 1)) t6.1 t6.2 y2_0 y2_1 y2_2)) else none))) else none)) else none) else none) else (some (impl_ElementsOf_1.en (y1, y0_1)))) else (some (impl_ElementsOf_1.en (y1, y0_1)))) := by kernel_rfl
set_option maxRecDepth 100000 in
theorem impl_ElementsOf_1.ef (k : Nat) (a1 : Int) (l3 : List Elm) (a2_1 : Bool) : R.start Try.prog xhn impl_ElementsOf_1.O 2 Try.f128 impl_ElementsOf_1.fh k [.ptr 0 0, .int .i64 a1] [.box false [.sl 1 0, .lit a2_1], .arr 82 0 (.E l3) true] = (if 0 ≤ a1 then (if a1 < (l3.length : Int) then ((impl_Stabilise.f k ((rdE l3 a1).f0) ((rdE l3 a1).f1)).bind fun t1 => (if t1.2.2 = true then (if 1 + (rdE l3 a1).f2.size ≤ 9223372036854775807 then (if ((⟨#[40]⟩ : ByteArray) ++ (rdE l3 a1).f2).size + 2 ≤ 9223372036854775807 then ((impl_found_put_b.f k t1.1 t1.2.1 (((⟨#[40]⟩ : ByteArray) ++ (rdE l3 a1).f2) ++ (⟨#[41, 35]⟩ : ByteArray)) l3 a2_1).bind fun t2 => (impl_ElementsOf_1.x0 k a1 0 t2.1 t2.2 ((rdE l3 a1).f0) ((rdE l3 a1).f1) ((rdE l3 a1).f2))) else none) else none) else (impl_ElementsOf_1.x0 k a1 0 l3 a2_1 ((rdE l3 a1).f0) ((rdE l3 a1).f1) ((rdE l3 a1).f2)))) else none) else none) := by kernel_rfl
theorem impl_ElementsOf_1.link : ∀ k, (∀ (x1 : Int) (x7 : Int) (y1 : List Elm) (y0_1 : Bool) (y2_0 : Int) (y2_1 : List Int) (y2_2 : ByteArray), impl_ElementsOf_1.x0 k x1 x7 y1 y0_1 y2_0 y2_1 y2_2 = (impl_ElementsOf_1.l0 k x1 x7 y1 y0_1 y2_0 y2_1 y2_2).map (impl_ElementsOf_1.en))
  | 0 => fun _ _ _ _ _ _ _ => by simp only [impl_ElementsOf_1.l0, R.map_none]; rfl
  | k + 1 => by
    have ih0 := impl_ElementsOf_1.link k
    · intro x1 x7 y1 y0_1 y2_0 y2_1 y2_2
      rw [impl_ElementsOf_1.e0]
      simp only [impl_ElementsOf_1.l0, R.map_ite, R.map_bind, R.map_none, R.map_some, ← ih0]
theorem impl_ElementsOf_1.sf (k : Nat) (a1 : Int) (l3 : List Elm) (a2_1 : Bool) : R.start Try.prog xhn impl_ElementsOf_1.O 2 Try.f128 impl_ElementsOf_1.fh k [.ptr 0 0, .int .i64 a1] [.box false [.sl 1 0, .lit a2_1], .arr 82 0 (.E l3) true] = (impl_ElementsOf_1.f k a1 l3 a2_1).map (impl_ElementsOf_1.en) := by
  have ih0 := impl_ElementsOf_1.link k
  rw [impl_ElementsOf_1.ef]
  simp only [impl_ElementsOf_1.f, R.map_ite, R.map_bind, R.map_none, R.map_some, ← ih0]
theorem impl_ElementsOf_1.ok (k : Nat) : impl_ElementsOf_1.tw.Ok Try.prog k := by
  intro a r h
  refine fn_ok (H := xhn) (fh := impl_ElementsOf_1.fh) (O := impl_ElementsOf_1.O) (k := k) Try.func128 (by kernel_rfl) (by kernel_rfl) (fun j _ => (Tw.orc_sound impl_Stabilise.dok (impl_Stabilise.ok j) (Tw.orc_sound impl_found_put_b.dok (impl_found_put_b.ok j) (Tw.orc_sound impl_MulGrades.dok (impl_MulGrades.ok j) noO_sound)))) (by kernel_rfl) (m := 2) rfl ?_
  refine (impl_ElementsOf_1.sf k a.1 a.2.1 a.2.2).trans ?_
  exact congrArg (Option.map _) h
mutual
def impl_search.l0 : Nat → (List ByteArray) → Int → Int → Int → (List Int) → (List Int) → (List Stp) → (List Elm) → Bool → Option ((List Elm) × Bool)
  | 0, _, _, _, _, _, _, _, _, _ => none
  | k + 1, y2, x18, x19, y0_0, y0_1, y0_2, y0_3, y3, y1_1 => (if x19 < x18 then (if 0 ≤ x19 then (if x19 < (y2.length : Int) then ((impl_ValueOf.f k y0_0 y0_1 y0_2 y0_3 (rdS y2 x19)).bind fun t2 => ((impl_found_put_b.f k t2.1 t2.2.1 (rdS y2 x19) y3 y1_1).bind fun t3 => (impl_search.l0 k y2 x18 (wrap64 (x19 + 1)) y0_0 y0_1 y0_2 y0_3 t3.1 t3.2))) else none) else none) else (impl_search.l1 k 0 y3 y1_1))
def impl_search.l1 : Nat → Int → (List Elm) → Bool → Option ((List Elm) × Bool)
  | 0, _, _, _ => none
  | k + 1, x11, y1, y0_1 => (if x11 < (y1.length : Int) then (if y0_1 = true then ((impl_ElementsOf_1.f k x11 y1 y0_1).bind fun t4 => (impl_search.l1 k (wrap64 (x11 + 1)) t4.1 t4.2)) else (some (([] : List Elm), false))) else (if y0_1 = true then (some (y1, true)) else (some (([] : List Elm), false))))
end
def impl_search.f (k : Nat) (a0_0 : Int) (l0_1 : List Int) (l0_2 : List Int) (l0_3 : List Stp) : Option ((List Elm) × Bool) := ((impl_AutomatonValid.f k a0_0 l0_1 l0_2 l0_3).bind fun t1 => (if t1 = true then (impl_search.l0 k ([(⟨#[97]⟩ : ByteArray), (⟨#[98]⟩ : ByteArray)]) ([(⟨#[97]⟩ : ByteArray), (⟨#[98]⟩ : ByteArray)].length : Int) 0 a0_0 l0_1 l0_2 l0_3 ([] : List Elm) true) else (some (([] : List Elm), false))))
def impl_search.en (r : (List Elm) × Bool) : Res := (.tup [.imm (.E r.1), .lit r.2], [])
def impl_search.dec : List AV → List R.Obj → Option (Int × (List Int) × (List Int) × (List Stp))
  | [.agg [.int .i64 a0_0, .imm (.I .i64 l0_1), .imm (.I .i64 l0_2), .imm (.T l0_3)], .clo 128 []], [] => some (a0_0, l0_1, l0_2, l0_3)
  | _, _ => none
def impl_search.tw : Tw := ⟨123, Int × (List Int) × (List Int) × (List Stp), (List Elm) × Bool, impl_search.dec, fun a => [.agg [.int .i64 a.1, .imm (.I .i64 a.2.1), .imm (.I .i64 a.2.2.1), .imm (.T a.2.2.2)], .clo 128 []], fun a => [], fun k a => impl_search.f k a.1 a.2.1 a.2.2.1 a.2.2.2, fun a r => impl_search.en r⟩
theorem impl_search.dok : impl_search.tw.DecOk := by
  intro args hc a h
  have h : impl_search.dec args hc = some a := h
  unfold impl_search.dec at h
  split at h
  · cases h; exact ⟨rfl, rfl⟩
  · cases h
noncomputable def impl_search.O (k : Nat) : Oracle := (impl_AutomatonValid.tw.orc k (impl_ValueOf.tw.orc k (impl_found_put_b.tw.orc k (impl_ElementsOf_1.tw.orc k noO))))
def impl_search.fh : FH := ⟨fun i => match i with | 5 => some [(1, 0), (2, 0), (6, 2), (17, 0), (18, 0), (19, 0)] | 11 => some [(1, 0), (6, 0), (11, 0)] | _ => none, [(false, 82)], false⟩
noncomputable def impl_search.x0 (k : Nat) (y2 : List ByteArray) (x18 : Int) (x19 : Int) (y0_0 : Int) (y0_1 : List Int) (y0_2 : List Int) (y0_3 : List Stp) (y3 : List Elm) (y1_1 : Bool) : Option Res := R.exec Try.prog xhn impl_search.O 0 Try.f123 impl_search.fh k (R.point Try.f123 5) ⟨[(1, .clo 128 []), (2, .ptr 0 0), (6, .ptr 1 0), (17, .sl 2 0), (18, .int .i64 x18), (19, .int .i64 x19)], [(0, .box false [.int .i64 y0_0, .imm (.I .i64 y0_1), .imm (.I .i64 y0_2), .imm (.T y0_3)]), (1, .box false [.sl 3 0, .lit y1_1]), (2, .arr 9 0 (.S y2) false), (3, .arr 82 0 (.E y3) true)], 6⟩
noncomputable def impl_search.x1 (k : Nat) (x11 : Int) (y1 : List Elm) (y0_1 : Bool) : Option Res := R.exec Try.prog xhn impl_search.O 0 Try.f123 impl_search.fh k (R.point Try.f123 11) ⟨[(1, .clo 128 []), (6, .ptr 0 0), (11, .int .i64 x11)], [(0, .box false [.sl 1 0, .lit y0_1]), (1, .arr 82 0 (.E y1) true)], 4⟩
set_option maxRecDepth 100000 in
theorem impl_search.e0 (k : Nat) (y2 : List ByteArray) (x18 : Int) (x19 : Int) (y0_0 : Int) (y0_1 : List Int) (y0_2 : List Int) (y0_3 : List Stp) (y3 : List Elm) (y1_1 : Bool) : impl_search.x0 (k + 1) y2 x18 x19 y0_0 y0_1 y0_2 y0_3 y3 y1_1 = (if x19 < x18 then (if 0 ≤ x19 then (if x19 < (y2.length : Int) then ((impl_ValueOf.f k y0_0 y0_1 y0_2 y0_3 (rdS y2 x19)).bind fun t2 => ((impl_found_put_b.f k t2.1 t2.2.1 (rdS y2 x19) y3 y1_1).bind fun t3 => (impl_search.x0 k y2 x18 (wrap64 (x19 + 1)) y0_0 y0_1 y0_2 y0_3 t3.1 t3.2))) else none) else none) else (impl_search.x1 k 0 y3 y1_1)) := by kernel_rfl
set_option maxRecDepth 100000 in
theorem impl_search.e1 (k : Nat) (x11 : Int) (y1 : List Elm) (y0_1 : Bool) : impl_search.x1 (k + 1) x11 y1 y0_1 = (if x11 < (y1.length : Int) then (if y0_1 = true then ((impl_ElementsOf_1.f k x11 y1 y0_1).bind fun t4 => (impl_search.x1 k (wrap64 (x11 + 1)) t4.1 t4.2)) else (some (impl_search.en (([] : List Elm), false)))) else (if y0_1 = true then (some (impl_search.en (y1, true))) else (some (impl_search.en (([] : List Elm), false))))) := by
  refine Eq.trans ?_ (R.icong (fun h0 => (R.icong (fun h1 => rfl) (fun h1 => (R.idropF (p := y0_1 = true) (z := (some (impl_search.en (y1, true)))) h1 rfl)))) (fun h0 => rfl))
  kernel_rfl
set_option maxRecDepth 100000 in
theorem impl_search.ef (k : Nat) (a0_0 : Int) (l0_1 : List Int) (l0_2 : List Int) (l0_3 : List Stp) : R.start Try.prog xhn impl_search.O 0 Try.f123 impl_search.fh k [.agg [.int .i64 a0_0, .imm (.I .i64 l0_1), .imm (.I .i64 l0_2), .imm (.T l0_3)], .clo 128 []] [] = ((impl_AutomatonValid.f k a0_0 l0_1 l0_2 l0_3).bind fun t1 => (if t1 = true then (impl_search.x0 k ([(⟨#[97]⟩ : ByteArray), (⟨#[98]⟩ : ByteArray)]) ([(⟨#[97]⟩ : ByteArray), (⟨#[98]⟩ : ByteArray)].length : Int) 0 a0_0 l0_1 l0_2 l0_3 ([] : List Elm) true) else (some (impl_search.en (([] : List Elm), false))))) := by kernel_rfl
theorem impl_search.link : ∀ k, (∀ (y2 : List ByteArray) (x18 : Int) (x19 : Int) (y0_0 : Int) (y0_1 : List Int) (y0_2 : List Int) (y0_3 : List Stp) (y3 : List Elm) (y1_1 : Bool), impl_search.x0 k y2 x18 x19 y0_0 y0_1 y0_2 y0_3 y3 y1_1 = (impl_search.l0 k y2 x18 x19 y0_0 y0_1 y0_2 y0_3 y3 y1_1).map (impl_search.en)) ∧ (∀ (x11 : Int) (y1 : List Elm) (y0_1 : Bool), impl_search.x1 k x11 y1 y0_1 = (impl_search.l1 k x11 y1 y0_1).map (impl_search.en))
  | 0 => ⟨fun _ _ _ _ _ _ _ _ _ => by simp only [impl_search.l0, R.map_none]; rfl, fun _ _ _ => by simp only [impl_search.l1, R.map_none]; rfl⟩
  | k + 1 => by
    obtain ⟨ih0, ih1⟩ := impl_search.link k
    refine ⟨?_, ?_⟩
    · intro y2 x18 x19 y0_0 y0_1 y0_2 y0_3 y3 y1_1
      rw [impl_search.e0]
      simp only [impl_search.l0, R.map_ite, R.map_bind, R.map_none, R.map_some, ← ih0, ← ih1]
    · intro x11 y1 y0_1
      rw [impl_search.e1]
      simp only [impl_search.l1, R.map_ite, R.map_bind, R.map_none, R.map_some, ← ih0, ← ih1]
theorem impl_search.sf (k : Nat) (a0_0 : Int) (l0_1 : List Int) (l0_2 : List Int) (l0_3 : List Stp) : R.start Try.prog xhn impl_search.O 0 Try.f123 impl_search.fh k [.agg [.int .i64 a0_0, .imm (.I .i64 l0_1), .imm (.I .i64 l0_2), .imm (.T l0_3)], .clo 128 []] [] = (impl_search.f k a0_0 l0_1 l0_2 l0_3).map (impl_search.en) := by
  obtain ⟨ih0, ih1⟩ := impl_search.link k
  rw [impl_search.ef]
  simp only [impl_search.f, R.map_ite, R.map_bind, R.map_none, R.map_some, ← ih0, ← ih1]
theorem impl_search.ok (k : Nat) : impl_search.tw.Ok Try.prog k := by
  intro a r h
  refine fn_ok (H := xhn) (fh := impl_search.fh) (O := impl_search.O) (k := k) Try.func123 (by kernel_rfl) (by kernel_rfl) (fun j _ => (Tw.orc_sound impl_AutomatonValid.dok (impl_AutomatonValid.ok j) (Tw.orc_sound impl_ValueOf.dok (impl_ValueOf.ok j) (Tw.orc_sound impl_found_put_b.dok (impl_found_put_b.ok j) (Tw.orc_sound impl_ElementsOf_1.dok (impl_ElementsOf_1.ok j) noO_sound))))) (by kernel_rfl) (m := 0) rfl ?_
  refine (impl_search.sf k a.1 a.2.1 a.2.2.1 a.2.2.2).trans ?_
  exact congrArg (Option.map _) h
def impl_ElementsOf.f (k : Nat) (a0_0 : Int) (l0_1 : List Int) (l0_2 : List Int) (l0_3 : List Stp) : Option ((List Elm) × Bool) := ((impl_search.f k a0_0 l0_1 l0_2 l0_3).bind fun t1 => (some (t1.1, t1.2)))
def impl_ElementsOf.en (r : (List Elm) × Bool) : Res := (.tup [.imm (.E r.1), .lit r.2], [])
def impl_ElementsOf.dec : List AV → List R.Obj → Option (Int × (List Int) × (List Int) × (List Stp))
  | [.agg [.int .i64 a0_0, .imm (.I .i64 l0_1), .imm (.I .i64 l0_2), .imm (.T l0_3)]], [] => some (a0_0, l0_1, l0_2, l0_3)
  | _, _ => none
def impl_ElementsOf.tw : Tw := ⟨63, Int × (List Int) × (List Int) × (List Stp), (List Elm) × Bool, impl_ElementsOf.dec, fun a => [.agg [.int .i64 a.1, .imm (.I .i64 a.2.1), .imm (.I .i64 a.2.2.1), .imm (.T a.2.2.2)]], fun a => [], fun k a => impl_ElementsOf.f k a.1 a.2.1 a.2.2.1 a.2.2.2, fun a r => impl_ElementsOf.en r⟩
theorem impl_ElementsOf.dok : impl_ElementsOf.tw.DecOk := by
  intro args hc a h
  have h : impl_ElementsOf.dec args hc = some a := h
  unfold impl_ElementsOf.dec at h
  split at h
  · cases h; exact ⟨rfl, rfl⟩
  · cases h
noncomputable def impl_ElementsOf.O (k : Nat) : Oracle := (impl_search.tw.orc k noO)
def impl_ElementsOf.fh : FH := ⟨fun i => match i with | _ => none, [(false, 82)], false⟩
set_option maxRecDepth 100000 in
theorem impl_ElementsOf.ef (k : Nat) (a0_0 : Int) (l0_1 : List Int) (l0_2 : List Int) (l0_3 : List Stp) : R.start Try.prog xhn impl_ElementsOf.O 0 Try.f63 impl_ElementsOf.fh k [.agg [.int .i64 a0_0, .imm (.I .i64 l0_1), .imm (.I .i64 l0_2), .imm (.T l0_3)]] [] = ((impl_search.f k a0_0 l0_1 l0_2 l0_3).bind fun t1 => (some (impl_ElementsOf.en (t1.1, t1.2)))) := by kernel_rfl
theorem impl_ElementsOf.sf (k : Nat) (a0_0 : Int) (l0_1 : List Int) (l0_2 : List Int) (l0_3 : List Stp) : R.start Try.prog xhn impl_ElementsOf.O 0 Try.f63 impl_ElementsOf.fh k [.agg [.int .i64 a0_0, .imm (.I .i64 l0_1), .imm (.I .i64 l0_2), .imm (.T l0_3)]] [] = (impl_ElementsOf.f k a0_0 l0_1 l0_2 l0_3).map (impl_ElementsOf.en) := by
  rw [impl_ElementsOf.ef]
  simp only [impl_ElementsOf.f, R.map_ite, R.map_bind, R.map_none, R.map_some]
theorem impl_ElementsOf.ok (k : Nat) : impl_ElementsOf.tw.Ok Try.prog k := by
  intro a r h
  refine fn_ok (H := xhn) (fh := impl_ElementsOf.fh) (O := impl_ElementsOf.O) (k := k) Try.func63 (by kernel_rfl) (by kernel_rfl) (fun j _ => (Tw.orc_sound impl_search.dok (impl_search.ok j) noO_sound)) (by kernel_rfl) (m := 0) rfl ?_
  refine (impl_ElementsOf.sf k a.1 a.2.1 a.2.2.1 a.2.2.2).trans ?_
  exact congrArg (Option.map _) h
def impl_ExpressionFor.l0 : Nat → (List Elm) → Int → Int → Int → (List Int) → Option (ByteArray × Bool)
  | 0, _, _, _, _, _ => none
  | k + 1, x15, x16, x17, y0_0, y0_1 => (if x17 < x16 then (if 0 ≤ x17 then (if x17 < (x15.length : Int) then ((impl_SameMatrix.f k ((rdE x15 x17).f0) ((rdE x15 x17).f1) y0_0 y0_1).bind fun t2 => (if t2 = true then (some ((rdE x15 x17).f2, true)) else (impl_ExpressionFor.l0 k x15 x16 (wrap64 (x17 + 1)) y0_0 y0_1))) else none) else none) else (some ((⟨#[]⟩ : ByteArray), false)))
def impl_ExpressionFor.f (k : Nat) (a0_0 : Int) (l0_1 : List Int) (l0_2 : List Int) (l0_3 : List Stp) (a1_0 : Int) (l1_1 : List Int) : Option (ByteArray × Bool) := ((impl_ElementsOf.f k a0_0 l0_1 l0_2 l0_3).bind fun t1 => (impl_ExpressionFor.l0 k t1.1 (t1.1.length : Int) 0 a1_0 l1_1))
def impl_ExpressionFor.en (r : ByteArray × Bool) : Res := (.tup [.str r.1, .lit r.2], [])
def impl_ExpressionFor.dec : List AV → List R.Obj → Option (Int × (List Int) × (List Int) × (List Stp) × Int × (List Int))
  | [.agg [.int .i64 a0_0, .imm (.I .i64 l0_1), .imm (.I .i64 l0_2), .imm (.T l0_3)], .agg [.int .i64 a1_0, .imm (.I .i64 l1_1)]], [] => some (a0_0, l0_1, l0_2, l0_3, a1_0, l1_1)
  | _, _ => none
def impl_ExpressionFor.tw : Tw := ⟨50, Int × (List Int) × (List Int) × (List Stp) × Int × (List Int), ByteArray × Bool, impl_ExpressionFor.dec, fun a => [.agg [.int .i64 a.1, .imm (.I .i64 a.2.1), .imm (.I .i64 a.2.2.1), .imm (.T a.2.2.2.1)], .agg [.int .i64 a.2.2.2.2.1, .imm (.I .i64 a.2.2.2.2.2)]], fun a => [], fun k a => impl_ExpressionFor.f k a.1 a.2.1 a.2.2.1 a.2.2.2.1 a.2.2.2.2.1 a.2.2.2.2.2, fun a r => impl_ExpressionFor.en r⟩
theorem impl_ExpressionFor.dok : impl_ExpressionFor.tw.DecOk := by
  intro args hc a h
  have h : impl_ExpressionFor.dec args hc = some a := h
  unfold impl_ExpressionFor.dec at h
  split at h
  · cases h; exact ⟨rfl, rfl⟩
  · cases h
noncomputable def impl_ExpressionFor.O (k : Nat) : Oracle := (impl_ElementsOf.tw.orc k (impl_SameMatrix.tw.orc k noO))
def impl_ExpressionFor.fh : FH := ⟨fun i => match i with | 3 => some [(3, 0), (15, 0), (16, 0), (17, 0)] | _ => none, [], false⟩
noncomputable def impl_ExpressionFor.x0 (k : Nat) (x15 : List Elm) (x16 : Int) (x17 : Int) (y0_0 : Int) (y0_1 : List Int) : Option Res := R.exec Try.prog xhn impl_ExpressionFor.O 0 Try.f50 impl_ExpressionFor.fh k (R.point Try.f50 3) ⟨[(3, .ptr 0 0), (15, .imm (.E x15)), (16, .int .i64 x16), (17, .int .i64 x17)], [(0, .box false [.int .i64 y0_0, .imm (.I .i64 y0_1)])], 3⟩
set_option maxRecDepth 100000 in
theorem impl_ExpressionFor.e0 (k : Nat) (x15 : List Elm) (x16 : Int) (x17 : Int) (y0_0 : Int) (y0_1 : List Int) : impl_ExpressionFor.x0 (k + 1) x15 x16 x17 y0_0 y0_1 = (if x17 < x16 then (if 0 ≤ x17 then (if x17 < (x15.length : Int) then ((impl_SameMatrix.f k ((rdE x15 x17).f0) ((rdE x15 x17).f1) y0_0 y0_1).bind fun t2 => (if t2 = true then (some (impl_ExpressionFor.en ((rdE x15 x17).f2, true))) else (impl_ExpressionFor.x0 k x15 x16 (wrap64 (x17 + 1)) y0_0 y0_1))) else none) else none) else (some (impl_ExpressionFor.en ((⟨#[]⟩ : ByteArray), false)))) := by kernel_rfl
set_option maxRecDepth 100000 in
theorem impl_ExpressionFor.ef (k : Nat) (a0_0 : Int) (l0_1 : List Int) (l0_2 : List Int) (l0_3 : List Stp) (a1_0 : Int) (l1_1 : List Int) : R.start Try.prog xhn impl_ExpressionFor.O 0 Try.f50 impl_ExpressionFor.fh k [.agg [.int .i64 a0_0, .imm (.I .i64 l0_1), .imm (.I .i64 l0_2), .imm (.T l0_3)], .agg [.int .i64 a1_0, .imm (.I .i64 l1_1)]] [] = ((impl_ElementsOf.f k a0_0 l0_1 l0_2 l0_3).bind fun t1 => (impl_ExpressionFor.x0 k t1.1 (t1.1.length : Int) 0 a1_0 l1_1)) := by kernel_rfl
theorem impl_ExpressionFor.link : ∀ k, (∀ (x15 : List Elm) (x16 : Int) (x17 : Int) (y0_0 : Int) (y0_1 : List Int), impl_ExpressionFor.x0 k x15 x16 x17 y0_0 y0_1 = (impl_ExpressionFor.l0 k x15 x16 x17 y0_0 y0_1).map (impl_ExpressionFor.en))
  | 0 => fun _ _ _ _ _ => by simp only [impl_ExpressionFor.l0, R.map_none]; rfl
  | k + 1 => by
    have ih0 := impl_ExpressionFor.link k
    · intro x15 x16 x17 y0_0 y0_1
      rw [impl_ExpressionFor.e0]
      simp only [impl_ExpressionFor.l0, R.map_ite, R.map_bind, R.map_none, R.map_some, ← ih0]
theorem impl_ExpressionFor.sf (k : Nat) (a0_0 : Int) (l0_1 : List Int) (l0_2 : List Int) (l0_3 : List Stp) (a1_0 : Int) (l1_1 : List Int) : R.start Try.prog xhn impl_ExpressionFor.O 0 Try.f50 impl_ExpressionFor.fh k [.agg [.int .i64 a0_0, .imm (.I .i64 l0_1), .imm (.I .i64 l0_2), .imm (.T l0_3)], .agg [.int .i64 a1_0, .imm (.I .i64 l1_1)]] [] = (impl_ExpressionFor.f k a0_0 l0_1 l0_2 l0_3 a1_0 l1_1).map (impl_ExpressionFor.en) := by
  have ih0 := impl_ExpressionFor.link k
  rw [impl_ExpressionFor.ef]
  simp only [impl_ExpressionFor.f, R.map_ite, R.map_bind, R.map_none, R.map_some, ← ih0]
theorem impl_ExpressionFor.ok (k : Nat) : impl_ExpressionFor.tw.Ok Try.prog k := by
  intro a r h
  refine fn_ok (H := xhn) (fh := impl_ExpressionFor.fh) (O := impl_ExpressionFor.O) (k := k) Try.func50 (by kernel_rfl) (by kernel_rfl) (fun j _ => (Tw.orc_sound impl_ElementsOf.dok (impl_ElementsOf.ok j) (Tw.orc_sound impl_SameMatrix.dok (impl_SameMatrix.ok j) noO_sound))) (by kernel_rfl) (m := 0) rfl ?_
  refine (impl_ExpressionFor.sf k a.1 a.2.1 a.2.2.1 a.2.2.2.1 a.2.2.2.2.1 a.2.2.2.2.2).trans ?_
  exact congrArg (Option.map _) h
def laws_eqIntS.l0 : Nat → (List Int) → (List Int) → Int → Option (Bool)
  | 0, _, _, _ => none
  | k + 1, x0, x1, x5 => (if x5 < (x0.length : Int) then (if 0 ≤ x5 then (if x5 < (x1.length : Int) then (if (rdI x0 x5) = (rdI x1 x5) then (laws_eqIntS.l0 k x0 x1 (wrap64 (x5 + 1))) else (some false)) else none) else none) else (some true))
def laws_eqIntS.f (k : Nat) (l0 : List Int) (l1 : List Int) : Option (Bool) := (if (l0.length : Int) = (l1.length : Int) then (laws_eqIntS.l0 k l0 l1 0) else (some false))
def laws_eqIntS.en (r : Bool) : Res := (.lit r, [])
def laws_eqIntS.dec : List AV → List R.Obj → Option ((List Int) × (List Int))
  | [.imm (.I .i64 l0), .imm (.I .i64 l1)], [] => some (l0, l1)
  | _, _ => none
def laws_eqIntS.tw : Tw := ⟨17, (List Int) × (List Int), Bool, laws_eqIntS.dec, fun a => [.imm (.I .i64 a.1), .imm (.I .i64 a.2)], fun a => [], fun k a => laws_eqIntS.f k a.1 a.2, fun a r => laws_eqIntS.en r⟩
theorem laws_eqIntS.dok : laws_eqIntS.tw.DecOk := by
  intro args hc a h
  have h : laws_eqIntS.dec args hc = some a := h
  unfold laws_eqIntS.dec at h
  split at h
  · cases h; exact ⟨rfl, rfl⟩
  · cases h
noncomputable def laws_eqIntS.O (k : Nat) : Oracle := noO
def laws_eqIntS.fh : FH := ⟨fun i => match i with | 4 => some [(0, 0), (1, 0), (5, 0)] | _ => none, [], false⟩
noncomputable def laws_eqIntS.x0 (k : Nat) (x0 : List Int) (x1 : List Int) (x5 : Int) : Option Res := R.exec Try.prog xhn laws_eqIntS.O 0 Try.f17 laws_eqIntS.fh k (R.point Try.f17 4) ⟨[(0, .imm (.I .i64 x0)), (1, .imm (.I .i64 x1)), (5, .int .i64 x5)], [], 2⟩
set_option maxRecDepth 100000 in
theorem laws_eqIntS.e0 (k : Nat) (x0 : List Int) (x1 : List Int) (x5 : Int) : laws_eqIntS.x0 (k + 1) x0 x1 x5 = (if x5 < (x0.length : Int) then (if 0 ≤ x5 then (if x5 < (x1.length : Int) then (if (rdI x0 x5) = (rdI x1 x5) then (laws_eqIntS.x0 k x0 x1 (wrap64 (x5 + 1))) else (some (laws_eqIntS.en false))) else none) else none) else (some (laws_eqIntS.en true))) := by
  refine Eq.trans ?_ (R.icong (fun h0 => (R.icong (fun h1 => (R.idropT (p := x5 < (x0.length : Int)) (z := none) h0 (R.idropT (p := 0 ≤ x5) (z := none) h1 rfl))) (fun h1 => rfl))) (fun h0 => rfl))
  kernel_rfl
set_option maxRecDepth 100000 in
theorem laws_eqIntS.ef (k : Nat) (l0 : List Int) (l1 : List Int) : R.start Try.prog xhn laws_eqIntS.O 0 Try.f17 laws_eqIntS.fh k [.imm (.I .i64 l0), .imm (.I .i64 l1)] [] = (if (l0.length : Int) = (l1.length : Int) then (laws_eqIntS.x0 k l0 l1 0) else (some (laws_eqIntS.en false))) := by kernel_rfl
theorem laws_eqIntS.link : ∀ k, (∀ (x0 : List Int) (x1 : List Int) (x5 : Int), laws_eqIntS.x0 k x0 x1 x5 = (laws_eqIntS.l0 k x0 x1 x5).map (laws_eqIntS.en))
  | 0 => fun _ _ _ => by simp only [laws_eqIntS.l0, R.map_none]; rfl
  | k + 1 => by
    have ih0 := laws_eqIntS.link k
    · intro x0 x1 x5
      rw [laws_eqIntS.e0]
      simp only [laws_eqIntS.l0, R.map_ite, R.map_bind, R.map_none, R.map_some, ← ih0]
theorem laws_eqIntS.sf (k : Nat) (l0 : List Int) (l1 : List Int) : R.start Try.prog xhn laws_eqIntS.O 0 Try.f17 laws_eqIntS.fh k [.imm (.I .i64 l0), .imm (.I .i64 l1)] [] = (laws_eqIntS.f k l0 l1).map (laws_eqIntS.en) := by
  have ih0 := laws_eqIntS.link k
  rw [laws_eqIntS.ef]
  simp only [laws_eqIntS.f, R.map_ite, R.map_bind, R.map_none, R.map_some, ← ih0]
theorem laws_eqIntS.ok (k : Nat) : laws_eqIntS.tw.Ok Try.prog k := by
  intro a r h
  refine fn_ok (H := xhn) (fh := laws_eqIntS.fh) (O := laws_eqIntS.O) (k := k) Try.func17 (by kernel_rfl) (by kernel_rfl) (fun j _ => noO_sound) (by kernel_rfl) (m := 0) rfl ?_
  refine (laws_eqIntS.sf k a.1 a.2).trans ?_
  exact congrArg (Option.map _) h
def laws_eqStep.f (a0_0 : Int) (a0_1 : ByteArray) (a0_2 : Int) (a0_3 : Int) (a1_0 : Int) (a1_1 : ByteArray) (a1_2 : Int) (a1_3 : Int) : Option (Bool) := (if a0_0 = a1_0 then (if a0_1.toList = a1_1.toList then (if a0_2 = a1_2 then (if a0_3 = a1_3 then (some true) else (some false)) else (some false)) else (some false)) else (some false))
def laws_eqStep.en (r : Bool) : Res := (.lit r, [])
def laws_eqStep.dec : List AV → List R.Obj → Option (Int × ByteArray × Int × Int × Int × ByteArray × Int × Int)
  | [.agg [.int .i64 a0_0, .str a0_1, .int .i64 a0_2, .int .i64 a0_3], .agg [.int .i64 a1_0, .str a1_1, .int .i64 a1_2, .int .i64 a1_3]], [] => some (a0_0, a0_1, a0_2, a0_3, a1_0, a1_1, a1_2, a1_3)
  | _, _ => none
def laws_eqStep.tw : Tw := ⟨145, Int × ByteArray × Int × Int × Int × ByteArray × Int × Int, Bool, laws_eqStep.dec, fun a => [.agg [.int .i64 a.1, .str a.2.1, .int .i64 a.2.2.1, .int .i64 a.2.2.2.1], .agg [.int .i64 a.2.2.2.2.1, .str a.2.2.2.2.2.1, .int .i64 a.2.2.2.2.2.2.1, .int .i64 a.2.2.2.2.2.2.2]], fun a => [], fun k a => laws_eqStep.f a.1 a.2.1 a.2.2.1 a.2.2.2.1 a.2.2.2.2.1 a.2.2.2.2.2.1 a.2.2.2.2.2.2.1 a.2.2.2.2.2.2.2, fun a r => laws_eqStep.en r⟩
theorem laws_eqStep.dok : laws_eqStep.tw.DecOk := by
  intro args hc a h
  have h : laws_eqStep.dec args hc = some a := h
  unfold laws_eqStep.dec at h
  split at h
  · cases h; exact ⟨rfl, rfl⟩
  · cases h
noncomputable def laws_eqStep.O (k : Nat) : Oracle := noO
def laws_eqStep.fh : FH := ⟨fun i => match i with | _ => none, [], false⟩
set_option maxRecDepth 100000 in
theorem laws_eqStep.ef (k : Nat) (a0_0 : Int) (a0_1 : ByteArray) (a0_2 : Int) (a0_3 : Int) (a1_0 : Int) (a1_1 : ByteArray) (a1_2 : Int) (a1_3 : Int) : R.start Try.prog xhn laws_eqStep.O 0 Try.f145 laws_eqStep.fh k [.agg [.int .i64 a0_0, .str a0_1, .int .i64 a0_2, .int .i64 a0_3], .agg [.int .i64 a1_0, .str a1_1, .int .i64 a1_2, .int .i64 a1_3]] [] = (if a0_0 = a1_0 then (if a0_1.toList = a1_1.toList then (if a0_2 = a1_2 then (if a0_3 = a1_3 then (some (laws_eqStep.en true)) else (some (laws_eqStep.en false))) else (some (laws_eqStep.en false))) else (some (laws_eqStep.en false))) else (some (laws_eqStep.en false))) := by kernel_rfl
theorem laws_eqStep.sf (k : Nat) (a0_0 : Int) (a0_1 : ByteArray) (a0_2 : Int) (a0_3 : Int) (a1_0 : Int) (a1_1 : ByteArray) (a1_2 : Int) (a1_3 : Int) : R.start Try.prog xhn laws_eqStep.O 0 Try.f145 laws_eqStep.fh k [.agg [.int .i64 a0_0, .str a0_1, .int .i64 a0_2, .int .i64 a0_3], .agg [.int .i64 a1_0, .str a1_1, .int .i64 a1_2, .int .i64 a1_3]] [] = (laws_eqStep.f a0_0 a0_1 a0_2 a0_3 a1_0 a1_1 a1_2 a1_3).map (laws_eqStep.en) := by
  rw [laws_eqStep.ef]
  simp only [laws_eqStep.f, R.map_ite, R.map_bind, R.map_none, R.map_some]
theorem laws_eqStep.ok (k : Nat) : laws_eqStep.tw.Ok Try.prog k := by
  intro a r h
  refine fn_ok (H := xhn) (fh := laws_eqStep.fh) (O := laws_eqStep.O) (k := k) Try.func145 (by kernel_rfl) (by kernel_rfl) (fun j _ => noO_sound) (by kernel_rfl) (m := 0) rfl ?_
  refine (laws_eqStep.sf k a.1 a.2.1 a.2.2.1 a.2.2.2.1 a.2.2.2.2.1 a.2.2.2.2.2.1 a.2.2.2.2.2.2.1 a.2.2.2.2.2.2.2).trans ?_
  exact congrArg (Option.map _) h
def laws_eqStepS.l0 : Nat → (List Stp) → (List Stp) → Int → Option (Bool)
  | 0, _, _, _ => none
  | k + 1, x0, x1, x5 => (if x5 < (x0.length : Int) then (if 0 ≤ x5 then (if x5 < (x1.length : Int) then ((laws_eqStep.f ((rdT x0 x5).f0) ((rdT x0 x5).f1) ((rdT x0 x5).f2) ((rdT x0 x5).f3) ((rdT x1 x5).f0) ((rdT x1 x5).f1) ((rdT x1 x5).f2) ((rdT x1 x5).f3)).bind fun t1 => (if t1 = true then (laws_eqStepS.l0 k x0 x1 (wrap64 (x5 + 1))) else (some false))) else none) else none) else (some true))
def laws_eqStepS.f (k : Nat) (l0 : List Stp) (l1 : List Stp) : Option (Bool) := (if (l0.length : Int) = (l1.length : Int) then (laws_eqStepS.l0 k l0 l1 0) else (some false))
def laws_eqStepS.en (r : Bool) : Res := (.lit r, [])
def laws_eqStepS.dec : List AV → List R.Obj → Option ((List Stp) × (List Stp))
  | [.imm (.T l0), .imm (.T l1)], [] => some (l0, l1)
  | _, _ => none
def laws_eqStepS.tw : Tw := ⟨83, (List Stp) × (List Stp), Bool, laws_eqStepS.dec, fun a => [.imm (.T a.1), .imm (.T a.2)], fun a => [], fun k a => laws_eqStepS.f k a.1 a.2, fun a r => laws_eqStepS.en r⟩
theorem laws_eqStepS.dok : laws_eqStepS.tw.DecOk := by
  intro args hc a h
  have h : laws_eqStepS.dec args hc = some a := h
  unfold laws_eqStepS.dec at h
  split at h
  · cases h; exact ⟨rfl, rfl⟩
  · cases h
noncomputable def laws_eqStepS.O (k : Nat) : Oracle := (laws_eqStep.tw.orc k noO)
def laws_eqStepS.fh : FH := ⟨fun i => match i with | 4 => some [(0, 0), (1, 0), (5, 0)] | _ => none, [], false⟩
noncomputable def laws_eqStepS.x0 (k : Nat) (x0 : List Stp) (x1 : List Stp) (x5 : Int) : Option Res := R.exec Try.prog xhn laws_eqStepS.O 0 Try.f83 laws_eqStepS.fh k (R.point Try.f83 4) ⟨[(0, .imm (.T x0)), (1, .imm (.T x1)), (5, .int .i64 x5)], [], 2⟩
set_option maxRecDepth 100000 in
theorem laws_eqStepS.e0 (k : Nat) (x0 : List Stp) (x1 : List Stp) (x5 : Int) : laws_eqStepS.x0 (k + 1) x0 x1 x5 = (if x5 < (x0.length : Int) then (if 0 ≤ x5 then (if x5 < (x1.length : Int) then ((laws_eqStep.f ((rdT x0 x5).f0) ((rdT x0 x5).f1) ((rdT x0 x5).f2) ((rdT x0 x5).f3) ((rdT x1 x5).f0) ((rdT x1 x5).f1) ((rdT x1 x5).f2) ((rdT x1 x5).f3)).bind fun t1 => (if t1 = true then (laws_eqStepS.x0 k x0 x1 (wrap64 (x5 + 1))) else (some (laws_eqStepS.en false)))) else none) else none) else (some (laws_eqStepS.en true))) := by
  refine Eq.trans ?_ (R.icong (fun h0 => (R.icong (fun h1 => (R.idropT (p := x5 < (x0.length : Int)) (z := none) h0 (R.idropT (p := 0 ≤ x5) (z := none) h1 rfl))) (fun h1 => rfl))) (fun h0 => rfl))
  kernel_rfl
set_option maxRecDepth 100000 in
theorem laws_eqStepS.ef (k : Nat) (l0 : List Stp) (l1 : List Stp) : R.start Try.prog xhn laws_eqStepS.O 0 Try.f83 laws_eqStepS.fh k [.imm (.T l0), .imm (.T l1)] [] = (if (l0.length : Int) = (l1.length : Int) then (laws_eqStepS.x0 k l0 l1 0) else (some (laws_eqStepS.en false))) := by kernel_rfl
theorem laws_eqStepS.link : ∀ k, (∀ (x0 : List Stp) (x1 : List Stp) (x5 : Int), laws_eqStepS.x0 k x0 x1 x5 = (laws_eqStepS.l0 k x0 x1 x5).map (laws_eqStepS.en))
  | 0 => fun _ _ _ => by simp only [laws_eqStepS.l0, R.map_none]; rfl
  | k + 1 => by
    have ih0 := laws_eqStepS.link k
    · intro x0 x1 x5
      rw [laws_eqStepS.e0]
      simp only [laws_eqStepS.l0, R.map_ite, R.map_bind, R.map_none, R.map_some, ← ih0]
theorem laws_eqStepS.sf (k : Nat) (l0 : List Stp) (l1 : List Stp) : R.start Try.prog xhn laws_eqStepS.O 0 Try.f83 laws_eqStepS.fh k [.imm (.T l0), .imm (.T l1)] [] = (laws_eqStepS.f k l0 l1).map (laws_eqStepS.en) := by
  have ih0 := laws_eqStepS.link k
  rw [laws_eqStepS.ef]
  simp only [laws_eqStepS.f, R.map_ite, R.map_bind, R.map_none, R.map_some, ← ih0]
theorem laws_eqStepS.ok (k : Nat) : laws_eqStepS.tw.Ok Try.prog k := by
  intro a r h
  refine fn_ok (H := xhn) (fh := laws_eqStepS.fh) (O := laws_eqStepS.O) (k := k) Try.func83 (by kernel_rfl) (by kernel_rfl) (fun j _ => (Tw.orc_sound laws_eqStep.dok (laws_eqStep.ok j) noO_sound)) (by kernel_rfl) (m := 0) rfl ?_
  refine (laws_eqStepS.sf k a.1 a.2).trans ?_
  exact congrArg (Option.map _) h
def laws_eqAutomaton.f (k : Nat) (a0_0 : Int) (l0_1 : List Int) (l0_2 : List Int) (l0_3 : List Stp) (a1_0 : Int) (l1_1 : List Int) (l1_2 : List Int) (l1_3 : List Stp) : Option (Bool) := (if a0_0 = a1_0 then ((laws_eqIntS.f k l0_1 l1_1).bind fun t1 => (if t1 = true then ((laws_eqIntS.f k l0_2 l1_2).bind fun t2 => (if t2 = true then ((laws_eqStepS.f k l0_3 l1_3).bind fun t3 => (if t3 = true then (some true) else (some false))) else (some false))) else (some false))) else (some false))
def laws_eqAutomaton.en (r : Bool) : Res := (.lit r, [])
def laws_eqAutomaton.dec : List AV → List R.Obj → Option (Int × (List Int) × (List Int) × (List Stp) × Int × (List Int) × (List Int) × (List Stp))
  | [.agg [.int .i64 a0_0, .imm (.I .i64 l0_1), .imm (.I .i64 l0_2), .imm (.T l0_3)], .agg [.int .i64 a1_0, .imm (.I .i64 l1_1), .imm (.I .i64 l1_2), .imm (.T l1_3)]], [] => some (a0_0, l0_1, l0_2, l0_3, a1_0, l1_1, l1_2, l1_3)
  | _, _ => none
def laws_eqAutomaton.tw : Tw := ⟨18, Int × (List Int) × (List Int) × (List Stp) × Int × (List Int) × (List Int) × (List Stp), Bool, laws_eqAutomaton.dec, fun a => [.agg [.int .i64 a.1, .imm (.I .i64 a.2.1), .imm (.I .i64 a.2.2.1), .imm (.T a.2.2.2.1)], .agg [.int .i64 a.2.2.2.2.1, .imm (.I .i64 a.2.2.2.2.2.1), .imm (.I .i64 a.2.2.2.2.2.2.1), .imm (.T a.2.2.2.2.2.2.2)]], fun a => [], fun k a => laws_eqAutomaton.f k a.1 a.2.1 a.2.2.1 a.2.2.2.1 a.2.2.2.2.1 a.2.2.2.2.2.1 a.2.2.2.2.2.2.1 a.2.2.2.2.2.2.2, fun a r => laws_eqAutomaton.en r⟩
theorem laws_eqAutomaton.dok : laws_eqAutomaton.tw.DecOk := by
  intro args hc a h
  have h : laws_eqAutomaton.dec args hc = some a := h
  unfold laws_eqAutomaton.dec at h
  split at h
  · cases h; exact ⟨rfl, rfl⟩
  · cases h
noncomputable def laws_eqAutomaton.O (k : Nat) : Oracle := (laws_eqIntS.tw.orc k (laws_eqStepS.tw.orc k noO))
def laws_eqAutomaton.fh : FH := ⟨fun i => match i with | _ => none, [], false⟩
set_option maxRecDepth 100000 in
theorem laws_eqAutomaton.ef (k : Nat) (a0_0 : Int) (l0_1 : List Int) (l0_2 : List Int) (l0_3 : List Stp) (a1_0 : Int) (l1_1 : List Int) (l1_2 : List Int) (l1_3 : List Stp) : R.start Try.prog xhn laws_eqAutomaton.O 0 Try.f18 laws_eqAutomaton.fh k [.agg [.int .i64 a0_0, .imm (.I .i64 l0_1), .imm (.I .i64 l0_2), .imm (.T l0_3)], .agg [.int .i64 a1_0, .imm (.I .i64 l1_1), .imm (.I .i64 l1_2), .imm (.T l1_3)]] [] = (if a0_0 = a1_0 then ((laws_eqIntS.f k l0_1 l1_1).bind fun t1 => (if t1 = true then ((laws_eqIntS.f k l0_2 l1_2).bind fun t2 => (if t2 = true then ((laws_eqStepS.f k l0_3 l1_3).bind fun t3 => (if t3 = true then (some (laws_eqAutomaton.en true)) else (some (laws_eqAutomaton.en false)))) else (some (laws_eqAutomaton.en false)))) else (some (laws_eqAutomaton.en false)))) else (some (laws_eqAutomaton.en false))) := by kernel_rfl
theorem laws_eqAutomaton.sf (k : Nat) (a0_0 : Int) (l0_1 : List Int) (l0_2 : List Int) (l0_3 : List Stp) (a1_0 : Int) (l1_1 : List Int) (l1_2 : List Int) (l1_3 : List Stp) : R.start Try.prog xhn laws_eqAutomaton.O 0 Try.f18 laws_eqAutomaton.fh k [.agg [.int .i64 a0_0, .imm (.I .i64 l0_1), .imm (.I .i64 l0_2), .imm (.T l0_3)], .agg [.int .i64 a1_0, .imm (.I .i64 l1_1), .imm (.I .i64 l1_2), .imm (.T l1_3)]] [] = (laws_eqAutomaton.f k a0_0 l0_1 l0_2 l0_3 a1_0 l1_1 l1_2 l1_3).map (laws_eqAutomaton.en) := by
  rw [laws_eqAutomaton.ef]
  simp only [laws_eqAutomaton.f, R.map_ite, R.map_bind, R.map_none, R.map_some]
theorem laws_eqAutomaton.ok (k : Nat) : laws_eqAutomaton.tw.Ok Try.prog k := by
  intro a r h
  refine fn_ok (H := xhn) (fh := laws_eqAutomaton.fh) (O := laws_eqAutomaton.O) (k := k) Try.func18 (by kernel_rfl) (by kernel_rfl) (fun j _ => (Tw.orc_sound laws_eqIntS.dok (laws_eqIntS.ok j) (Tw.orc_sound laws_eqStepS.dok (laws_eqStepS.ok j) noO_sound))) (by kernel_rfl) (m := 0) rfl ?_
  refine (laws_eqAutomaton.sf k a.1 a.2.1 a.2.2.1 a.2.2.2.1 a.2.2.2.2.1 a.2.2.2.2.2.1 a.2.2.2.2.2.2.1 a.2.2.2.2.2.2.2).trans ?_
  exact congrArg (Option.map _) h
def laws_eqMatrix.f (k : Nat) (a0_0 : Int) (l0_1 : List Int) (a1_0 : Int) (l1_1 : List Int) : Option (Bool) := (if a0_0 = a1_0 then ((laws_eqIntS.f k l0_1 l1_1).bind fun t1 => (if t1 = true then (some true) else (some false))) else (some false))
def laws_eqMatrix.en (r : Bool) : Res := (.lit r, [])
def laws_eqMatrix.dec : List AV → List R.Obj → Option (Int × (List Int) × Int × (List Int))
  | [.agg [.int .i64 a0_0, .imm (.I .i64 l0_1)], .agg [.int .i64 a1_0, .imm (.I .i64 l1_1)]], [] => some (a0_0, l0_1, a1_0, l1_1)
  | _, _ => none
def laws_eqMatrix.tw : Tw := ⟨51, Int × (List Int) × Int × (List Int), Bool, laws_eqMatrix.dec, fun a => [.agg [.int .i64 a.1, .imm (.I .i64 a.2.1)], .agg [.int .i64 a.2.2.1, .imm (.I .i64 a.2.2.2)]], fun a => [], fun k a => laws_eqMatrix.f k a.1 a.2.1 a.2.2.1 a.2.2.2, fun a r => laws_eqMatrix.en r⟩
theorem laws_eqMatrix.dok : laws_eqMatrix.tw.DecOk := by
  intro args hc a h
  have h : laws_eqMatrix.dec args hc = some a := h
  unfold laws_eqMatrix.dec at h
  split at h
  · cases h; exact ⟨rfl, rfl⟩
  · cases h
noncomputable def laws_eqMatrix.O (k : Nat) : Oracle := (laws_eqIntS.tw.orc k noO)
def laws_eqMatrix.fh : FH := ⟨fun i => match i with | _ => none, [], false⟩
set_option maxRecDepth 100000 in
theorem laws_eqMatrix.ef (k : Nat) (a0_0 : Int) (l0_1 : List Int) (a1_0 : Int) (l1_1 : List Int) : R.start Try.prog xhn laws_eqMatrix.O 0 Try.f51 laws_eqMatrix.fh k [.agg [.int .i64 a0_0, .imm (.I .i64 l0_1)], .agg [.int .i64 a1_0, .imm (.I .i64 l1_1)]] [] = (if a0_0 = a1_0 then ((laws_eqIntS.f k l0_1 l1_1).bind fun t1 => (if t1 = true then (some (laws_eqMatrix.en true)) else (some (laws_eqMatrix.en false)))) else (some (laws_eqMatrix.en false))) := by kernel_rfl
theorem laws_eqMatrix.sf (k : Nat) (a0_0 : Int) (l0_1 : List Int) (a1_0 : Int) (l1_1 : List Int) : R.start Try.prog xhn laws_eqMatrix.O 0 Try.f51 laws_eqMatrix.fh k [.agg [.int .i64 a0_0, .imm (.I .i64 l0_1)], .agg [.int .i64 a1_0, .imm (.I .i64 l1_1)]] [] = (laws_eqMatrix.f k a0_0 l0_1 a1_0 l1_1).map (laws_eqMatrix.en) := by
  rw [laws_eqMatrix.ef]
  simp only [laws_eqMatrix.f, R.map_ite, R.map_bind, R.map_none, R.map_some]
theorem laws_eqMatrix.ok (k : Nat) : laws_eqMatrix.tw.Ok Try.prog k := by
  intro a r h
  refine fn_ok (H := xhn) (fh := laws_eqMatrix.fh) (O := laws_eqMatrix.O) (k := k) Try.func51 (by kernel_rfl) (by kernel_rfl) (fun j _ => (Tw.orc_sound laws_eqIntS.dok (laws_eqIntS.ok j) noO_sound)) (by kernel_rfl) (m := 0) rfl ?_
  refine (laws_eqMatrix.sf k a.1 a.2.1 a.2.2.1 a.2.2.2).trans ?_
  exact congrArg (Option.map _) h
def laws_FnExactExpressionFor.f (k : Nat) (a0_0 : Int) (l0_1 : List Int) (l0_2 : List Int) (l0_3 : List Stp) (a1_0 : Int) (l1_1 : List Int) : Option (Bool) := ((laws_szAutomaton.f k a0_0 l0_1 l0_2 l0_3 1048576).bind fun t1 => (if t1 < 0 then (some true) else ((laws_szMatrix.f a1_0 l1_1 t1).bind fun t2 => (if t2 < 0 then (some true) else ((laws_toAutomaton.f k a0_0 l0_1 l0_2 l0_3).bind fun t3 => ((laws_toMatrix.f k a1_0 l1_1).bind fun t4 => ((spec_ExpressionFor.f k t3.1 t3.2.1 t3.2.2.1 t3.2.2.2 t4.1 t4.2).bind fun t5 => ((laws_toAutomaton.f k a0_0 l0_1 l0_2 l0_3).bind fun t6 => ((laws_toMatrix.f k a1_0 l1_1).bind fun t7 => ((impl_ExpressionFor.f k t6.1 t6.2.1 t6.2.2.1 t6.2.2.2 t7.1 t7.2).bind fun t8 => (if t8.1.toList = t5.1.toList then (if (t8.2 != t5.2) = true then (some false) else ((laws_toAutomaton.f k a0_0 l0_1 l0_2 l0_3).bind fun t9 => ((laws_eqAutomaton.f k t6.1 t6.2.1 t6.2.2.1 t6.2.2.2 t9.1 t9.2.1 t9.2.2.1 t9.2.2.2).bind fun t10 => (if t10 = true then ((laws_toMatrix.f k a1_0 l1_1).bind fun t11 => ((laws_eqMatrix.f k t7.1 t7.2 t11.1 t11.2).bind fun t12 => (if t12 = true then (some true) else (some false)))) else (some false))))) else (some false))))))))))))
def laws_FnExactExpressionFor.en (r : Bool) : Res := (.lit r, [])
def laws_FnExactExpressionFor.dec : List AV → List R.Obj → Option (Int × (List Int) × (List Int) × (List Stp) × Int × (List Int))
  | [.agg [.int .i64 a0_0, .imm (.I .i64 l0_1), .imm (.I .i64 l0_2), .imm (.T l0_3)], .agg [.int .i64 a1_0, .imm (.I .i64 l1_1)]], [] => some (a0_0, l0_1, l0_2, l0_3, a1_0, l1_1)
  | _, _ => none
def laws_FnExactExpressionFor.tw : Tw := ⟨8, Int × (List Int) × (List Int) × (List Stp) × Int × (List Int), Bool, laws_FnExactExpressionFor.dec, fun a => [.agg [.int .i64 a.1, .imm (.I .i64 a.2.1), .imm (.I .i64 a.2.2.1), .imm (.T a.2.2.2.1)], .agg [.int .i64 a.2.2.2.2.1, .imm (.I .i64 a.2.2.2.2.2)]], fun a => [], fun k a => laws_FnExactExpressionFor.f k a.1 a.2.1 a.2.2.1 a.2.2.2.1 a.2.2.2.2.1 a.2.2.2.2.2, fun a r => laws_FnExactExpressionFor.en r⟩
theorem laws_FnExactExpressionFor.dok : laws_FnExactExpressionFor.tw.DecOk := by
  intro args hc a h
  have h : laws_FnExactExpressionFor.dec args hc = some a := h
  unfold laws_FnExactExpressionFor.dec at h
  split at h
  · cases h; exact ⟨rfl, rfl⟩
  · cases h
noncomputable def laws_FnExactExpressionFor.O (k : Nat) : Oracle := (laws_szAutomaton.tw.orc k (laws_szMatrix.tw.orc k (laws_toAutomaton.tw.orc k (laws_toMatrix.tw.orc k (spec_ExpressionFor.tw.orc k (impl_ExpressionFor.tw.orc k (laws_eqAutomaton.tw.orc k (laws_eqMatrix.tw.orc k noO))))))))
def laws_FnExactExpressionFor.fh : FH := ⟨fun i => match i with | _ => none, [], false⟩
set_option maxRecDepth 100000 in
theorem laws_FnExactExpressionFor.ef (k : Nat) (a0_0 : Int) (l0_1 : List Int) (l0_2 : List Int) (l0_3 : List Stp) (a1_0 : Int) (l1_1 : List Int) : R.start Try.prog xhn laws_FnExactExpressionFor.O 0 Try.f8 laws_FnExactExpressionFor.fh k [.agg [.int .i64 a0_0, .imm (.I .i64 l0_1), .imm (.I .i64 l0_2), .imm (.T l0_3)], .agg [.int .i64 a1_0, .imm (.I .i64 l1_1)]] [] = ((laws_szAutomaton.f k a0_0 l0_1 l0_2 l0_3 1048576).bind fun t1 => (if t1 < 0 then (some (laws_FnExactExpressionFor.en true)) else ((laws_szMatrix.f a1_0 l1_1 t1).bind fun t2 => (if t2 < 0 then (some (laws_FnExactExpressionFor.en true)) else ((laws_toAutomaton.f k a0_0 l0_1 l0_2 l0_3).bind fun t3 => ((laws_toMatrix.f k a1_0 l1_1).bind fun t4 => ((spec_ExpressionFor.f k t3.1 t3.2.1 t3.2.2.1 t3.2.2.2 t4.1 t4.2).bind fun t5 => ((laws_toAutomaton.f k a0_0 l0_1 l0_2 l0_3).bind fun t6 => ((laws_toMatrix.f k a1_0 l1_1).bind fun t7 => ((impl_ExpressionFor.f k t6.1 t6.2.1 t6.2.2.1 t6.2.2.2 t7.1 t7.2).bind fun t8 => (if t8.1.toList = t5.1.toList then (if (t8.2 != t5.2) = true then (some (laws_FnExactExpressionFor.en false)) else ((laws_toAutomaton.f k a0_0 l0_1 l0_2 l0_3).bind fun t9 => ((laws_eqAutomaton.f k t6.1 t6.2.1 t6.2.2.1 t6.2.2.2 t9.1 t9.2.1 t9.2.2.1 t9.2.2.2).bind fun t10 => (if t10 = true then ((laws_toMatrix.f k a1_0 l1_1).bind fun t11 => ((laws_eqMatrix.f k t7.1 t7.2 t11.1 t11.2).bind fun t12 => (if t12 = true then (some (laws_FnExactExpressionFor.en true)) else (some (laws_FnExactExpressionFor.en false))))) else (some (laws_FnExactExpressionFor.en false)))))) else (some (laws_FnExactExpressionFor.en false))))))))))))) := by kernel_rfl
theorem laws_FnExactExpressionFor.sf (k : Nat) (a0_0 : Int) (l0_1 : List Int) (l0_2 : List Int) (l0_3 : List Stp) (a1_0 : Int) (l1_1 : List Int) : R.start Try.prog xhn laws_FnExactExpressionFor.O 0 Try.f8 laws_FnExactExpressionFor.fh k [.agg [.int .i64 a0_0, .imm (.I .i64 l0_1), .imm (.I .i64 l0_2), .imm (.T l0_3)], .agg [.int .i64 a1_0, .imm (.I .i64 l1_1)]] [] = (laws_FnExactExpressionFor.f k a0_0 l0_1 l0_2 l0_3 a1_0 l1_1).map (laws_FnExactExpressionFor.en) := by
  rw [laws_FnExactExpressionFor.ef]
  simp only [laws_FnExactExpressionFor.f, R.map_ite, R.map_bind, R.map_none, R.map_some]
theorem laws_FnExactExpressionFor.ok (k : Nat) : laws_FnExactExpressionFor.tw.Ok Try.prog k := by
  intro a r h
  refine fn_ok (H := xhn) (fh := laws_FnExactExpressionFor.fh) (O := laws_FnExactExpressionFor.O) (k := k) Try.func8 (by kernel_rfl) (by kernel_rfl) (fun j _ => (Tw.orc_sound laws_szAutomaton.dok (laws_szAutomaton.ok j) (Tw.orc_sound laws_szMatrix.dok (laws_szMatrix.ok j) (Tw.orc_sound laws_toAutomaton.dok (laws_toAutomaton.ok j) (Tw.orc_sound laws_toMatrix.dok (laws_toMatrix.ok j) (Tw.orc_sound spec_ExpressionFor.dok (spec_ExpressionFor.ok j) (Tw.orc_sound impl_ExpressionFor.dok (impl_ExpressionFor.ok j) (Tw.orc_sound laws_eqAutomaton.dok (laws_eqAutomaton.ok j) (Tw.orc_sound laws_eqMatrix.dok (laws_eqMatrix.ok j) noO_sound))))))))) (by kernel_rfl) (m := 0) rfl ?_
  refine (laws_FnExactExpressionFor.sf k a.1 a.2.1 a.2.2.1 a.2.2.2.1 a.2.2.2.2.1 a.2.2.2.2.2).trans ?_
  exact congrArg (Option.map _) h
def spec_StablesOf.l0 : Nat → (List ByteArray) → Bool → (List Elm) → Int → Int → Option ((List ByteArray) × Bool)
  | 0, _, _, _, _, _ => none
  | k + 1, y0, x6, y1, x16, x17 => (if x17 < x16 then (if 0 ≤ x17 then (if x17 < (y1.length : Int) then ((spec_l6Idempotent.f k ((rdE y1 x17).f0) ((rdE y1 x17).f1)).bind fun t2 => (if t2 = true then ((spec_l6Stable.f k ((rdE y1 x17).f0) ((rdE y1 x17).f1)).bind fun t3 => ((spec_l2Same.f k t3.2 ((rdE y1 x17).f1)).bind fun t4 => (if t4 = true then (if y0.length < 8796093022208 then (spec_StablesOf.l0 k (y0 ++ [(rdE y1 x17).f2]) x6 y1 x16 (wrap64 (x17 + 1))) else none) else (spec_StablesOf.l0 k y0 x6 y1 x16 (wrap64 (x17 + 1)))))) else (spec_StablesOf.l0 k y0 x6 y1 x16 (wrap64 (x17 + 1))))) else none) else none) else (some (y0, x6)))
def spec_StablesOf.f (k : Nat) (a0_0 : Int) (l0_1 : List Int) (l0_2 : List Int) (l0_3 : List Stp) : Option ((List ByteArray) × Bool) := ((spec_ElementsOf.f k a0_0 l0_1 l0_2 l0_3).bind fun t1 => (spec_StablesOf.l0 k ([] : List ByteArray) t1.2 t1.1 (t1.1.length : Int) 0))
def spec_StablesOf.en (r : (List ByteArray) × Bool) : Res := (.tup [.sl 0 0, .lit r.2], [.arr 9 0 (.S r.1) false])
def spec_StablesOf.dec : List AV → List R.Obj → Option (Int × (List Int) × (List Int) × (List Stp))
  | [.agg [.int .i64 a0_0, .imm (.I .i64 l0_1), .imm (.I .i64 l0_2), .imm (.T l0_3)]], [] => some (a0_0, l0_1, l0_2, l0_3)
  | _, _ => none
def spec_StablesOf.tw : Tw := ⟨52, Int × (List Int) × (List Int) × (List Stp), (List ByteArray) × Bool, spec_StablesOf.dec, fun a => [.agg [.int .i64 a.1, .imm (.I .i64 a.2.1), .imm (.I .i64 a.2.2.1), .imm (.T a.2.2.2)]], fun a => [], fun k a => spec_StablesOf.f k a.1 a.2.1 a.2.2.1 a.2.2.2, fun a r => spec_StablesOf.en r⟩
theorem spec_StablesOf.dok : spec_StablesOf.tw.DecOk := by
  intro args hc a h
  have h : spec_StablesOf.dec args hc = some a := h
  unfold spec_StablesOf.dec at h
  split at h
  · cases h; exact ⟨rfl, rfl⟩
  · cases h
noncomputable def spec_StablesOf.O (k : Nat) : Oracle := (spec_ElementsOf.tw.orc k (spec_l6Idempotent.tw.orc k (spec_l6Stable.tw.orc k (spec_l2Same.tw.orc k noO))))
def spec_StablesOf.fh : FH := ⟨fun i => match i with | 4 => some [(4, 0), (6, 0), (15, 0), (16, 0), (17, 0)] | _ => none, [(true, 9)], false⟩
noncomputable def spec_StablesOf.x0 (k : Nat) (y0 : List ByteArray) (x6 : Bool) (y1 : List Elm) (x16 : Int) (x17 : Int) : Option Res := R.exec Try.prog xhn spec_StablesOf.O 0 Try.f52 spec_StablesOf.fh k (R.point Try.f52 4) ⟨[(4, .sl 0 0), (6, .lit x6), (15, .sl 1 0), (16, .int .i64 x16), (17, .int .i64 x17)], [(0, .arr 9 0 (.S y0) false), (1, .arr 82 0 (.E y1) false)], 4⟩
set_option maxRecDepth 100000 in
theorem spec_StablesOf.e0 (k : Nat) (y0 : List ByteArray) (x6 : Bool) (y1 : List Elm) (x16 : Int) (x17 : Int) : spec_StablesOf.x0 (k + 1) y0 x6 y1 x16 x17 = (if x17 < x16 then (if 0 ≤ x17 then (if x17 < (y1.length : Int) then ((spec_l6Idempotent.f k ((rdE y1 x17).f0) ((rdE y1 x17).f1)).bind fun t2 => (if t2 = true then ((spec_l6Stable.f k ((rdE y1 x17).f0) ((rdE y1 x17).f1)).bind fun t3 => ((spec_l2Same.f k t3.2 ((rdE y1 x17).f1)).bind fun t4 => (if t4 = true then (if y0.length < 8796093022208 then (spec_StablesOf.x0 k (y0 ++ [(rdE y1 x17).f2]) x6 y1 x16 (wrap64 (x17 + 1))) else none) else (spec_StablesOf.x0 k y0 x6 y1 x16 (wrap64 (x17 + 1)))))) else (spec_StablesOf.x0 k y0 x6 y1 x16 (wrap64 (x17 + 1))))) else none) else none) else (some (spec_StablesOf.en (y0, x6)))) := by kernel_rfl
set_option maxRecDepth 100000 in
theorem spec_StablesOf.ef (k : Nat) (a0_0 : Int) (l0_1 : List Int) (l0_2 : List Int) (l0_3 : List Stp) : R.start Try.prog xhn spec_StablesOf.O 0 Try.f52 spec_StablesOf.fh k [.agg [.int .i64 a0_0, .imm (.I .i64 l0_1), .imm (.I .i64 l0_2), .imm (.T l0_3)]] [] = ((spec_ElementsOf.f k a0_0 l0_1 l0_2 l0_3).bind fun t1 => (spec_StablesOf.x0 k ([] : List ByteArray) t1.2 t1.1 (t1.1.length : Int) 0)) := by kernel_rfl
theorem spec_StablesOf.link : ∀ k, (∀ (y0 : List ByteArray) (x6 : Bool) (y1 : List Elm) (x16 : Int) (x17 : Int), spec_StablesOf.x0 k y0 x6 y1 x16 x17 = (spec_StablesOf.l0 k y0 x6 y1 x16 x17).map (spec_StablesOf.en))
  | 0 => fun _ _ _ _ _ => by simp only [spec_StablesOf.l0, R.map_none]; rfl
  | k + 1 => by
    have ih0 := spec_StablesOf.link k
    · intro y0 x6 y1 x16 x17
      rw [spec_StablesOf.e0]
      simp only [spec_StablesOf.l0, R.map_ite, R.map_bind, R.map_none, R.map_some, ← ih0]
theorem spec_StablesOf.sf (k : Nat) (a0_0 : Int) (l0_1 : List Int) (l0_2 : List Int) (l0_3 : List Stp) : R.start Try.prog xhn spec_StablesOf.O 0 Try.f52 spec_StablesOf.fh k [.agg [.int .i64 a0_0, .imm (.I .i64 l0_1), .imm (.I .i64 l0_2), .imm (.T l0_3)]] [] = (spec_StablesOf.f k a0_0 l0_1 l0_2 l0_3).map (spec_StablesOf.en) := by
  have ih0 := spec_StablesOf.link k
  rw [spec_StablesOf.ef]
  simp only [spec_StablesOf.f, R.map_ite, R.map_bind, R.map_none, R.map_some, ← ih0]
theorem spec_StablesOf.ok (k : Nat) : spec_StablesOf.tw.Ok Try.prog k := by
  intro a r h
  refine fn_ok (H := xhn) (fh := spec_StablesOf.fh) (O := spec_StablesOf.O) (k := k) Try.func52 (by kernel_rfl) (by kernel_rfl) (fun j _ => (Tw.orc_sound spec_ElementsOf.dok (spec_ElementsOf.ok j) (Tw.orc_sound spec_l6Idempotent.dok (spec_l6Idempotent.ok j) (Tw.orc_sound spec_l6Stable.dok (spec_l6Stable.ok j) (Tw.orc_sound spec_l2Same.dok (spec_l2Same.ok j) noO_sound))))) (by kernel_rfl) (m := 0) rfl ?_
  refine (spec_StablesOf.sf k a.1 a.2.1 a.2.2.1 a.2.2.2).trans ?_
  exact congrArg (Option.map _) h
def impl_StablesOf.l0 : Nat → (List ByteArray) → (List Elm) → Int → Int → Option ((List ByteArray) × Bool)
  | 0, _, _, _, _ => none
  | k + 1, y0, x19, x20, x21 => (if x21 < x20 then (if 0 ≤ x21 then (if x21 < (x19.length : Int) then ((impl_Stabilise.f k ((rdE x19 x21).f0) ((rdE x19 x21).f1)).bind fun t2 => (if t2.2.2 = true then ((impl_SameMatrix.f k t2.1 t2.2.1 ((rdE x19 x21).f0) ((rdE x19 x21).f1)).bind fun t3 => (if t3 = true then (if y0.length < 8796093022208 then (impl_StablesOf.l0 k (y0 ++ [(rdE x19 x21).f2]) x19 x20 (wrap64 (x21 + 1))) else none) else (impl_StablesOf.l0 k y0 x19 x20 (wrap64 (x21 + 1))))) else (impl_StablesOf.l0 k y0 x19 x20 (wrap64 (x21 + 1))))) else none) else none) else (some (y0, true)))
def impl_StablesOf.f (k : Nat) (a0_0 : Int) (l0_1 : List Int) (l0_2 : List Int) (l0_3 : List Stp) : Option ((List ByteArray) × Bool) := ((impl_ElementsOf.f k a0_0 l0_1 l0_2 l0_3).bind fun t1 => (if t1.2 = true then (impl_StablesOf.l0 k ([] : List ByteArray) t1.1 (t1.1.length : Int) 0) else (some (([] : List ByteArray), false))))
def impl_StablesOf.en (r : (List ByteArray) × Bool) : Res := (.tup [.sl 0 0, .lit r.2], [.arr 9 0 (.S r.1) false])
def impl_StablesOf.dec : List AV → List R.Obj → Option (Int × (List Int) × (List Int) × (List Stp))
  | [.agg [.int .i64 a0_0, .imm (.I .i64 l0_1), .imm (.I .i64 l0_2), .imm (.T l0_3)]], [] => some (a0_0, l0_1, l0_2, l0_3)
  | _, _ => none
def impl_StablesOf.tw : Tw := ⟨53, Int × (List Int) × (List Int) × (List Stp), (List ByteArray) × Bool, impl_StablesOf.dec, fun a => [.agg [.int .i64 a.1, .imm (.I .i64 a.2.1), .imm (.I .i64 a.2.2.1), .imm (.T a.2.2.2)]], fun a => [], fun k a => impl_StablesOf.f k a.1 a.2.1 a.2.2.1 a.2.2.2, fun a r => impl_StablesOf.en r⟩
theorem impl_StablesOf.dok : impl_StablesOf.tw.DecOk := by
  intro args hc a h
  have h : impl_StablesOf.dec args hc = some a := h
  unfold impl_StablesOf.dec at h
  split at h
  · cases h; exact ⟨rfl, rfl⟩
  · cases h
noncomputable def impl_StablesOf.O (k : Nat) : Oracle := (impl_ElementsOf.tw.orc k (impl_Stabilise.tw.orc k (impl_SameMatrix.tw.orc k noO)))
def impl_StablesOf.fh : FH := ⟨fun i => match i with | 6 => some [(6, 0), (19, 0), (20, 0), (21, 0)] | _ => none, [(true, 9)], false⟩
noncomputable def impl_StablesOf.x0 (k : Nat) (y0 : List ByteArray) (x19 : List Elm) (x20 : Int) (x21 : Int) : Option Res := R.exec Try.prog xhn impl_StablesOf.O 0 Try.f53 impl_StablesOf.fh k (R.point Try.f53 6) ⟨[(6, .sl 0 0), (19, .imm (.E x19)), (20, .int .i64 x20), (21, .int .i64 x21)], [(0, .arr 9 0 (.S y0) false)], 3⟩
set_option maxRecDepth 100000 in
theorem impl_StablesOf.e0 (k : Nat) (y0 : List ByteArray) (x19 : List Elm) (x20 : Int) (x21 : Int) : impl_StablesOf.x0 (k + 1) y0 x19 x20 x21 = (if x21 < x20 then (if 0 ≤ x21 then (if x21 < (x19.length : Int) then ((impl_Stabilise.f k ((rdE x19 x21).f0) ((rdE x19 x21).f1)).bind fun t2 => (if t2.2.2 = true then ((impl_SameMatrix.f k t2.1 t2.2.1 ((rdE x19 x21).f0) ((rdE x19 x21).f1)).bind fun t3 => (if t3 = true then (if y0.length < 8796093022208 then (impl_StablesOf.x0 k (y0 ++ [(rdE x19 x21).f2]) x19 x20 (wrap64 (x21 + 1))) else none) else (impl_StablesOf.x0 k y0 x19 x20 (wrap64 (x21 + 1))))) else (impl_StablesOf.x0 k y0 x19 x20 (wrap64 (x21 + 1))))) else none) else none) else (some (impl_StablesOf.en (y0, true)))) := by kernel_rfl
set_option maxRecDepth 100000 in
theorem impl_StablesOf.ef (k : Nat) (a0_0 : Int) (l0_1 : List Int) (l0_2 : List Int) (l0_3 : List Stp) : R.start Try.prog xhn impl_StablesOf.O 0 Try.f53 impl_StablesOf.fh k [.agg [.int .i64 a0_0, .imm (.I .i64 l0_1), .imm (.I .i64 l0_2), .imm (.T l0_3)]] [] = ((impl_ElementsOf.f k a0_0 l0_1 l0_2 l0_3).bind fun t1 => (if t1.2 = true then (impl_StablesOf.x0 k ([] : List ByteArray) t1.1 (t1.1.length : Int) 0) else (some (impl_StablesOf.en (([] : List ByteArray), false))))) := by kernel_rfl
theorem impl_StablesOf.link : ∀ k, (∀ (y0 : List ByteArray) (x19 : List Elm) (x20 : Int) (x21 : Int), impl_StablesOf.x0 k y0 x19 x20 x21 = (impl_StablesOf.l0 k y0 x19 x20 x21).map (impl_StablesOf.en))
  | 0 => fun _ _ _ _ => by simp only [impl_StablesOf.l0, R.map_none]; rfl
  | k + 1 => by
    have ih0 := impl_StablesOf.link k
    · intro y0 x19 x20 x21
      rw [impl_StablesOf.e0]
      simp only [impl_StablesOf.l0, R.map_ite, R.map_bind, R.map_none, R.map_some, ← ih0]
theorem impl_StablesOf.sf (k : Nat) (a0_0 : Int) (l0_1 : List Int) (l0_2 : List Int) (l0_3 : List Stp) : R.start Try.prog xhn impl_StablesOf.O 0 Try.f53 impl_StablesOf.fh k [.agg [.int .i64 a0_0, .imm (.I .i64 l0_1), .imm (.I .i64 l0_2), .imm (.T l0_3)]] [] = (impl_StablesOf.f k a0_0 l0_1 l0_2 l0_3).map (impl_StablesOf.en) := by
  have ih0 := impl_StablesOf.link k
  rw [impl_StablesOf.ef]
  simp only [impl_StablesOf.f, R.map_ite, R.map_bind, R.map_none, R.map_some, ← ih0]
theorem impl_StablesOf.ok (k : Nat) : impl_StablesOf.tw.Ok Try.prog k := by
  intro a r h
  refine fn_ok (H := xhn) (fh := impl_StablesOf.fh) (O := impl_StablesOf.O) (k := k) Try.func53 (by kernel_rfl) (by kernel_rfl) (fun j _ => (Tw.orc_sound impl_ElementsOf.dok (impl_ElementsOf.ok j) (Tw.orc_sound impl_Stabilise.dok (impl_Stabilise.ok j) (Tw.orc_sound impl_SameMatrix.dok (impl_SameMatrix.ok j) noO_sound)))) (by kernel_rfl) (m := 0) rfl ?_
  refine (impl_StablesOf.sf k a.1 a.2.1 a.2.2.1 a.2.2.2).trans ?_
  exact congrArg (Option.map _) h
def laws_eqStringS.l0 : Nat → (List ByteArray) → (List ByteArray) → Int → Option (Bool)
  | 0, _, _, _ => none
  | k + 1, x0, x1, x5 => (if x5 < (x0.length : Int) then (if 0 ≤ x5 then (if x5 < (x1.length : Int) then (if (rdS x0 x5).toList = (rdS x1 x5).toList then (laws_eqStringS.l0 k x0 x1 (wrap64 (x5 + 1))) else (some false)) else none) else none) else (some true))
def laws_eqStringS.f (k : Nat) (l0 : List ByteArray) (l1 : List ByteArray) : Option (Bool) := (if (l0.length : Int) = (l1.length : Int) then (laws_eqStringS.l0 k l0 l1 0) else (some false))
def laws_eqStringS.en (r : Bool) : Res := (.lit r, [])
def laws_eqStringS.dec : List AV → List R.Obj → Option ((List ByteArray) × (List ByteArray))
  | [.imm (.S l0), .imm (.S l1)], [] => some (l0, l1)
  | _, _ => none
def laws_eqStringS.tw : Tw := ⟨54, (List ByteArray) × (List ByteArray), Bool, laws_eqStringS.dec, fun a => [.imm (.S a.1), .imm (.S a.2)], fun a => [], fun k a => laws_eqStringS.f k a.1 a.2, fun a r => laws_eqStringS.en r⟩
theorem laws_eqStringS.dok : laws_eqStringS.tw.DecOk := by
  intro args hc a h
  have h : laws_eqStringS.dec args hc = some a := h
  unfold laws_eqStringS.dec at h
  split at h
  · cases h; exact ⟨rfl, rfl⟩
  · cases h
noncomputable def laws_eqStringS.O (k : Nat) : Oracle := noO
def laws_eqStringS.fh : FH := ⟨fun i => match i with | 4 => some [(0, 0), (1, 0), (5, 0)] | _ => none, [], false⟩
noncomputable def laws_eqStringS.x0 (k : Nat) (x0 : List ByteArray) (x1 : List ByteArray) (x5 : Int) : Option Res := R.exec Try.prog xhn laws_eqStringS.O 0 Try.f54 laws_eqStringS.fh k (R.point Try.f54 4) ⟨[(0, .imm (.S x0)), (1, .imm (.S x1)), (5, .int .i64 x5)], [], 2⟩
set_option maxRecDepth 100000 in
theorem laws_eqStringS.e0 (k : Nat) (x0 : List ByteArray) (x1 : List ByteArray) (x5 : Int) : laws_eqStringS.x0 (k + 1) x0 x1 x5 = (if x5 < (x0.length : Int) then (if 0 ≤ x5 then (if x5 < (x1.length : Int) then (if (rdS x0 x5).toList = (rdS x1 x5).toList then (laws_eqStringS.x0 k x0 x1 (wrap64 (x5 + 1))) else (some (laws_eqStringS.en false))) else none) else none) else (some (laws_eqStringS.en true))) := by
  refine Eq.trans ?_ (R.icong (fun h0 => (R.icong (fun h1 => (R.idropT (p := x5 < (x0.length : Int)) (z := none) h0 (R.idropT (p := 0 ≤ x5) (z := none) h1 rfl))) (fun h1 => rfl))) (fun h0 => rfl))
  kernel_rfl
set_option maxRecDepth 100000 in
theorem laws_eqStringS.ef (k : Nat) (l0 : List ByteArray) (l1 : List ByteArray) : R.start Try.prog xhn laws_eqStringS.O 0 Try.f54 laws_eqStringS.fh k [.imm (.S l0), .imm (.S l1)] [] = (if (l0.length : Int) = (l1.length : Int) then (laws_eqStringS.x0 k l0 l1 0) else (some (laws_eqStringS.en false))) := by kernel_rfl
theorem laws_eqStringS.link : ∀ k, (∀ (x0 : List ByteArray) (x1 : List ByteArray) (x5 : Int), laws_eqStringS.x0 k x0 x1 x5 = (laws_eqStringS.l0 k x0 x1 x5).map (laws_eqStringS.en))
  | 0 => fun _ _ _ => by simp only [laws_eqStringS.l0, R.map_none]; rfl
  | k + 1 => by
    have ih0 := laws_eqStringS.link k
    · intro x0 x1 x5
      rw [laws_eqStringS.e0]
      simp only [laws_eqStringS.l0, R.map_ite, R.map_bind, R.map_none, R.map_some, ← ih0]
theorem laws_eqStringS.sf (k : Nat) (l0 : List ByteArray) (l1 : List ByteArray) : R.start Try.prog xhn laws_eqStringS.O 0 Try.f54 laws_eqStringS.fh k [.imm (.S l0), .imm (.S l1)] [] = (laws_eqStringS.f k l0 l1).map (laws_eqStringS.en) := by
  have ih0 := laws_eqStringS.link k
  rw [laws_eqStringS.ef]
  simp only [laws_eqStringS.f, R.map_ite, R.map_bind, R.map_none, R.map_some, ← ih0]
theorem laws_eqStringS.ok (k : Nat) : laws_eqStringS.tw.Ok Try.prog k := by
  intro a r h
  refine fn_ok (H := xhn) (fh := laws_eqStringS.fh) (O := laws_eqStringS.O) (k := k) Try.func54 (by kernel_rfl) (by kernel_rfl) (fun j _ => noO_sound) (by kernel_rfl) (m := 0) rfl ?_
  refine (laws_eqStringS.sf k a.1 a.2).trans ?_
  exact congrArg (Option.map _) h
def laws_markIntS.l0 : Nat → (List Int) → Int → Int → Option (Int × (List Int))
  | 0, _, _, _ => none
  | k + 1, y0, x1, x5 => (if x5 < (y0.length : Int) then (if 0 ≤ x5 then (laws_markIntS.l0 k (y0.set x5.toNat x1) (wrap64 (x1 + 1)) (wrap64 (x5 + 1))) else none) else (some (x1, y0)))
def laws_markIntS.f (k : Nat) (l2 : List Int) (a1 : Int) : Option (Int × (List Int)) := (laws_markIntS.l0 k l2 a1 0)
def laws_markIntS.en (r : Int × (List Int)) : Res := (.int .i64 r.1, [.arr 3 0 (.I .i64 r.2) false])
def laws_markIntS.dec : List AV → List R.Obj → Option ((List Int) × Int)
  | [.sl 0 0, .int .i64 a1], [.arr 3 0 (.I .i64 l2) false] => some (l2, a1)
  | _, _ => none
def laws_markIntS.tw : Tw := ⟨20, (List Int) × Int, Int × (List Int), laws_markIntS.dec, fun a => [.sl 0 0, .int .i64 a.2], fun a => [.arr 3 0 (.I .i64 a.1) false], fun k a => laws_markIntS.f k a.1 a.2, fun a r => laws_markIntS.en r⟩
theorem laws_markIntS.dok : laws_markIntS.tw.DecOk := by
  intro args hc a h
  have h : laws_markIntS.dec args hc = some a := h
  unfold laws_markIntS.dec at h
  split at h
  · cases h; exact ⟨rfl, rfl⟩
  · cases h
noncomputable def laws_markIntS.O (k : Nat) : Oracle := noO
def laws_markIntS.fh : FH := ⟨fun i => match i with | 2 => some [(0, 0), (1, 0), (5, 0)] | _ => none, [], false⟩
noncomputable def laws_markIntS.x0 (k : Nat) (y0 : List Int) (x1 : Int) (x5 : Int) : Option Res := R.exec Try.prog xhn laws_markIntS.O 1 Try.f20 laws_markIntS.fh k (R.point Try.f20 2) ⟨[(0, .sl 0 0), (1, .int .i64 x1), (5, .int .i64 x5)], [(0, .arr 3 0 (.I .i64 y0) false)], 3⟩
set_option maxRecDepth 100000 in
theorem laws_markIntS.e0 (k : Nat) (y0 : List Int) (x1 : Int) (x5 : Int) : laws_markIntS.x0 (k + 1) y0 x1 x5 = (if x5 < (y0.length : Int) then (if 0 ≤ x5 then (laws_markIntS.x0 k (y0.set x5.toNat x1) (wrap64 (x1 + 1)) (wrap64 (x5 + 1))) else none) else (some (laws_markIntS.en (x1, y0)))) := by
  refine Eq.trans ?_ (R.icong (fun h0 => (R.icong (fun h1 => (R.idropT (p := x5 < (y0.length : Int)) (z := none) h0 rfl)) (fun h1 => rfl))) (fun h0 => rfl))
  kernel_rfl
set_option maxRecDepth 100000 in
theorem laws_markIntS.ef (k : Nat) (l2 : List Int) (a1 : Int) : R.start Try.prog xhn laws_markIntS.O 1 Try.f20 laws_markIntS.fh k [.sl 0 0, .int .i64 a1] [.arr 3 0 (.I .i64 l2) false] = (laws_markIntS.x0 k l2 a1 0) := by kernel_rfl
theorem laws_markIntS.link : ∀ k, (∀ (y0 : List Int) (x1 : Int) (x5 : Int), laws_markIntS.x0 k y0 x1 x5 = (laws_markIntS.l0 k y0 x1 x5).map (laws_markIntS.en))
  | 0 => fun _ _ _ => by simp only [laws_markIntS.l0, R.map_none]; rfl
  | k + 1 => by
    have ih0 := laws_markIntS.link k
    · intro y0 x1 x5
      rw [laws_markIntS.e0]
      simp only [laws_markIntS.l0, R.map_ite, R.map_bind, R.map_none, R.map_some, ← ih0]
theorem laws_markIntS.sf (k : Nat) (l2 : List Int) (a1 : Int) : R.start Try.prog xhn laws_markIntS.O 1 Try.f20 laws_markIntS.fh k [.sl 0 0, .int .i64 a1] [.arr 3 0 (.I .i64 l2) false] = (laws_markIntS.f k l2 a1).map (laws_markIntS.en) := by
  have ih0 := laws_markIntS.link k
  rw [laws_markIntS.ef]
  simp only [laws_markIntS.f, R.map_ite, R.map_bind, R.map_none, R.map_some, ← ih0]
theorem laws_markIntS.ok (k : Nat) : laws_markIntS.tw.Ok Try.prog k := by
  intro a r h
  refine fn_ok (H := xhn) (fh := laws_markIntS.fh) (O := laws_markIntS.O) (k := k) Try.func20 (by kernel_rfl) (by kernel_rfl) (fun j _ => noO_sound) (by kernel_rfl) (m := 1) rfl ?_
  refine (laws_markIntS.sf k a.1 a.2).trans ?_
  exact congrArg (Option.map _) h
def laws_markText.l0 : Nat → Int → ByteArray → Option (ByteArray)
  | 0, _, _ => none
  | k + 1, x0, x3 => (if x0 > 0 then (if (strOfNums [(((wrap64 (48 + (x0.tmod 10)))) % 256)]).size + x3.size ≤ 9223372036854775807 then (laws_markText.l0 k (wrap64 (x0.tdiv 10)) ((strOfNums [(((wrap64 (48 + (x0.tmod 10)))) % 256)]) ++ x3)) else none) else (if 1 + x3.size ≤ 9223372036854775807 then (some ((⟨#[109]⟩ : ByteArray) ++ x3)) else none))
def laws_markText.f (k : Nat) (a0 : Int) : Option (ByteArray) := (if a0 ≤ 0 then (some (⟨#[109, 48]⟩ : ByteArray)) else (laws_markText.l0 k a0 (⟨#[]⟩ : ByteArray)))
def laws_markText.en (r : ByteArray) : Res := (.str r, [])
def laws_markText.dec : List AV → List R.Obj → Option (Int)
  | [.int .i64 a0], [] => some a0
  | _, _ => none
def laws_markText.tw : Tw := ⟨120, Int, ByteArray, laws_markText.dec, fun a => [.int .i64 a], fun a => [], fun k a => laws_markText.f k a, fun a r => laws_markText.en r⟩
theorem laws_markText.dok : laws_markText.tw.DecOk := by
  intro args hc a h
  have h : laws_markText.dec args hc = some a := h
  unfold laws_markText.dec at h
  split at h
  · cases h; exact ⟨rfl, rfl⟩
  · cases h
noncomputable def laws_markText.O (k : Nat) : Oracle := noO
def laws_markText.fh : FH := ⟨fun i => match i with | 4 => some [(0, 0), (3, 0)] | _ => none, [], false⟩
noncomputable def laws_markText.x0 (k : Nat) (x0 : Int) (x3 : ByteArray) : Option Res := R.exec Try.prog xhn laws_markText.O 0 Try.f120 laws_markText.fh k (R.point Try.f120 4) ⟨[(0, .int .i64 x0), (3, .str x3)], [], 2⟩
set_option maxRecDepth 100000 in
theorem laws_markText.e0 (k : Nat) (x0 : Int) (x3 : ByteArray) : laws_markText.x0 (k + 1) x0 x3 = (if x0 > 0 then (if (strOfNums [(((wrap64 (48 + (x0.tmod 10)))) % 256)]).size + x3.size ≤ 9223372036854775807 then (laws_markText.x0 k (wrap64 (x0.tdiv 10)) ((strOfNums [(((wrap64 (48 + (x0.tmod 10)))) % 256)]) ++ x3)) else none) else (if 1 + x3.size ≤ 9223372036854775807 then (some (laws_markText.en ((⟨#[109]⟩ : ByteArray) ++ x3))) else none)) := by kernel_rfl
set_option maxRecDepth 100000 in
theorem laws_markText.ef (k : Nat) (a0 : Int) : R.start Try.prog xhn laws_markText.O 0 Try.f120 laws_markText.fh k [.int .i64 a0] [] = (if a0 ≤ 0 then (some (laws_markText.en (⟨#[109, 48]⟩ : ByteArray))) else (laws_markText.x0 k a0 (⟨#[]⟩ : ByteArray))) := by kernel_rfl
theorem laws_markText.link : ∀ k, (∀ (x0 : Int) (x3 : ByteArray), laws_markText.x0 k x0 x3 = (laws_markText.l0 k x0 x3).map (laws_markText.en))
  | 0 => fun _ _ => by simp only [laws_markText.l0, R.map_none]; rfl
  | k + 1 => by
    have ih0 := laws_markText.link k
    · intro x0 x3
      rw [laws_markText.e0]
      simp only [laws_markText.l0, R.map_ite, R.map_bind, R.map_none, R.map_some, ← ih0]
theorem laws_markText.sf (k : Nat) (a0 : Int) : R.start Try.prog xhn laws_markText.O 0 Try.f120 laws_markText.fh k [.int .i64 a0] [] = (laws_markText.f k a0).map (laws_markText.en) := by
  have ih0 := laws_markText.link k
  rw [laws_markText.ef]
  simp only [laws_markText.f, R.map_ite, R.map_bind, R.map_none, R.map_some, ← ih0]
theorem laws_markText.ok (k : Nat) : laws_markText.tw.Ok Try.prog k := by
  intro a r h
  refine fn_ok (H := xhn) (fh := laws_markText.fh) (O := laws_markText.O) (k := k) Try.func120 (by kernel_rfl) (by kernel_rfl) (fun j _ => noO_sound) (by kernel_rfl) (m := 0) rfl ?_
  refine (laws_markText.sf k a).trans ?_
  exact congrArg (Option.map _) h
def laws_markStepS.l0 : Nat → (List Stp) → Int → Int → Option (Int × (List Stp))
  | 0, _, _, _ => none
  | k + 1, y0, x1, x5 => (if x5 < (y0.length : Int) then (if 0 ≤ x5 then ((laws_markText.f k (wrap64 (x1 + 1))).bind fun t1 => (if x5 < ((y0.set x5.toNat (⟨x1, (rdT y0 x5).f1, (rdT y0 x5).f2, (rdT y0 x5).f3⟩ : Stp)).length : Int) then (if x5 < (((y0.set x5.toNat (⟨x1, (rdT y0 x5).f1, (rdT y0 x5).f2, (rdT y0 x5).f3⟩ : Stp)).set x5.toNat (⟨(rdT (y0.set x5.toNat (⟨x1, (rdT y0 x5).f1, (rdT y0 x5).f2, (rdT y0 x5).f3⟩ : Stp)) x5).f0, t1, (rdT (y0.set x5.toNat (⟨x1, (rdT y0 x5).f1, (rdT y0 x5).f2, (rdT y0 x5).f3⟩ : Stp)) x5).f2, (rdT (y0.set x5.toNat (⟨x1, (rdT y0 x5).f1, (rdT y0 x5).f2, (rdT y0 x5).f3⟩ : Stp)) x5).f3⟩ : Stp)).length : Int) then (if x5 < ((((y0.set x5.toNat (⟨x1, (rdT y0 x5).f1, (rdT y0 x5).f2, (rdT y0 x5).f3⟩ : Stp)).set x5.toNat (⟨(rdT (y0.set x5.toNat (⟨x1, (rdT y0 x5).f1, (rdT y0 x5).f2, (rdT y0 x5).f3⟩ : Stp)) x5).f0, t1, (rdT (y0.set x5.toNat (⟨x1, (rdT y0 x5).f1, (rdT y0 x5).f2, (rdT y0 x5).f3⟩ : Stp)) x5).f2, (rdT (y0.set x5.toNat (⟨x1, (rdT y0 x5).f1, (rdT y0 x5).f2, (rdT y0 x5).f3⟩ : Stp)) x5).f3⟩ : Stp)).set x5.toNat (⟨(rdT ((y0.set x5.toNat (⟨x1, (rdT y0 x5).f1, (rdT y0 x5).f2, (rdT y0 x5).f3⟩ : Stp)).set x5.toNat (⟨(rdT (y0.set x5.toNat (⟨x1, (rdT y0 x5).f1, (rdT y0 x5).f2, (rdT y0 x5).f3⟩ : Stp)) x5).f0, t1, (rdT (y0.set x5.toNat (⟨x1, (rdT y0 x5).f1, (rdT y0 x5).f2, (rdT y0 x5).f3⟩ : Stp)) x5).f2, (rdT (y0.set x5.toNat (⟨x1, (rdT y0 x5).f1, (rdT y0 x5).f2, (rdT y0 x5).f3⟩ : Stp)) x5).f3⟩ : Stp)) x5).f0, (rdT ((y0.set x5.toNat (⟨x1, (rdT y0 x5).f1, (rdT y0 x5).f2, (rdT y0 x5).f3⟩ : Stp)).set x5.toNat (⟨(rdT (y0.set x5.toNat (⟨x1, (rdT y0 x5).f1, (rdT y0 x5).f2, (rdT y0 x5).f3⟩ : Stp)) x5).f0, t1, (rdT (y0.set x5.toNat (⟨x1, (rdT y0 x5).f1, (rdT y0 x5).f2, (rdT y0 x5).f3⟩ : Stp)) x5).f2, (rdT (y0.set x5.toNat (⟨x1, (rdT y0 x5).f1, (rdT y0 x5).f2, (rdT y0 x5).f3⟩ : Stp)) x5).f3⟩ : Stp)) x5).f1, (wrap64 ((wrap64 (x1 + 1)) + 1)), (rdT ((y0.set x5.toNat (⟨x1, (rdT y0 x5).f1, (rdT y0 x5).f2, (rdT y0 x5).f3⟩ : Stp)).set x5.toNat (⟨(rdT (y0.set x5.toNat (⟨x1, (rdT y0 x5).f1, (rdT y0 x5).f2, (rdT y0 x5).f3⟩ : Stp)) x5).f0, t1, (rdT (y0.set x5.toNat (⟨x1, (rdT y0 x5).f1, (rdT y0 x5).f2, (rdT y0 x5).f3⟩ : Stp)) x5).f2, (rdT (y0.set x5.toNat (⟨x1, (rdT y0 x5).f1, (rdT y0 x5).f2, (rdT y0 x5).f3⟩ : Stp)) x5).f3⟩ : Stp)) x5).f3⟩ : Stp)).length : Int) then (laws_markStepS.l0 k ((((y0.set x5.toNat (⟨x1, (rdT y0 x5).f1, (rdT y0 x5).f2, (rdT y0 x5).f3⟩ : Stp)).set x5.toNat (⟨(rdT (y0.set x5.toNat (⟨x1, (rdT y0 x5).f1, (rdT y0 x5).f2, (rdT y0 x5).f3⟩ : Stp)) x5).f0, t1, (rdT (y0.set x5.toNat (⟨x1, (rdT y0 x5).f1, (rdT y0 x5).f2, (rdT y0 x5).f3⟩ : Stp)) x5).f2, (rdT (y0.set x5.toNat (⟨x1, (rdT y0 x5).f1, (rdT y0 x5).f2, (rdT y0 x5).f3⟩ : Stp)) x5).f3⟩ : Stp)).set x5.toNat (⟨(rdT ((y0.set x5.toNat (⟨x1, (rdT y0 x5).f1, (rdT y0 x5).f2, (rdT y0 x5).f3⟩ : Stp)).set x5.toNat (⟨(rdT (y0.set x5.toNat (⟨x1, (rdT y0 x5).f1, (rdT y0 x5).f2, (rdT y0 x5).f3⟩ : Stp)) x5).f0, t1, (rdT (y0.set x5.toNat (⟨x1, (rdT y0 x5).f1, (rdT y0 x5).f2, (rdT y0 x5).f3⟩ : Stp)) x5).f2, (rdT (y0.set x5.toNat (⟨x1, (rdT y0 x5).f1, (rdT y0 x5).f2, (rdT y0 x5).f3⟩ : Stp)) x5).f3⟩ : Stp)) x5).f0, (rdT ((y0.set x5.toNat (⟨x1, (rdT y0 x5).f1, (rdT y0 x5).f2, (rdT y0 x5).f3⟩ : Stp)).set x5.toNat (⟨(rdT (y0.set x5.toNat (⟨x1, (rdT y0 x5).f1, (rdT y0 x5).f2, (rdT y0 x5).f3⟩ : Stp)) x5).f0, t1, (rdT (y0.set x5.toNat (⟨x1, (rdT y0 x5).f1, (rdT y0 x5).f2, (rdT y0 x5).f3⟩ : Stp)) x5).f2, (rdT (y0.set x5.toNat (⟨x1, (rdT y0 x5).f1, (rdT y0 x5).f2, (rdT y0 x5).f3⟩ : Stp)) x5).f3⟩ : Stp)) x5).f1, (wrap64 ((wrap64 (x1 + 1)) + 1)), (rdT ((y0.set x5.toNat (⟨x1, (rdT y0 x5).f1, (rdT y0 x5).f2, (rdT y0 x5).f3⟩ : Stp)).set x5.toNat (⟨(rdT (y0.set x5.toNat (⟨x1, (rdT y0 x5).f1, (rdT y0 x5).f2, (rdT y0 x5).f3⟩ : Stp)) x5).f0, t1, (rdT (y0.set x5.toNat (⟨x1, (rdT y0 x5).f1, (rdT y0 x5).f2, (rdT y0 x5).f3⟩ : Stp)) x5).f2, (rdT (y0.set x5.toNat (⟨x1, (rdT y0 x5).f1, (rdT y0 x5).f2, (rdT y0 x5).f3⟩ : Stp)) x5).f3⟩ : Stp)) x5).f3⟩ : Stp)).set x5.toNat (⟨(rdT (((y0.set x5.toNat (⟨x1, (rdT y0 x5).f1, (rdT y0 x5).f2, (rdT y0 x5).f3⟩ : Stp)).set x5.toNat (⟨(rdT (y0.set x5.toNat (⟨x1, (rdT y0 x5).f1, (rdT y0 x5).f2, (rdT y0 x5).f3⟩ : Stp)) x5).f0, t1, (rdT (y0.set x5.toNat (⟨x1, (rdT y0 x5).f1, (rdT y0 x5).f2, (rdT y0 x5).f3⟩ : Stp)) x5).f2, (rdT (y0.set x5.toNat (⟨x1, (rdT y0 x5).f1, (rdT y0 x5).f2, (rdT y0 x5).f3⟩ : Stp)) x5).f3⟩ : Stp)).set x5.toNat (⟨(rdT ((y0.set x5.toNat (⟨x1, (rdT y0 x5).f1, (rdT y0 x5).f2, (rdT y0 x5).f3⟩ : Stp)).set x5.toNat (⟨(rdT (y0.set x5.toNat (⟨x1, (rdT y0 x5).f1, (rdT y0 x5).f2, (rdT y0 x5).f3⟩ : Stp)) x5).f0, t1, (rdT (y0.set x5.toNat (⟨x1, (rdT y0 x5).f1, (rdT y0 x5).f2, (rdT y0 x5).f3⟩ : Stp)) x5).f2, (rdT (y0.set x5.toNat (⟨x1, (rdT y0 x5).f1, (rdT y0 x5).f2, (rdT y0 x5).f3⟩ : Stp)) x5).f3⟩ : Stp)) x5).f0, (rdT ((y0.set x5.toNat (⟨x1, (rdT y0 x5).f1, (rdT y0 x5).f2, (rdT y0 x5).f3⟩ : Stp)).set x5.toNat (⟨(rdT (y0.set x5.toNat (⟨x1, (rdT y0 x5).f1, (rdT y0 x5).f2, (rdT y0 x5).f3⟩ : Stp)) x5).f0, t1, (rdT (y0.set x5.toNat (⟨x1, (rdT y0 x5).f1, (rdT y0 x5).f2, (rdT y0 x5).f3⟩ : Stp)) x5).f2, (rdT (y0.set x5.toNat (⟨x1, (rdT y0 x5).f1, (rdT y0 x5).f2, (rdT y0 x5).f3⟩ : Stp)) x5).f3⟩ : Stp)) x5).f1, (wrap64 ((wrap64 (x1 + 1)) + 1)), (rdT ((y0.set x5.toNat (⟨x1, (rdT y0 x5).f1, (rdT y0 x5).f2, (rdT y0 x5).f3⟩ : Stp)).set x5.toNat (⟨(rdT (y0.set x5.toNat (⟨x1, (rdT y0 x5).f1, (rdT y0 x5).f2, (rdT y0 x5).f3⟩ : Stp)) x5).f0, t1, (rdT (y0.set x5.toNat (⟨x1, (rdT y0 x5).f1, (rdT y0 x5).f2, (rdT y0 x5).f3⟩ : Stp)) x5).f2, (rdT (y0.set x5.toNat (⟨x1, (rdT y0 x5).f1, (rdT y0 x5).f2, (rdT y0 x5).f3⟩ : Stp)) x5).f3⟩ : Stp)) x5).f3⟩ : Stp)) x5).f0, (rdT (((y0.set x5.toNat (⟨x1, (rdT y0 x5).f1, (rdT y0 x5).f2, (rdT y0 x5).f3⟩ : Stp)).set x5.toNat (⟨(rdT (y0.set x5.toNat (⟨x1, (rdT y0 x5).f1, (rdT y0 x5).f2, (rdT y0 x5).f3⟩ : Stp)) x5).f0, t1, (rdT (y0.set x5.toNat (⟨x1, (rdT y0 x5).f1, (rdT y0 x5).f2, (rdT y0 x5).f3⟩ : Stp)) x5).f2, (rdT (y0.set x5.toNat (⟨x1, (rdT y0 x5).f1, (rdT y0 x5).f2, (rdT y0 x5).f3⟩ : Stp)) x5).f3⟩ : Stp)).set x5.toNat (⟨(rdT ((y0.set x5.toNat (⟨x1, (rdT y0 x5).f1, (rdT y0 x5).f2, (rdT y0 x5).f3⟩ : Stp)).set x5.toNat (⟨(rdT (y0.set x5.toNat (⟨x1, (rdT y0 x5).f1, (rdT y0 x5).f2, (rdT y0 x5).f3⟩ : Stp)) x5).f0, t1, (rdT (y0.set x5.toNat (⟨x1, (rdT y0 x5).f1, (rdT y0 x5).f2, (rdT y0 x5).f3⟩ : Stp)) x5).f2, (rdT (y0.set x5.toNat (⟨x1, (rdT y0 x5).f1, (rdT y0 x5).f2, (rdT y0 x5).f3⟩ : Stp)) x5).f3⟩ : Stp)) x5).f0, (rdT ((y0.set x5.toNat (⟨x1, (rdT y0 x5).f1, (rdT y0 x5).f2, (rdT y0 x5).f3⟩ : Stp)).set x5.toNat (⟨(rdT (y0.set x5.toNat (⟨x1, (rdT y0 x5).f1, (rdT y0 x5).f2, (rdT y0 x5).f3⟩ : Stp)) x5).f0, t1, (rdT (y0.set x5.toNat (⟨x1, (rdT y0 x5).f1, (rdT y0 x5).f2, (rdT y0 x5).f3⟩ : Stp)) x5).f2, (rdT (y0.set x5.toNat (⟨x1, (rdT y0 x5).f1, (rdT y0 x5).f2, (rdT y0 x5).f3⟩ : Stp)) x5).f3⟩ : Stp)) x5).f1, (wrap64 ((wrap64 (x1 + 1)) + 1)), (rdT ((y0.set x5.toNat (⟨x1, (rdT y0 x5).f1, (rdT y0 x5).f2, (rdT y0 x5).f3⟩ : Stp)).set x5.toNat (⟨(rdT (y0.set x5.toNat (⟨x1, (rdT y0 x5).f1, (rdT y0 x5).f2, (rdT y0 x5).f3⟩ : Stp)) x5).f0, t1, (rdT (y0.set x5.toNat (⟨x1, (rdT y0 x5).f1, (rdT y0 x5).f2, (rdT y0 x5).f3⟩ : Stp)) x5).f2, (rdT (y0.set x5.toNat (⟨x1, (rdT y0 x5).f1, (rdT y0 x5).f2, (rdT y0 x5).f3⟩ : Stp)) x5).f3⟩ : Stp)) x5).f3⟩ : Stp)) x5).f1, (rdT (((y0.set x5.toNat (⟨x1, (rdT y0 x5).f1, (rdT y0 x5).f2, (rdT y0 x5).f3⟩ : Stp)).set x5.toNat (⟨(rdT (y0.set x5.toNat (⟨x1, (rdT y0 x5).f1, (rdT y0 x5).f2, (rdT y0 x5).f3⟩ : Stp)) x5).f0, t1, (rdT (y0.set x5.toNat (⟨x1, (rdT y0 x5).f1, (rdT y0 x5).f2, (rdT y0 x5).f3⟩ : Stp)) x5).f2, (rdT (y0.set x5.toNat (⟨x1, (rdT y0 x5).f1, (rdT y0 x5).f2, (rdT y0 x5).f3⟩ : Stp)) x5).f3⟩ : Stp)).set x5.toNat (⟨(rdT ((y0.set x5.toNat (⟨x1, (rdT y0 x5).f1, (rdT y0 x5).f2, (rdT y0 x5).f3⟩ : Stp)).set x5.toNat (⟨(rdT (y0.set x5.toNat (⟨x1, (rdT y0 x5).f1, (rdT y0 x5).f2, (rdT y0 x5).f3⟩ : Stp)) x5).f0, t1, (rdT (y0.set x5.toNat (⟨x1, (rdT y0 x5).f1, (rdT y0 x5).f2, (rdT y0 x5).f3⟩ : Stp)) x5).f2, (rdT (y0.set x5.toNat (⟨x1, (rdT y0 x5).f1, (rdT y0 x5).f2, (rdT y0 x5).f3⟩ : Stp)) x5).f3⟩ : Stp)) x5).f0, (rdT ((y0.set x5.toNat (⟨x1, (rdT y0 x5).f1, (rdT y0 x5).f2, (rdT y0 x5).f3⟩ : Stp)).set x5.toNat (⟨(rdT (y0.set x5.toNat (⟨x1, (rdT y0 x5).f1, (rdT y0 x5).f2, (rdT y0 x5).f3⟩ : Stp)) x5).f0, t1, (rdT (y0.set x5.toNat (⟨x1, (rdT y0 x5).f1, (rdT y0 x5).f2, (rdT y0 x5).f3⟩ : Stp)) x5).f2, (rdT (y0.set x5.toNat (⟨x1, (rdT y0 x5).f1, (rdT y0 x5).f2, (rdT y0 x5).f3⟩ : Stp)) x5).f3⟩ : Stp)) x5).f1, (wrap64 ((wrap64 (x1 + 1)) + 1)), (rdT ((y0.set x5.toNat (⟨x1, (rdT y0 x5).f1, (rdT y0 x5).f2, (rdT y0 x5).f3⟩ : Stp)).set x5.toNat (⟨(rdT (y0.set x5.toNat (⟨x1, (rdT y0 x5).f1, (rdT y0 x5).f2, (rdT y0 x5).f3⟩ : Stp)) x5).f0, t1, (rdT (y0.set x5.toNat (⟨x1, (rdT y0 x5).f1, (rdT y0 x5).f2, (rdT y0 x5).f3⟩ : Stp)) x5).f2, (rdT (y0.set x5.toNat (⟨x1, (rdT y0 x5).f1, (rdT y0 x5).f2, (rdT y0 x5).f3⟩ : Stp)) x5).f3⟩ : Stp)) x5).f3⟩ : Stp)) x5).f2, (wrap64 ((wrap64 ((wrap64 (x1 + 1)) + 1)) + 1))⟩ : Stp)) (wrap64 ((wrap64 ((wrap64 ((wrap64 (x1 + 1)) + 1)) + 1)) + 1)) (wrap64 (x5 + 1))) else none) else none) else none)) else none) else (some (x1, y0)))
def laws_markStepS.f (k : Nat) (l2 : List Stp) (a1 : Int) : Option (Int × (List Stp)) := (laws_markStepS.l0 k l2 a1 0)
def laws_markStepS.en (r : Int × (List Stp)) : Res := (.int .i64 r.1, [.arr 92 0 (.T r.2) false])
def laws_markStepS.dec : List AV → List R.Obj → Option ((List Stp) × Int)
  | [.sl 0 0, .int .i64 a1], [.arr 92 0 (.T l2) false] => some (l2, a1)
  | _, _ => none
def laws_markStepS.tw : Tw := ⟨84, (List Stp) × Int, Int × (List Stp), laws_markStepS.dec, fun a => [.sl 0 0, .int .i64 a.2], fun a => [.arr 92 0 (.T a.1) false], fun k a => laws_markStepS.f k a.1 a.2, fun a r => laws_markStepS.en r⟩
theorem laws_markStepS.dok : laws_markStepS.tw.DecOk := by
  intro args hc a h
  have h : laws_markStepS.dec args hc = some a := h
  unfold laws_markStepS.dec at h
  split at h
  · cases h; exact ⟨rfl, rfl⟩
  · cases h
noncomputable def laws_markStepS.O (k : Nat) : Oracle := (laws_markText.tw.orc k noO)
def laws_markStepS.fh : FH := ⟨fun i => match i with | 2 => some [(0, 0), (1, 0), (5, 0)] | _ => none, [], false⟩
noncomputable def laws_markStepS.x0 (k : Nat) (y0 : List Stp) (x1 : Int) (x5 : Int) : Option Res := R.exec Try.prog xhn laws_markStepS.O 1 Try.f84 laws_markStepS.fh k (R.point Try.f84 2) ⟨[(0, .sl 0 0), (1, .int .i64 x1), (5, .int .i64 x5)], [(0, .arr 92 0 (.T y0) false)], 3⟩
set_option maxRecDepth 100000 in
theorem laws_markStepS.e0 (k : Nat) (y0 : List Stp) (x1 : Int) (x5 : Int) : laws_markStepS.x0 (k + 1) y0 x1 x5 = (if x5 < (y0.length : Int) then (if 0 ≤ x5 then ((laws_markText.f k (wrap64 (x1 + 1))).bind fun t1 => (if x5 < ((y0.set x5.toNat (⟨x1, (rdT y0 x5).f1, (rdT y0 x5).f2, (rdT y0 x5).f3⟩ : Stp)).length : Int) then (if x5 < (((y0.set x5.toNat (⟨x1, (rdT y0 x5).f1, (rdT y0 x5).f2, (rdT y0 x5).f3⟩ : Stp)).set x5.toNat (⟨(rdT (y0.set x5.toNat (⟨x1, (rdT y0 x5).f1, (rdT y0 x5).f2, (rdT y0 x5).f3⟩ : Stp)) x5).f0, t1, (rdT (y0.set x5.toNat (⟨x1, (rdT y0 x5).f1, (rdT y0 x5).f2, (rdT y0 x5).f3⟩ : Stp)) x5).f2, (rdT (y0.set x5.toNat (⟨x1, (rdT y0 x5).f1, (rdT y0 x5).f2, (rdT y0 x5).f3⟩ : Stp)) x5).f3⟩ : Stp)).length : Int) then (if x5 < ((((y0.set x5.toNat (⟨x1, (rdT y0 x5).f1, (rdT y0 x5).f2, (rdT y0 x5).f3⟩ : Stp)).set x5.toNat (⟨(rdT (y0.set x5.toNat (⟨x1, (rdT y0 x5).f1, (rdT y0 x5).f2, (rdT y0 x5).f3⟩ : Stp)) x5).f0, t1, (rdT (y0.set x5.toNat (⟨x1, (rdT y0 x5).f1, (rdT y0 x5).f2, (rdT y0 x5).f3⟩ : Stp)) x5).f2, (rdT (y0.set x5.toNat (⟨x1, (rdT y0 x5).f1, (rdT y0 x5).f2, (rdT y0 x5).f3⟩ : Stp)) x5).f3⟩ : Stp)).set x5.toNat (⟨(rdT ((y0.set x5.toNat (⟨x1, (rdT y0 x5).f1, (rdT y0 x5).f2, (rdT y0 x5).f3⟩ : Stp)).set x5.toNat (⟨(rdT (y0.set x5.toNat (⟨x1, (rdT y0 x5).f1, (rdT y0 x5).f2, (rdT y0 x5).f3⟩ : Stp)) x5).f0, t1, (rdT (y0.set x5.toNat (⟨x1, (rdT y0 x5).f1, (rdT y0 x5).f2, (rdT y0 x5).f3⟩ : Stp)) x5).f2, (rdT (y0.set x5.toNat (⟨x1, (rdT y0 x5).f1, (rdT y0 x5).f2, (rdT y0 x5).f3⟩ : Stp)) x5).f3⟩ : Stp)) x5).f0, (rdT ((y0.set x5.toNat (⟨x1, (rdT y0 x5).f1, (rdT y0 x5).f2, (rdT y0 x5).f3⟩ : Stp)).set x5.toNat (⟨(rdT (y0.set x5.toNat (⟨x1, (rdT y0 x5).f1, (rdT y0 x5).f2, (rdT y0 x5).f3⟩ : Stp)) x5).f0, t1, (rdT (y0.set x5.toNat (⟨x1, (rdT y0 x5).f1, (rdT y0 x5).f2, (rdT y0 x5).f3⟩ : Stp)) x5).f2, (rdT (y0.set x5.toNat (⟨x1, (rdT y0 x5).f1, (rdT y0 x5).f2, (rdT y0 x5).f3⟩ : Stp)) x5).f3⟩ : Stp)) x5).f1, (wrap64 ((wrap64 (x1 + 1)) + 1)), (rdT ((y0.set x5.toNat (⟨x1, (rdT y0 x5).f1, (rdT y0 x5).f2, (rdT y0 x5).f3⟩ : Stp)).set x5.toNat (⟨(rdT (y0.set x5.toNat (⟨x1, (rdT y0 x5).f1, (rdT y0 x5).f2, (rdT y0 x5).f3⟩ : Stp)) x5).f0, t1, (rdT (y0.set x5.toNat (⟨x1, (rdT y0 x5).f1, (rdT y0 x5).f2, (rdT y0 x5).f3⟩ : Stp)) x5).f2, (rdT (y0.set x5.toNat (⟨x1, (rdT y0 x5).f1, (rdT y0 x5).f2, (rdT y0 x5).f3⟩ : Stp)) x5).f3⟩ : Stp)) x5).f3⟩ : Stp)).length : Int) then (laws_markStepS.x0 k ((((y0.set x5.toNat (⟨x1, (rdT y0 x5).f1, (rdT y0 x5).f2, (rdT y0 x5).f3⟩ : Stp)).set x5.toNat (⟨(rdT (y0.set x5.toNat (⟨x1, (rdT y0 x5).f1, (rdT y0 x5).f2, (rdT y0 x5).f3⟩ : Stp)) x5).f0, t1, (rdT (y0.set x5.toNat (⟨x1, (rdT y0 x5).f1, (rdT y0 x5).f2, (rdT y0 x5).f3⟩ : Stp)) x5).f2, (rdT (y0.set x5.toNat (⟨x1, (rdT y0 x5).f1, (rdT y0 x5).f2, (rdT y0 x5).f3⟩ : Stp)) x5).f3⟩ : Stp)).set x5.toNat (⟨(rdT ((y0.set x5.toNat (⟨x1, (rdT y0 x5).f1, (rdT y0 x5).f2, (rdT y0 x5).f3⟩ : Stp)).set x5.toNat (⟨(rdT (y0.set x5.toNat (⟨x1, (rdT y0 x5).f1, (rdT y0 x5).f2, (rdT y0 x5).f3⟩ : Stp)) x5).f0, t1, (rdT (y0.set x5.toNat (⟨x1, (rdT y0 x5).f1, (rdT y0 x5).f2, (rdT y0 x5).f3⟩ : Stp)) x5).f2, (rdT (y0.set x5.toNat (⟨x1, (rdT y0 x5).f1, (rdT y0 x5).f2, (rdT y0 x5).f3⟩ : Stp)) x5).f3⟩ : Stp)) x5).f0, (rdT ((y0.set x5.toNat (⟨x1, (rdT y0 x5).f1, (rdT y0 x5).f2, (rdT y0 x5).f3⟩ : Stp)).set x5.toNat (⟨(rdT (y0.set x5.toNat (⟨x1, (rdT y0 x5).f1, (rdT y0 x5).f2, (rdT y0 x5).f3⟩ : Stp)) x5).f0, t1, (rdT (y0.set x5.toNat (⟨x1, (rdT y0 x5).f1, (rdT y0 x5).f2, (rdT y0 x5).f3⟩ : Stp)) x5).f2, (rdT (y0.set x5.toNat (⟨x1, (rdT y0 x5).f1, (rdT y0 x5).f2, (rdT y0 x5).f3⟩ : Stp)) x5).f3⟩ : Stp)) x5).f1, (wrap64 ((wrap64 (x1 + 1)) + 1)), (rdT ((y0.set x5.toNat (⟨x1, (rdT y0 x5).f1, (rdT y0 x5).f2, (rdT y0 x5).f3⟩ : Stp)).set x5.toNat (⟨(rdT (y0.set x5.toNat (⟨x1, (rdT y0 x5).f1, (rdT y0 x5).f2, (rdT y0 x5).f3⟩ : Stp)) x5).f0, t1, (rdT (y0.set x5.toNat (⟨x1, (rdT y0 x5).f1, (rdT y0 x5).f2, (rdT y0 x5).f3⟩ : Stp)) x5).f2, (rdT (y0.set x5.toNat (⟨x1, (rdT y0 x5).f1, (rdT y0 x5).f2, (rdT y0 x5).f3⟩ : Stp)) x5).f3⟩ : Stp)) x5).f3⟩ : Stp)).set x5.toNat (⟨(rdT (((y0.set x5.toNat (⟨x1, (rdT y0 x5).f1, (rdT y0 x5).f2, (rdT y0 x5).f3⟩ : Stp)).set x5.toNat (⟨(rdT (y0.set x5.toNat (⟨x1, (rdT y0 x5).f1, (rdT y0 x5).f2, (rdT y0 x5).f3⟩ : Stp)) x5).f0, t1, (rdT (y0.set x5.toNat (⟨x1, (rdT y0 x5).f1, (rdT y0 x5).f2, (rdT y0 x5).f3⟩ : Stp)) x5).f2, (rdT (y0.set x5.toNat (⟨x1, (rdT y0 x5).f1, (rdT y0 x5).f2, (rdT y0 x5).f3⟩ : Stp)) x5).f3⟩ : Stp)).set x5.toNat (⟨(rdT ((y0.set x5.toNat (⟨x1, (rdT y0 x5).f1, (rdT y0 x5).f2, (rdT y0 x5).f3⟩ : Stp)).set x5.toNat (⟨(rdT (y0.set x5.toNat (⟨x1, (rdT y0 x5).f1, (rdT y0 x5).f2, (rdT y0 x5).f3⟩ : Stp)) x5).f0, t1, (rdT (y0.set x5.toNat (⟨x1, (rdT y0 x5).f1, (rdT y0 x5).f2, (rdT y0 x5).f3⟩ : Stp)) x5).f2, (rdT (y0.set x5.toNat (⟨x1, (rdT y0 x5).f1, (rdT y0 x5).f2, (rdT y0 x5).f3⟩ : Stp)) x5).f3⟩ : Stp)) x5).f0, (rdT ((y0.set x5.toNat (⟨x1, (rdT y0 x5).f1, (rdT y0 x5).f2, (rdT y0 x5).f3⟩ : Stp)).set x5.toNat (⟨(rdT (y0.set x5.toNat (⟨x1, (rdT y0 x5).f1, (rdT y0 x5).f2, (rdT y0 x5).f3⟩ : Stp)) x5).f0, t1, (rdT (y0.set x5.toNat (⟨x1, (rdT y0 x5).f1, (rdT y0 x5).f2, (rdT y0 x5).f3⟩ : Stp)) x5).f2, (rdT (y0.set x5.toNat (⟨x1, (rdT y0 x5).f1, (rdT y0 x5).f2, (rdT y0 x5).f3⟩ : Stp)) x5).f3⟩ : Stp)) x5).f1, (wrap64 ((wrap64 (x1 + 1)) + 1)), (rdT ((y0.set x5.toNat (⟨x1, (rdT y0 x5).f1, (rdT y0 x5).f2, (rdT y0 x5).f3⟩ : Stp)).set x5.toNat (⟨(rdT (y0.set x5.toNat (⟨x1, (rdT y0 x5).f1, (rdT y0 x5).f2, (rdT y0 x5).f3⟩ : Stp)) x5).f0, t1, (rdT (y0.set x5.toNat (⟨x1, (rdT y0 x5).f1, (rdT y0 x5).f2, (rdT y0 x5).f3⟩ : Stp)) x5).f2, (rdT (y0.set x5.toNat (⟨x1, (rdT y0 x5).f1, (rdT y0 x5).f2, (rdT y0 x5).f3⟩ : Stp)) x5).f3⟩ : Stp)) x5).f3⟩ : Stp)) x5).f0, (rdT (((y0.set x5.toNat (⟨x1, (rdT y0 x5).f1, (rdT y0 x5).f2, (rdT y0 x5).f3⟩ : Stp)).set x5.toNat (⟨(rdT (y0.set x5.toNat (⟨x1, (rdT y0 x5).f1, (rdT y0 x5).f2, (rdT y0 x5).f3⟩ : Stp)) x5).f0, t1, (rdT (y0.set x5.toNat (⟨x1, (rdT y0 x5).f1, (rdT y0 x5).f2, (rdT y0 x5).f3⟩ : Stp)) x5).f2, (rdT (y0.set x5.toNat (⟨x1, (rdT y0 x5).f1, (rdT y0 x5).f2, (rdT y0 x5).f3⟩ : Stp)) x5).f3⟩ : Stp)).set x5.toNat (⟨(rdT ((y0.set x5.toNat (⟨x1, (rdT y0 x5).f1, (rdT y0 x5).f2, (rdT y0 x5).f3⟩ : Stp)).set x5.toNat (⟨(rdT (y0.set x5.toNat (⟨x1, (rdT y0 x5).f1, (rdT y0 x5).f2, (rdT y0 x5).f3⟩ : Stp)) x5).f0, t1, (rdT (y0.set x5.toNat (⟨x1, (rdT y0 x5).f1, (rdT y0 x5).f2, (rdT y0 x5).f3⟩ : Stp)) x5).f2, (rdT (y0.set x5.toNat (⟨x1, (rdT y0 x5).f1, (rdT y0 x5).f2, (rdT y0 x5).f3⟩ : Stp)) x5).f3⟩ : Stp)) x5).f0, (rdT ((y0.set x5.toNat (⟨x1, (rdT y0 x5).f1, (rdT y0 x5).f2, (rdT y0 x5).f3⟩ : Stp)).set x5.toNat (⟨(rdT (y0.set x5.toNat (⟨x1, (rdT y0 x5).f1, (rdT y0 x5).f2, (rdT y0 x5).f3⟩ : Stp)) x5).f0, t1, (rdT (y0.set x5.toNat (⟨x1, (rdT y0 x5).f1, (rdT y0 x5).f2, (rdT y0 x5).f3⟩ : Stp)) x5).f2, (rdT (y0.set x5.toNat (⟨x1, (rdT y0 x5).f1, (rdT y0 x5).f2, (rdT y0 x5).f3⟩ : Stp)) x5).f3⟩ : Stp)) x5).f1, (wrap64 ((wrap64 (x1 + 1)) + 1)), (rdT ((y0.set x5.toNat (⟨x1, (rdT y0 x5).f1, (rdT y0 x5).f2, (rdT y0 x5).f3⟩ : Stp)).set x5.toNat (⟨(rdT (y0.set x5.toNat (⟨x1, (rdT y0 x5).f1, (rdT y0 x5).f2, (rdT y0 x5).f3⟩ : Stp)) x5).f0, t1, (rdT (y0.set x5.toNat (⟨x1, (rdT y0 x5).f1, (rdT y0 x5).f2, (rdT y0 x5).f3⟩ : Stp)) x5).f2, (rdT (y0.set x5.toNat (⟨x1, (rdT y0 x5).f1, (rdT y0 x5).f2, (rdT y0 x5).f3⟩ : Stp)) x5).f3⟩ : Stp)) x5).f3⟩ : Stp)) x5).f1, (rdT (((y0.set x5.toNat (⟨x1, (rdT y0 x5).f1, (rdT y0 x5).f2, (rdT y0 x5).f3⟩ : Stp)).set x5.toNat (⟨(rdT (y0.set x5.toNat (⟨x1, (rdT y0 x5).f1, (rdT y0 x5).f2, (rdT y0 x5).f3⟩ : Stp)) x5).f0, t1, (rdT (y0.set x5.toNat (⟨x1, (rdT y0 x5).f1, (rdT y0 x5).f2, (rdT y0 x5).f3⟩ : Stp)) x5).f2, (rdT (y0.set x5.toNat (⟨x1, (rdT y0 x5).f1, (rdT y0 x5).f2, (rdT y0 x5).f3⟩ : Stp)) x5).f3⟩ : Stp)).set x5.toNat (⟨(rdT ((y0.set x5.toNat (⟨x1, (rdT y0 x5).f1, (rdT y0 x5).f2, (rdT y0 x5).f3⟩ : Stp)).set x5.toNat (⟨(rdT (y0.set x5.toNat (⟨x1, (rdT y0 x5).f1, (rdT y0 x5).f2, (rdT y0 x5).f3⟩ : Stp)) x5).f0, t1, (rdT (y0.set x5.toNat (⟨x1, (rdT y0 x5).f1, (rdT y0 x5).f2, (rdT y0 x5).f3⟩ : Stp)) x5).f2, (rdT (y0.set x5.toNat (⟨x1, (rdT y0 x5).f1, (rdT y0 x5).f2, (rdT y0 x5).f3⟩ : Stp)) x5).f3⟩ : Stp)) x5).f0, (rdT ((y0.set x5.toNat (⟨x1, (rdT y0 x5).f1, (rdT y0 x5).f2, (rdT y0 x5).f3⟩ : Stp)).set x5.toNat (⟨(rdT (y0.set x5.toNat (⟨x1, (rdT y0 x5).f1, (rdT y0 x5).f2, (rdT y0 x5).f3⟩ : Stp)) x5).f0, t1, (rdT (y0.set x5.toNat (⟨x1, (rdT y0 x5).f1, (rdT y0 x5).f2, (rdT y0 x5).f3⟩ : Stp)) x5).f2, (rdT (y0.set x5.toNat (⟨x1, (rdT y0 x5).f1, (rdT y0 x5).f2, (rdT y0 x5).f3⟩ : Stp)) x5).f3⟩ : Stp)) x5).f1, (wrap64 ((wrap64 (x1 + 1)) + 1)), (rdT ((y0.set x5.toNat (⟨x1, (rdT y0 x5).f1, (rdT y0 x5).f2, (rdT y0 x5).f3⟩ : Stp)).set x5.toNat (⟨(rdT (y0.set x5.toNat (⟨x1, (rdT y0 x5).f1, (rdT y0 x5).f2, (rdT y0 x5).f3⟩ : Stp)) x5).f0, t1, (rdT (y0.set x5.toNat (⟨x1, (rdT y0 x5).f1, (rdT y0 x5).f2, (rdT y0 x5).f3⟩ : Stp)) x5).f2, (rdT (y0.set x5.toNat (⟨x1, (rdT y0 x5).f1, (rdT y0 x5).f2, (rdT y0 x5).f3⟩ : Stp)) x5).f3⟩ : Stp)) x5).f3⟩ : Stp)) x5).f2, (wrap64 ((wrap64 ((wrap64 (x1 + 1)) + 1)) + 1))⟩ : Stp)) (wrap64 ((wrap64 ((wrap64 ((wrap64 (x1 + 1)) + 1)) + 1)) + 1)) (wrap64 (x5 + 1))) else none) else none) else none)) else none) else (some (laws_markStepS.en (x1, y0)))) := by
  refine Eq.trans ?_ (R.icong (fun h0 => (R.icong (fun h1 => (R.idropT (p := x5 < (y0.length : Int)) (z := none) h0 (R.bcong fun t1 => (R.idropT (p := 0 ≤ x5) (z := none) h1 (R.icong (fun h2 => (R.idropT (p := 0 ≤ x5) (z := none) h1 (R.icong (fun h3 => (R.idropT (p := 0 ≤ x5) (z := none) h1 rfl)) (fun h3 => rfl)))) (fun h2 => rfl)))))) (fun h1 => rfl))) (fun h0 => rfl))
  kernel_rfl
set_option maxRecDepth 100000 in
theorem laws_markStepS.ef (k : Nat) (l2 : List Stp) (a1 : Int) : R.start Try.prog xhn laws_markStepS.O 1 Try.f84 laws_markStepS.fh k [.sl 0 0, .int .i64 a1] [.arr 92 0 (.T l2) false] = (laws_markStepS.x0 k l2 a1 0) := by kernel_rfl
theorem laws_markStepS.link : ∀ k, (∀ (y0 : List Stp) (x1 : Int) (x5 : Int), laws_markStepS.x0 k y0 x1 x5 = (laws_markStepS.l0 k y0 x1 x5).map (laws_markStepS.en))
  | 0 => fun _ _ _ => by simp only [laws_markStepS.l0, R.map_none]; rfl
  | k + 1 => by
    have ih0 := laws_markStepS.link k
    · intro y0 x1 x5
      rw [laws_markStepS.e0]
      simp only [laws_markStepS.l0, R.map_ite, R.map_bind, R.map_none, R.map_some, ← ih0]
theorem laws_markStepS.sf (k : Nat) (l2 : List Stp) (a1 : Int) : R.start Try.prog xhn laws_markStepS.O 1 Try.f84 laws_markStepS.fh k [.sl 0 0, .int .i64 a1] [.arr 92 0 (.T l2) false] = (laws_markStepS.f k l2 a1).map (laws_markStepS.en) := by
  have ih0 := laws_markStepS.link k
  rw [laws_markStepS.ef]
  simp only [laws_markStepS.f, R.map_ite, R.map_bind, R.map_none, R.map_some, ← ih0]
theorem laws_markStepS.ok (k : Nat) : laws_markStepS.tw.Ok Try.prog k := by
  intro a r h
  refine fn_ok (H := xhn) (fh := laws_markStepS.fh) (O := laws_markStepS.O) (k := k) Try.func84 (by kernel_rfl) (by kernel_rfl) (fun j _ => (Tw.orc_sound laws_markText.dok (laws_markText.ok j) noO_sound)) (by kernel_rfl) (m := 1) rfl ?_
  refine (laws_markStepS.sf k a.1 a.2).trans ?_
  exact congrArg (Option.map _) h
def laws_markAutomaton.f (k : Nat) (a0_0 : Int) (l2 : List Int) (l3 : List Int) (l4 : List Stp) (a1 : Int) : Option (Int × (List Int) × (List Int) × (List Stp)) := ((laws_markIntS.f k l2 a1).bind fun t1 => ((laws_markIntS.f k l3 t1.1).bind fun t2 => ((laws_markStepS.f k l4 t2.1).bind fun t3 => (some (t3.1, t1.2, t2.2, t3.2)))))
def laws_markAutomaton.en (r : Int × (List Int) × (List Int) × (List Stp)) : Res := (.int .i64 r.1, [.arr 3 0 (.I .i64 r.2.1) false, .arr 3 0 (.I .i64 r.2.2.1) false, .arr 92 0 (.T r.2.2.2) false])
def laws_markAutomaton.dec : List AV → List R.Obj → Option (Int × (List Int) × (List Int) × (List Stp) × Int)
  | [.agg [.int .i64 a0_0, .sl 0 0, .sl 1 0, .sl 2 0], .int .i64 a1], [.arr 3 0 (.I .i64 l2) false, .arr 3 0 (.I .i64 l3) false, .arr 92 0 (.T l4) false] => some (a0_0, l2, l3, l4, a1)
  | _, _ => none
def laws_markAutomaton.tw : Tw := ⟨19, Int × (List Int) × (List Int) × (List Stp) × Int, Int × (List Int) × (List Int) × (List Stp), laws_markAutomaton.dec, fun a => [.agg [.int .i64 a.1, .sl 0 0, .sl 1 0, .sl 2 0], .int .i64 a.2.2.2.2], fun a => [.arr 3 0 (.I .i64 a.2.1) false, .arr 3 0 (.I .i64 a.2.2.1) false, .arr 92 0 (.T a.2.2.2.1) false], fun k a => laws_markAutomaton.f k a.1 a.2.1 a.2.2.1 a.2.2.2.1 a.2.2.2.2, fun a r => laws_markAutomaton.en r⟩
theorem laws_markAutomaton.dok : laws_markAutomaton.tw.DecOk := by
  intro args hc a h
  have h : laws_markAutomaton.dec args hc = some a := h
  unfold laws_markAutomaton.dec at h
  split at h
  · cases h; exact ⟨rfl, rfl⟩
  · cases h
noncomputable def laws_markAutomaton.O (k : Nat) : Oracle := (laws_markIntS.tw.orc k (laws_markStepS.tw.orc k noO))
def laws_markAutomaton.fh : FH := ⟨fun i => match i with | _ => none, [], false⟩
set_option maxRecDepth 100000 in
theorem laws_markAutomaton.ef (k : Nat) (a0_0 : Int) (l2 : List Int) (l3 : List Int) (l4 : List Stp) (a1 : Int) : R.start Try.prog xhn laws_markAutomaton.O 3 Try.f19 laws_markAutomaton.fh k [.agg [.int .i64 a0_0, .sl 0 0, .sl 1 0, .sl 2 0], .int .i64 a1] [.arr 3 0 (.I .i64 l2) false, .arr 3 0 (.I .i64 l3) false, .arr 92 0 (.T l4) false] = ((laws_markIntS.f k l2 a1).bind fun t1 => ((laws_markIntS.f k l3 t1.1).bind fun t2 => ((laws_markStepS.f k l4 t2.1).bind fun t3 => (some (laws_markAutomaton.en (t3.1, t1.2, t2.2, t3.2)))))) := by kernel_rfl
theorem laws_markAutomaton.sf (k : Nat) (a0_0 : Int) (l2 : List Int) (l3 : List Int) (l4 : List Stp) (a1 : Int) : R.start Try.prog xhn laws_markAutomaton.O 3 Try.f19 laws_markAutomaton.fh k [.agg [.int .i64 a0_0, .sl 0 0, .sl 1 0, .sl 2 0], .int .i64 a1] [.arr 3 0 (.I .i64 l2) false, .arr 3 0 (.I .i64 l3) false, .arr 92 0 (.T l4) false] = (laws_markAutomaton.f k a0_0 l2 l3 l4 a1).map (laws_markAutomaton.en) := by
  rw [laws_markAutomaton.ef]
  simp only [laws_markAutomaton.f, R.map_ite, R.map_bind, R.map_none, R.map_some]
theorem laws_markAutomaton.ok (k : Nat) : laws_markAutomaton.tw.Ok Try.prog k := by
  intro a r h
  refine fn_ok (H := xhn) (fh := laws_markAutomaton.fh) (O := laws_markAutomaton.O) (k := k) Try.func19 (by kernel_rfl) (by kernel_rfl) (fun j _ => (Tw.orc_sound laws_markIntS.dok (laws_markIntS.ok j) (Tw.orc_sound laws_markStepS.dok (laws_markStepS.ok j) noO_sound))) (by kernel_rfl) (m := 3) rfl ?_
  refine (laws_markAutomaton.sf k a.1 a.2.1 a.2.2.1 a.2.2.2.1 a.2.2.2.2).trans ?_
  exact congrArg (Option.map _) h
def laws_markStringS.l0 : Nat → (List ByteArray) → Int → Int → Option (Int × (List ByteArray))
  | 0, _, _, _ => none
  | k + 1, y0, x1, x5 => (if x5 < (y0.length : Int) then ((laws_markText.f k x1).bind fun t1 => (if 0 ≤ x5 then (laws_markStringS.l0 k (y0.set x5.toNat t1) (wrap64 (x1 + 1)) (wrap64 (x5 + 1))) else none)) else (some (x1, y0)))
def laws_markStringS.f (k : Nat) (l2 : List ByteArray) (a1 : Int) : Option (Int × (List ByteArray)) := (laws_markStringS.l0 k l2 a1 0)
def laws_markStringS.en (r : Int × (List ByteArray)) : Res := (.int .i64 r.1, [.arr 9 0 (.S r.2) false])
def laws_markStringS.dec : List AV → List R.Obj → Option ((List ByteArray) × Int)
  | [.sl 0 0, .int .i64 a1], [.arr 9 0 (.S l2) false] => some (l2, a1)
  | _, _ => none
def laws_markStringS.tw : Tw := ⟨55, (List ByteArray) × Int, Int × (List ByteArray), laws_markStringS.dec, fun a => [.sl 0 0, .int .i64 a.2], fun a => [.arr 9 0 (.S a.1) false], fun k a => laws_markStringS.f k a.1 a.2, fun a r => laws_markStringS.en r⟩
theorem laws_markStringS.dok : laws_markStringS.tw.DecOk := by
  intro args hc a h
  have h : laws_markStringS.dec args hc = some a := h
  unfold laws_markStringS.dec at h
  split at h
  · cases h; exact ⟨rfl, rfl⟩
  · cases h
noncomputable def laws_markStringS.O (k : Nat) : Oracle := (laws_markText.tw.orc k noO)
def laws_markStringS.fh : FH := ⟨fun i => match i with | 2 => some [(0, 0), (1, 0), (5, 0)] | _ => none, [], false⟩
noncomputable def laws_markStringS.x0 (k : Nat) (y0 : List ByteArray) (x1 : Int) (x5 : Int) : Option Res := R.exec Try.prog xhn laws_markStringS.O 1 Try.f55 laws_markStringS.fh k (R.point Try.f55 2) ⟨[(0, .sl 0 0), (1, .int .i64 x1), (5, .int .i64 x5)], [(0, .arr 9 0 (.S y0) false)], 3⟩
set_option maxRecDepth 100000 in
theorem laws_markStringS.e0 (k : Nat) (y0 : List ByteArray) (x1 : Int) (x5 : Int) : laws_markStringS.x0 (k + 1) y0 x1 x5 = (if x5 < (y0.length : Int) then ((laws_markText.f k x1).bind fun t1 => (if 0 ≤ x5 then (laws_markStringS.x0 k (y0.set x5.toNat t1) (wrap64 (x1 + 1)) (wrap64 (x5 + 1))) else none)) else (some (laws_markStringS.en (x1, y0)))) := by
  refine Eq.trans ?_ (R.icong (fun h0 => (R.bcong fun t1 => (R.icong (fun h1 => (R.idropT (p := x5 < (y0.length : Int)) (z := none) h0 rfl)) (fun h1 => rfl)))) (fun h0 => rfl))
  kernel_rfl
set_option maxRecDepth 100000 in
theorem laws_markStringS.ef (k : Nat) (l2 : List ByteArray) (a1 : Int) : R.start Try.prog xhn laws_markStringS.O 1 Try.f55 laws_markStringS.fh k [.sl 0 0, .int .i64 a1] [.arr 9 0 (.S l2) false] = (laws_markStringS.x0 k l2 a1 0) := by kernel_rfl
theorem laws_markStringS.link : ∀ k, (∀ (y0 : List ByteArray) (x1 : Int) (x5 : Int), laws_markStringS.x0 k y0 x1 x5 = (laws_markStringS.l0 k y0 x1 x5).map (laws_markStringS.en))
  | 0 => fun _ _ _ => by simp only [laws_markStringS.l0, R.map_none]; rfl
  | k + 1 => by
    have ih0 := laws_markStringS.link k
    · intro y0 x1 x5
      rw [laws_markStringS.e0]
      simp only [laws_markStringS.l0, R.map_ite, R.map_bind, R.map_none, R.map_some, ← ih0]
theorem laws_markStringS.sf (k : Nat) (l2 : List ByteArray) (a1 : Int) : R.start Try.prog xhn laws_markStringS.O 1 Try.f55 laws_markStringS.fh k [.sl 0 0, .int .i64 a1] [.arr 9 0 (.S l2) false] = (laws_markStringS.f k l2 a1).map (laws_markStringS.en) := by
  have ih0 := laws_markStringS.link k
  rw [laws_markStringS.ef]
  simp only [laws_markStringS.f, R.map_ite, R.map_bind, R.map_none, R.map_some, ← ih0]
theorem laws_markStringS.ok (k : Nat) : laws_markStringS.tw.Ok Try.prog k := by
  intro a r h
  refine fn_ok (H := xhn) (fh := laws_markStringS.fh) (O := laws_markStringS.O) (k := k) Try.func55 (by kernel_rfl) (by kernel_rfl) (fun j _ => (Tw.orc_sound laws_markText.dok (laws_markText.ok j) noO_sound)) (by kernel_rfl) (m := 1) rfl ?_
  refine (laws_markStringS.sf k a.1 a.2).trans ?_
  exact congrArg (Option.map _) h
def laws_heldStringS.l0 : Nat → (List ByteArray) → Int → Int → Option (Int)
  | 0, _, _, _ => none
  | k + 1, x0, x1, x5 => (if x5 < (x0.length : Int) then (if 0 ≤ x5 then ((laws_markText.f k x1).bind fun t1 => (if (rdS x0 x5).toList = t1.toList then (laws_heldStringS.l0 k x0 (wrap64 (x1 + 1)) (wrap64 (x5 + 1))) else (some (-1)))) else none) else (some x1))
def laws_heldStringS.f (k : Nat) (l0 : List ByteArray) (a1 : Int) : Option (Int) := (laws_heldStringS.l0 k l0 a1 0)
def laws_heldStringS.en (r : Int) : Res := (.int .i64 r, [])
def laws_heldStringS.dec : List AV → List R.Obj → Option ((List ByteArray) × Int)
  | [.imm (.S l0), .int .i64 a1], [] => some (l0, a1)
  | _, _ => none
def laws_heldStringS.tw : Tw := ⟨56, (List ByteArray) × Int, Int, laws_heldStringS.dec, fun a => [.imm (.S a.1), .int .i64 a.2], fun a => [], fun k a => laws_heldStringS.f k a.1 a.2, fun a r => laws_heldStringS.en r⟩
theorem laws_heldStringS.dok : laws_heldStringS.tw.DecOk := by
  intro args hc a h
  have h : laws_heldStringS.dec args hc = some a := h
  unfold laws_heldStringS.dec at h
  split at h
  · cases h; exact ⟨rfl, rfl⟩
  · cases h
noncomputable def laws_heldStringS.O (k : Nat) : Oracle := (laws_markText.tw.orc k noO)
def laws_heldStringS.fh : FH := ⟨fun i => match i with | 2 => some [(0, 0), (1, 0), (5, 0)] | _ => none, [], false⟩
noncomputable def laws_heldStringS.x0 (k : Nat) (x0 : List ByteArray) (x1 : Int) (x5 : Int) : Option Res := R.exec Try.prog xhn laws_heldStringS.O 0 Try.f56 laws_heldStringS.fh k (R.point Try.f56 2) ⟨[(0, .imm (.S x0)), (1, .int .i64 x1), (5, .int .i64 x5)], [], 2⟩
set_option maxRecDepth 100000 in
theorem laws_heldStringS.e0 (k : Nat) (x0 : List ByteArray) (x1 : Int) (x5 : Int) : laws_heldStringS.x0 (k + 1) x0 x1 x5 = (if x5 < (x0.length : Int) then (if 0 ≤ x5 then ((laws_markText.f k x1).bind fun t1 => (if (rdS x0 x5).toList = t1.toList then (laws_heldStringS.x0 k x0 (wrap64 (x1 + 1)) (wrap64 (x5 + 1))) else (some (laws_heldStringS.en (-1))))) else none) else (some (laws_heldStringS.en x1))) := by
  refine Eq.trans ?_ (R.icong (fun h0 => (R.icong (fun h1 => (R.idropT (p := x5 < (x0.length : Int)) (z := none) h0 rfl)) (fun h1 => rfl))) (fun h0 => rfl))
  kernel_rfl
set_option maxRecDepth 100000 in
theorem laws_heldStringS.ef (k : Nat) (l0 : List ByteArray) (a1 : Int) : R.start Try.prog xhn laws_heldStringS.O 0 Try.f56 laws_heldStringS.fh k [.imm (.S l0), .int .i64 a1] [] = (laws_heldStringS.x0 k l0 a1 0) := by kernel_rfl
theorem laws_heldStringS.link : ∀ k, (∀ (x0 : List ByteArray) (x1 : Int) (x5 : Int), laws_heldStringS.x0 k x0 x1 x5 = (laws_heldStringS.l0 k x0 x1 x5).map (laws_heldStringS.en))
  | 0 => fun _ _ _ => by simp only [laws_heldStringS.l0, R.map_none]; rfl
  | k + 1 => by
    have ih0 := laws_heldStringS.link k
    · intro x0 x1 x5
      rw [laws_heldStringS.e0]
      simp only [laws_heldStringS.l0, R.map_ite, R.map_bind, R.map_none, R.map_some, ← ih0]
theorem laws_heldStringS.sf (k : Nat) (l0 : List ByteArray) (a1 : Int) : R.start Try.prog xhn laws_heldStringS.O 0 Try.f56 laws_heldStringS.fh k [.imm (.S l0), .int .i64 a1] [] = (laws_heldStringS.f k l0 a1).map (laws_heldStringS.en) := by
  have ih0 := laws_heldStringS.link k
  rw [laws_heldStringS.ef]
  simp only [laws_heldStringS.f, R.map_ite, R.map_bind, R.map_none, R.map_some, ← ih0]
theorem laws_heldStringS.ok (k : Nat) : laws_heldStringS.tw.Ok Try.prog k := by
  intro a r h
  refine fn_ok (H := xhn) (fh := laws_heldStringS.fh) (O := laws_heldStringS.O) (k := k) Try.func56 (by kernel_rfl) (by kernel_rfl) (fun j _ => (Tw.orc_sound laws_markText.dok (laws_markText.ok j) noO_sound)) (by kernel_rfl) (m := 0) rfl ?_
  refine (laws_heldStringS.sf k a.1 a.2).trans ?_
  exact congrArg (Option.map _) h
def laws_FnExactStablesOf.f (k : Nat) (a0_0 : Int) (l0_1 : List Int) (l0_2 : List Int) (l0_3 : List Stp) : Option (Bool) := ((laws_szAutomaton.f k a0_0 l0_1 l0_2 l0_3 1048576).bind fun t1 => (if t1 < 0 then (some true) else ((laws_toAutomaton.f k a0_0 l0_1 l0_2 l0_3).bind fun t2 => ((spec_StablesOf.f k t2.1 t2.2.1 t2.2.2.1 t2.2.2.2).bind fun t3 => ((laws_toAutomaton.f k a0_0 l0_1 l0_2 l0_3).bind fun t4 => ((impl_StablesOf.f k t4.1 t4.2.1 t4.2.2.1 t4.2.2.2).bind fun t5 => ((laws_eqStringS.f k t5.1 t3.1).bind fun t6 => (if t6 = true then (if (t5.2 != t3.2) = true then (some false) else ((laws_toAutomaton.f k a0_0 l0_1 l0_2 l0_3).bind fun t7 => ((laws_eqAutomaton.f k t4.1 t4.2.1 t4.2.2.1 t4.2.2.2 t7.1 t7.2.1 t7.2.2.1 t7.2.2.2).bind fun t8 => (if t8 = true then ((laws_markAutomaton.f k t4.1 t4.2.1 t4.2.2.1 t4.2.2.2 1).bind fun t9 => (if t9.1 < 0 then (some false) else ((laws_eqStringS.f k t5.1 t3.1).bind fun t10 => (if t10 = true then ((laws_markStringS.f k t5.1 1).bind fun t11 => ((laws_heldStringS.f k t11.2 1).bind fun t12 => (if t12 < 0 then (some false) else (if t12 = t11.1 then ((laws_toAutomaton.f k a0_0 l0_1 l0_2 l0_3).bind fun t13 => ((impl_StablesOf.f k t13.1 t13.2.1 t13.2.2.1 t13.2.2.2).bind fun t14 => ((laws_eqStringS.f k t14.1 t3.1).bind fun t15 => (if t15 = true then (if (t14.2 != t3.2) = true then (some false) else ((laws_heldStringS.f k t11.2 1).bind fun t16 => (if t16 < 0 then (some false) else (if t16 = t11.1 then (some true) else (some false))))) else (some false))))) else (some false))))) else (some false))))) else (some false))))) else (some false)))))))))
def laws_FnExactStablesOf.en (r : Bool) : Res := (.lit r, [])
def laws_FnExactStablesOf.dec : List AV → List R.Obj → Option (Int × (List Int) × (List Int) × (List Stp))
  | [.agg [.int .i64 a0_0, .imm (.I .i64 l0_1), .imm (.I .i64 l0_2), .imm (.T l0_3)]], [] => some (a0_0, l0_1, l0_2, l0_3)
  | _, _ => none
def laws_FnExactStablesOf.tw : Tw := ⟨9, Int × (List Int) × (List Int) × (List Stp), Bool, laws_FnExactStablesOf.dec, fun a => [.agg [.int .i64 a.1, .imm (.I .i64 a.2.1), .imm (.I .i64 a.2.2.1), .imm (.T a.2.2.2)]], fun a => [], fun k a => laws_FnExactStablesOf.f k a.1 a.2.1 a.2.2.1 a.2.2.2, fun a r => laws_FnExactStablesOf.en r⟩
theorem laws_FnExactStablesOf.dok : laws_FnExactStablesOf.tw.DecOk := by
  intro args hc a h
  have h : laws_FnExactStablesOf.dec args hc = some a := h
  unfold laws_FnExactStablesOf.dec at h
  split at h
  · cases h; exact ⟨rfl, rfl⟩
  · cases h
noncomputable def laws_FnExactStablesOf.O (k : Nat) : Oracle := (laws_szAutomaton.tw.orc k (laws_toAutomaton.tw.orc k (spec_StablesOf.tw.orc k (impl_StablesOf.tw.orc k (laws_eqStringS.tw.orc k (laws_eqAutomaton.tw.orc k (laws_markAutomaton.tw.orc k (laws_markStringS.tw.orc k (laws_heldStringS.tw.orc k noO)))))))))
def laws_FnExactStablesOf.fh : FH := ⟨fun i => match i with | _ => none, [], false⟩
set_option maxRecDepth 100000 in
theorem laws_FnExactStablesOf.ef (k : Nat) (a0_0 : Int) (l0_1 : List Int) (l0_2 : List Int) (l0_3 : List Stp) : R.start Try.prog xhn laws_FnExactStablesOf.O 0 Try.f9 laws_FnExactStablesOf.fh k [.agg [.int .i64 a0_0, .imm (.I .i64 l0_1), .imm (.I .i64 l0_2), .imm (.T l0_3)]] [] = ((laws_szAutomaton.f k a0_0 l0_1 l0_2 l0_3 1048576).bind fun t1 => (if t1 < 0 then (some (laws_FnExactStablesOf.en true)) else ((laws_toAutomaton.f k a0_0 l0_1 l0_2 l0_3).bind fun t2 => ((spec_StablesOf.f k t2.1 t2.2.1 t2.2.2.1 t2.2.2.2).bind fun t3 => ((laws_toAutomaton.f k a0_0 l0_1 l0_2 l0_3).bind fun t4 => ((impl_StablesOf.f k t4.1 t4.2.1 t4.2.2.1 t4.2.2.2).bind fun t5 => ((laws_eqStringS.f k t5.1 t3.1).bind fun t6 => (if t6 = true then (if (t5.2 != t3.2) = true then (some (laws_FnExactStablesOf.en false)) else ((laws_toAutomaton.f k a0_0 l0_1 l0_2 l0_3).bind fun t7 => ((laws_eqAutomaton.f k t4.1 t4.2.1 t4.2.2.1 t4.2.2.2 t7.1 t7.2.1 t7.2.2.1 t7.2.2.2).bind fun t8 => (if t8 = true then ((laws_markAutomaton.f k t4.1 t4.2.1 t4.2.2.1 t4.2.2.2 1).bind fun t9 => (if t9.1 < 0 then (some (laws_FnExactStablesOf.en false)) else ((laws_eqStringS.f k t5.1 t3.1).bind fun t10 => (if t10 = true then ((laws_markStringS.f k t5.1 1).bind fun t11 => ((laws_heldStringS.f k t11.2 1).bind fun t12 => (if t12 < 0 then (some (laws_FnExactStablesOf.en false)) else (if t12 = t11.1 then ((laws_toAutomaton.f k a0_0 l0_1 l0_2 l0_3).bind fun t13 => ((impl_StablesOf.f k t13.1 t13.2.1 t13.2.2.1 t13.2.2.2).bind fun t14 => ((laws_eqStringS.f k t14.1 t3.1).bind fun t15 => (if t15 = true then (if (t14.2 != t3.2) = true then (some (laws_FnExactStablesOf.en false)) else ((laws_heldStringS.f k t11.2 1).bind fun t16 => (if t16 < 0 then (some (laws_FnExactStablesOf.en false)) else (if t16 = t11.1 then (some (laws_FnExactStablesOf.en true)) else (some (laws_FnExactStablesOf.en false)))))) else (some (laws_FnExactStablesOf.en false)))))) else (some (laws_FnExactStablesOf.en false)))))) else (some (laws_FnExactStablesOf.en false)))))) else (some (laws_FnExactStablesOf.en false)))))) else (some (laws_FnExactStablesOf.en false)))))))))) := by
  refine Eq.trans ?_ (R.bcong fun t1 => (R.icong (fun h0 => rfl) (fun h0 => (R.bcong fun t2 => (R.bcong fun t3 => (R.bcong fun t4 => (R.bcong fun t5 => (R.bcong fun t6 => (R.icong (fun h1 => (R.icong (fun h2 => rfl) (fun h2 => (R.bcong fun t7 => (R.bcong fun t8 => (R.icong (fun h3 => (R.bcong fun t9 => (R.icong (fun h4 => rfl) (fun h4 => (R.bcong fun t10 => (R.icong (fun h5 => (R.idropF (p := (t5.2 != t3.2) = true) (z := (some (laws_FnExactStablesOf.en false))) h2 rfl)) (fun h5 => rfl))))))) (fun h3 => rfl))))))) (fun h1 => rfl))))))))))
  kernel_rfl
theorem laws_FnExactStablesOf.sf (k : Nat) (a0_0 : Int) (l0_1 : List Int) (l0_2 : List Int) (l0_3 : List Stp) : R.start Try.prog xhn laws_FnExactStablesOf.O 0 Try.f9 laws_FnExactStablesOf.fh k [.agg [.int .i64 a0_0, .imm (.I .i64 l0_1), .imm (.I .i64 l0_2), .imm (.T l0_3)]] [] = (laws_FnExactStablesOf.f k a0_0 l0_1 l0_2 l0_3).map (laws_FnExactStablesOf.en) := by
  rw [laws_FnExactStablesOf.ef]
  simp only [laws_FnExactStablesOf.f, R.map_ite, R.map_bind, R.map_none, R.map_some]
theorem laws_FnExactStablesOf.ok (k : Nat) : laws_FnExactStablesOf.tw.Ok Try.prog k := by
  intro a r h
  refine fn_ok (H := xhn) (fh := laws_FnExactStablesOf.fh) (O := laws_FnExactStablesOf.O) (k := k) Try.func9 (by kernel_rfl) (by kernel_rfl) (fun j _ => (Tw.orc_sound laws_szAutomaton.dok (laws_szAutomaton.ok j) (Tw.orc_sound laws_toAutomaton.dok (laws_toAutomaton.ok j) (Tw.orc_sound spec_StablesOf.dok (spec_StablesOf.ok j) (Tw.orc_sound impl_StablesOf.dok (impl_StablesOf.ok j) (Tw.orc_sound laws_eqStringS.dok (laws_eqStringS.ok j) (Tw.orc_sound laws_eqAutomaton.dok (laws_eqAutomaton.ok j) (Tw.orc_sound laws_markAutomaton.dok (laws_markAutomaton.ok j) (Tw.orc_sound laws_markStringS.dok (laws_markStringS.ok j) (Tw.orc_sound laws_heldStringS.dok (laws_heldStringS.ok j) noO_sound)))))))))) (by kernel_rfl) (m := 0) rfl ?_
  refine (laws_FnExactStablesOf.sf k a.1 a.2.1 a.2.2.1 a.2.2.2).trans ?_
  exact congrArg (Option.map _) h
end Go.Proofs.Ytaaajdlgmllhaaa.V
end
