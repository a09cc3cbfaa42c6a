import Derived.Test.YtoeeeafknajkkaaQFnChain5
import Derived.Test.YtoeeeafknajkkaaQFnChain2
import Derived.Test.YtoeeeafknajkkaaQFnChain4
import Derived.Test.YtoeeeafknajkkaaProg
import Derived.WalkKit
import Derived.ProofKit
import Derived.Lib.Bytealg
section
set_option linter.unusedVariables false
set_option linter.unusedSimpArgs false
namespace Go.Proofs.Ytoeeeafknajkkaa.V
open Go Go.Proofs.Ytoeeeafknajkkaa.R Go.RowKit
mutual
def slices_Concat_impl_Step_impl_Step.l0 : Nat → (List (List Stp)) → Int → (List (List Stp)) → Int → Int → Option (List Stp)
  | 0, _, _, _, _, _ => none
  | k + 1, x0, x3, x9, x10, x11 => (if x11 < x10 then (if 0 ≤ x11 then (if x11 < (x9.length : Int) then (if (wrap64 (x3 + ((rdM x9 x11).length : Int))) < 0 then none else (slices_Concat_impl_Step_impl_Step.l0 k x0 (wrap64 (x3 + ((rdM x9 x11).length : Int))) x9 x10 (wrap64 (x11 + 1)))) else none) else none) else ((slices_Grow_impl_Step_impl_Step.f x3).bind fun t1 => (slices_Concat_impl_Step_impl_Step.l1 k t1 x0 (x0.length : Int) 0)))
def slices_Concat_impl_Step_impl_Step.l1 : Nat → (List Stp) → (List (List Stp)) → Int → Int → Option (List Stp)
  | 0, _, _, _, _ => none
  | k + 1, y0, x25, x26, x27 => (if x27 < x26 then (if 0 ≤ x27 then (if x27 < (x25.length : Int) then (if y0.length + (rdM x25 x27).length ≤ 3518437208883 then (slices_Concat_impl_Step_impl_Step.l1 k (y0 ++ (rdM x25 x27)) x25 x26 (wrap64 (x27 + 1))) else none) else none) else none) else (some y0))
end
def slices_Concat_impl_Step_impl_Step.f (k : Nat) (l0 : List (List Stp)) : Option (List Stp) := (slices_Concat_impl_Step_impl_Step.l0 k l0 0 l0 (l0.length : Int) 0)
def slices_Concat_impl_Step_impl_Step.en (r : List Stp) : Res := (.sl 0 0, [.arr 67 0 (.T r) false])
def slices_Concat_impl_Step_impl_Step.dec : List AV → List R.Obj → Option (List (List Stp))
  | [.imm (.M l0)], [] => some l0
  | _, _ => none
def slices_Concat_impl_Step_impl_Step.tw : Tw := ⟨80, List (List Stp), List Stp, slices_Concat_impl_Step_impl_Step.dec, fun a => [.imm (.M a)], fun a => [], fun k a => slices_Concat_impl_Step_impl_Step.f k a, fun a r => slices_Concat_impl_Step_impl_Step.en r, false⟩
theorem slices_Concat_impl_Step_impl_Step.dok : slices_Concat_impl_Step_impl_Step.tw.DecOk := by
  intro args hc a h
  have h : slices_Concat_impl_Step_impl_Step.dec args hc = some a := h
  unfold slices_Concat_impl_Step_impl_Step.dec at h
  split at h
  · cases h; exact ⟨rfl, rfl⟩
  · cases h
noncomputable def slices_Concat_impl_Step_impl_Step.O (k : Nat) : Oracle := (slices_Grow_impl_Step_impl_Step.tw.orc k noO)
def slices_Concat_impl_Step_impl_Step.fh : FH := ⟨fun i => match i with | 3 => some [(0, 0), (3, 0), (9, 0), (10, 0), (11, 0)] | 11 => some [(6, 0), (25, 0), (26, 0), (27, 0)] | _ => none, [(true, 67)], false⟩
noncomputable def slices_Concat_impl_Step_impl_Step.x0 (k : Nat) (x0 : List (List Stp)) (x3 : Int) (x9 : List (List Stp)) (x10 : Int) (x11 : Int) : Option Res := R.exec Try.prog xhn slices_Concat_impl_Step_impl_Step.O 0 Try.f80 slices_Concat_impl_Step_impl_Step.fh k (R.point Try.f80 3) ⟨[(0, .imm (.M x0)), (3, .int .i64 x3), (9, .imm (.M x9)), (10, .int .i64 x10), (11, .int .i64 x11)], [], 2⟩
noncomputable def slices_Concat_impl_Step_impl_Step.x1 (k : Nat) (y0 : List Stp) (x25 : List (List Stp)) (x26 : Int) (x27 : Int) : Option Res := R.exec Try.prog xhn slices_Concat_impl_Step_impl_Step.O 0 Try.f80 slices_Concat_impl_Step_impl_Step.fh k (R.point Try.f80 11) ⟨[(6, .sl 0 0), (25, .imm (.M x25)), (26, .int .i64 x26), (27, .int .i64 x27)], [(0, .arr 67 0 (.T y0) false)], 3⟩
set_option maxRecDepth 100000 in
theorem slices_Concat_impl_Step_impl_Step.e0 (k : Nat) (x0 : List (List Stp)) (x3 : Int) (x9 : List (List Stp)) (x10 : Int) (x11 : Int) : slices_Concat_impl_Step_impl_Step.x0 (k + 1) x0 x3 x9 x10 x11 = (if x11 < x10 then (if 0 ≤ x11 then (if x11 < (x9.length : Int) then (if (wr64 (x3 + ((rdM x9 x11).length : Int))) < 0 then none else (slices_Concat_impl_Step_impl_Step.x0 k x0 (wr64 (x3 + ((rdM x9 x11).length : Int))) x9 x10 (wr64 (x11 + 1)))) else none) else none) else ((slices_Grow_impl_Step_impl_Step.f x3).bind fun t1 => (slices_Concat_impl_Step_impl_Step.x1 k t1 x0 (x0.length : Int) 0))) := by kernel_rfl
set_option maxRecDepth 100000 in
theorem slices_Concat_impl_Step_impl_Step.e1 (k : Nat) (y0 : List Stp) (x25 : List (List Stp)) (x26 : Int) (x27 : Int) : slices_Concat_impl_Step_impl_Step.x1 (k + 1) y0 x25 x26 x27 = (if x27 < x26 then (if 0 ≤ x27 then (if x27 < (x25.length : Int) then (if y0.length + (rdM x25 x27).length ≤ 3518437208883 then (slices_Concat_impl_Step_impl_Step.x1 k (y0 ++ (rdM x25 x27)) x25 x26 (wr64 (x27 + 1))) else none) else none) else none) else (some (slices_Concat_impl_Step_impl_Step.en y0))) := by kernel_rfl
set_option maxRecDepth 100000 in
theorem slices_Concat_impl_Step_impl_Step.ef (k : Nat) (l0 : List (List Stp)) : R.start Try.prog xhn slices_Concat_impl_Step_impl_Step.O 0 Try.f80 slices_Concat_impl_Step_impl_Step.fh k [.imm (.M l0)] [] = (slices_Concat_impl_Step_impl_Step.x0 k l0 0 l0 (l0.length : Int) 0) := by kernel_rfl
theorem slices_Concat_impl_Step_impl_Step.link : ∀ k, (∀ (x0 : List (List Stp)) (x3 : Int) (x9 : List (List Stp)) (x10 : Int) (x11 : Int), slices_Concat_impl_Step_impl_Step.x0 k x0 x3 x9 x10 x11 = (slices_Concat_impl_Step_impl_Step.l0 k x0 x3 x9 x10 x11).map (slices_Concat_impl_Step_impl_Step.en)) ∧ (∀ (y0 : List Stp) (x25 : List (List Stp)) (x26 : Int) (x27 : Int), slices_Concat_impl_Step_impl_Step.x1 k y0 x25 x26 x27 = (slices_Concat_impl_Step_impl_Step.l1 k y0 x25 x26 x27).map (slices_Concat_impl_Step_impl_Step.en))
  | 0 => ⟨fun _ _ _ _ _ => by simp only [slices_Concat_impl_Step_impl_Step.l0, R.map_none]; rfl, fun _ _ _ _ => by simp only [slices_Concat_impl_Step_impl_Step.l1, R.map_none]; rfl⟩
  | k + 1 => by
    obtain ⟨ih0, ih1⟩ := slices_Concat_impl_Step_impl_Step.link k
    refine ⟨?_, ?_⟩
    · intro x0 x3 x9 x10 x11
      rw [slices_Concat_impl_Step_impl_Step.e0]
      simp only [slices_Concat_impl_Step_impl_Step.l0, R.map_ite, R.map_bind, R.map_none, R.map_some, R.wr64_eq, ← ih0, ← ih1]
    · intro y0 x25 x26 x27
      rw [slices_Concat_impl_Step_impl_Step.e1]
      simp only [slices_Concat_impl_Step_impl_Step.l1, R.map_ite, R.map_bind, R.map_none, R.map_some, R.wr64_eq, ← ih0, ← ih1]
theorem slices_Concat_impl_Step_impl_Step.sf (k : Nat) (l0 : List (List Stp)) : R.start Try.prog xhn slices_Concat_impl_Step_impl_Step.O 0 Try.f80 slices_Concat_impl_Step_impl_Step.fh k [.imm (.M l0)] [] = (slices_Concat_impl_Step_impl_Step.f k l0).map (slices_Concat_impl_Step_impl_Step.en) := by
  obtain ⟨ih0, ih1⟩ := slices_Concat_impl_Step_impl_Step.link k
  rw [slices_Concat_impl_Step_impl_Step.ef]
  simp only [slices_Concat_impl_Step_impl_Step.f, R.map_ite, R.map_bind, R.map_none, R.map_some, R.wr64_eq, ← ih0, ← ih1]
theorem slices_Concat_impl_Step_impl_Step.ok (k : Nat) : slices_Concat_impl_Step_impl_Step.tw.Ok Try.prog k := by
  intro md hmd a r h
  refine fn_ok (H := xhn) (fh := slices_Concat_impl_Step_impl_Step.fh) (O := slices_Concat_impl_Step_impl_Step.O) (k := k) Try.func80 (by kernel_rfl) (by kernel_rfl) (fun j _ => (Tw.orc_sound slices_Grow_impl_Step_impl_Step.dok (slices_Grow_impl_Step_impl_Step.ok j) (fun q => Bool.noConfusion (show false = true from hmd q)) noO_sound)) (by kernel_rfl) (m := 0) rfl ?_
  refine (slices_Concat_impl_Step_impl_Step.sf k a).trans ?_
  exact congrArg (Option.map _) h
def slices_Index_int_int.l0 : Nat → (List Int) → Int → Int → Int → Option (Int)
  | 0, _, _, _, _ => none
  | k + 1, x0, x1, x7, x8 => (if x8 < x7 then (if 0 ≤ x8 then (if x8 < (x0.length : Int) then (if x1 = (rdI x0 x8) then (some x8) else (slices_Index_int_int.l0 k x0 x1 x7 (wrap64 (x8 + 1)))) else none) else none) else (some (-1)))
def slices_Index_int_int.f (k : Nat) (l0 : List Int) (a1 : Int) : Option (Int) := (slices_Index_int_int.l0 k l0 a1 (l0.length : Int) 0)
def slices_Index_int_int.en (r : Int) : Res := (.int .i64 r, [])
def slices_Index_int_int.dec : List AV → List R.Obj → Option ((List Int) × Int)
  | [.imm (.I .i64 l0), .int .i64 a1], [] => some (l0, a1)
  | _, _ => none
def slices_Index_int_int.tw : Tw := ⟨85, (List Int) × Int, Int, slices_Index_int_int.dec, fun a => [.imm (.I .i64 a.1), .int .i64 a.2], fun a => [], fun k a => slices_Index_int_int.f k a.1 a.2, fun a r => slices_Index_int_int.en r, true⟩
theorem slices_Index_int_int.dok : slices_Index_int_int.tw.DecOk := by
  intro args hc a h
  have h : slices_Index_int_int.dec args hc = some a := h
  unfold slices_Index_int_int.dec at h
  split at h
  · cases h; exact ⟨rfl, rfl⟩
  · cases h
noncomputable def slices_Index_int_int.O (k : Nat) : Oracle := noO
def slices_Index_int_int.fh : FH := ⟨fun i => match i with | 2 => some [(0, 0), (1, 0), (7, 0), (8, 0)] | _ => none, [], false⟩
noncomputable def slices_Index_int_int.x0 (k : Nat) (x0 : List Int) (x1 : Int) (x7 : Int) (x8 : Int) : Option Res := R.exec Try.prog xhn slices_Index_int_int.O 0 Try.f85 slices_Index_int_int.fh k (R.point Try.f85 2) ⟨[(0, .imm (.I .i64 x0)), (1, .int .i64 x1), (7, .int .i64 x7), (8, .int .i64 x8)], [], 2⟩
set_option maxRecDepth 100000 in
theorem slices_Index_int_int.e0 (k : Nat) (x0 : List Int) (x1 : Int) (x7 : Int) (x8 : Int) : slices_Index_int_int.x0 (k + 1) x0 x1 x7 x8 = (if x8 < x7 then (if 0 ≤ x8 then (if x8 < (x0.length : Int) then (if x1 = (rdI x0 x8) then (some (slices_Index_int_int.en x8)) else (slices_Index_int_int.x0 k x0 x1 x7 (wr64 (x8 + 1)))) else none) else none) else (some (slices_Index_int_int.en (-1)))) := by kernel_rfl
set_option maxRecDepth 100000 in
theorem slices_Index_int_int.ef (k : Nat) (l0 : List Int) (a1 : Int) : R.start Try.prog xhn slices_Index_int_int.O 0 Try.f85 slices_Index_int_int.fh k [.imm (.I .i64 l0), .int .i64 a1] [] = (slices_Index_int_int.x0 k l0 a1 (l0.length : Int) 0) := by kernel_rfl
theorem slices_Index_int_int.link : ∀ k, (∀ (x0 : List Int) (x1 : Int) (x7 : Int) (x8 : Int), slices_Index_int_int.x0 k x0 x1 x7 x8 = (slices_Index_int_int.l0 k x0 x1 x7 x8).map (slices_Index_int_int.en))
  | 0 => fun _ _ _ _ => by simp only [slices_Index_int_int.l0, R.map_none]; rfl
  | k + 1 => by
    have ih0 := slices_Index_int_int.link k
    · intro x0 x1 x7 x8
      rw [slices_Index_int_int.e0]
      simp only [slices_Index_int_int.l0, R.map_ite, R.map_bind, R.map_none, R.map_some, R.wr64_eq, ← ih0]
theorem slices_Index_int_int.sf (k : Nat) (l0 : List Int) (a1 : Int) : R.start Try.prog xhn slices_Index_int_int.O 0 Try.f85 slices_Index_int_int.fh k [.imm (.I .i64 l0), .int .i64 a1] [] = (slices_Index_int_int.f k l0 a1).map (slices_Index_int_int.en) := by
  have ih0 := slices_Index_int_int.link k
  rw [slices_Index_int_int.ef]
  simp only [slices_Index_int_int.f, R.map_ite, R.map_bind, R.map_none, R.map_some, R.wr64_eq, ← ih0]
theorem slices_Index_int_int.ok (k : Nat) : slices_Index_int_int.tw.Ok Try.prog k := by
  intro md hmd a r h
  refine fn_ok (H := xhn) (fh := slices_Index_int_int.fh) (O := slices_Index_int_int.O) (k := k) Try.func85 (by kernel_rfl) (by kernel_rfl) (fun j _ => noO_sound) (by kernel_rfl) (m := 0) rfl ?_
  refine (slices_Index_int_int.sf k a.1 a.2).trans ?_
  exact congrArg (Option.map _) h
def slices_Contains_int_int.f (k : Nat) (l0 : List Int) (a1 : Int) : Option (Bool) := ((slices_Index_int_int.f k l0 a1).bind fun t1 => (some (decide (t1 ≥ 0))))
def slices_Contains_int_int.en (r : Bool) : Res := (.lit r, [])
def slices_Contains_int_int.dec : List AV → List R.Obj → Option ((List Int) × Int)
  | [.imm (.I .i64 l0), .int .i64 a1], [] => some (l0, a1)
  | _, _ => none
def slices_Contains_int_int.tw : Tw := ⟨89, (List Int) × Int, Bool, slices_Contains_int_int.dec, fun a => [.imm (.I .i64 a.1), .int .i64 a.2], fun a => [], fun k a => slices_Contains_int_int.f k a.1 a.2, fun a r => slices_Contains_int_int.en r, true⟩
theorem slices_Contains_int_int.dok : slices_Contains_int_int.tw.DecOk := by
  intro args hc a h
  have h : slices_Contains_int_int.dec args hc = some a := h
  unfold slices_Contains_int_int.dec at h
  split at h
  · cases h; exact ⟨rfl, rfl⟩
  · cases h
noncomputable def slices_Contains_int_int.O (k : Nat) : Oracle := (slices_Index_int_int.tw.orc k noO)
def slices_Contains_int_int.fh : FH := ⟨fun i => match i with | _ => none, [], false⟩
set_option maxRecDepth 100000 in
theorem slices_Contains_int_int.ef (k : Nat) (l0 : List Int) (a1 : Int) : R.start Try.prog xhn slices_Contains_int_int.O 0 Try.f89 slices_Contains_int_int.fh k [.imm (.I .i64 l0), .int .i64 a1] [] = ((slices_Index_int_int.f k l0 a1).bind fun t1 => (some (slices_Contains_int_int.en (decide (t1 ≥ 0))))) := by kernel_rfl
theorem slices_Contains_int_int.sf (k : Nat) (l0 : List Int) (a1 : Int) : R.start Try.prog xhn slices_Contains_int_int.O 0 Try.f89 slices_Contains_int_int.fh k [.imm (.I .i64 l0), .int .i64 a1] [] = (slices_Contains_int_int.f k l0 a1).map (slices_Contains_int_int.en) := by
  rw [slices_Contains_int_int.ef]
  simp only [slices_Contains_int_int.f, R.map_ite, R.map_bind, R.map_none, R.map_some, R.wr64_eq]
theorem slices_Contains_int_int.ok (k : Nat) : slices_Contains_int_int.tw.Ok Try.prog k := by
  intro md hmd a r h
  refine fn_ok (H := xhn) (fh := slices_Contains_int_int.fh) (O := slices_Contains_int_int.O) (k := k) Try.func89 (by kernel_rfl) (by kernel_rfl) (fun j _ => (Tw.orc_sound slices_Index_int_int.dok (slices_Index_int_int.ok j) (fun _ => rfl) noO_sound)) (by kernel_rfl) (m := 0) rfl ?_
  refine (slices_Contains_int_int.sf k a.1 a.2).trans ?_
  exact congrArg (Option.map _) h
def slices_Clone_int_int.f (l0 : List Int) : Option (List Int) := if l0.length ≤ 1000000000 then some l0 else none
def slices_Clone_int_int.dec : List AV → List R.Obj → Option (List Int)
  | [.imm (.I .i64 l0)], [] => some l0
  | _, _ => none
def slices_Clone_int_int.tw : Tw := ⟨90, List Int, List Int, slices_Clone_int_int.dec, fun a => [.imm (.I .i64 a)], fun a => [], fun k a => slices_Clone_int_int.f a, fun a r => (.sl 0 0, [.arr 3 0 (.I .i64 r) false]), false⟩
theorem slices_Clone_int_int.dok : slices_Clone_int_int.tw.DecOk := by
  intro args hc a h
  have h : slices_Clone_int_int.dec args hc = some a := h
  unfold slices_Clone_int_int.dec at h
  split at h
  · cases h; exact ⟨rfl, rfl⟩
  · cases h
theorem slices_Clone_int_int.ok (k : Nat) : slices_Clone_int_int.tw.Ok Try.prog k := by
  intro md hmd l0 r h
  have h : slices_Clone_int_int.f l0 = some r := h
  unfold slices_Clone_int_int.f at h
  split at h
  case isFalse => cases h
  rename_i hl
  obtain rfl := Option.some.inj h
  obtain ⟨i0, hi⟩ : ∃ i0, Try.prog.info? 3 = some i0 := Option.isSome_iff_exists.1 (by kernel_rfl)
  have h4 : (Try.prog.info? 3).bind (fun i => i.zero.map fun z => (i.size, i.bytes, z.cells.size)) = some (1, 8, 1) := by kernel_rfl
  rw [hi] at h4
  obtain ⟨z, hz0, hzz⟩ := Option.map_eq_some_iff.1 (show i0.zero.map (fun z => (i0.size, i0.bytes, z.cells.size)) = some (1, 8, 1) from h4)
  simp only [Prod.mk.injEq] at hzz
  obtain ⟨hz1, hz2, hzs⟩ := hzz
  refine ⟨callable_of Try.func90 (by kernel_rfl) (by kernel_rfl), fun w M I vs E => ?_⟩
  have hl' : (Ct.I .i64 l0).len ≤ 1000000000 := hl
  refine clone_leaves (c := .I .i64 l0) rfl E (fun b off cap news n1 n2 n3 => ?_) (fun n cap => Go.Proofs.AnyE.slices_Clone_nil Try.layCloneI n cap w) (fun ad cap => R.clone_zero Try.layCloneI i0 z 1 8 hi hz0 hz1 hz2 hzs (by decide) Try.sizeOf3 ad cap w) (fun q => Bool.noConfusion (show false = true from hmd q))
  exact Go.Proofs.AnyE.slices_Clone Try.layCloneI i0 z 1 8 hi hz0 hz1 hz2 hzs (by decide) Try.sizeOf3 b off _ cap news w n1 (by unfold maxLen; omega) (by omega) n2 n3
def impl_moved.l0 : Nat → Int → (List Int) → (List Int) → Int → Int → Option (List Int)
  | 0, _, _, _, _, _ => none
  | k + 1, x1, y0, x9, x10, x11 => (if x11 < x10 then (if 0 ≤ x11 then (if x11 < (x9.length : Int) then (if y0.length < 17592186044416 then (impl_moved.l0 k x1 (y0 ++ [(wrap64 ((rdI x9 x11) + x1))]) x9 x10 (wrap64 (x11 + 1))) else none) else none) else none) else (some y0))
def impl_moved.f (k : Nat) (l0 : List Int) (a1 : Int) : Option (List Int) := (impl_moved.l0 k a1 ([] : List Int) l0 (l0.length : Int) 0)
def impl_moved.en (r : List Int) : Res := (.sl 0 0, [.arr 3 0 (.I .i64 r) false])
def impl_moved.dec : List AV → List R.Obj → Option ((List Int) × Int)
  | [.imm (.I .i64 l0), .int .i64 a1], [] => some (l0, a1)
  | _, _ => none
def impl_moved.tw : Tw := ⟨79, (List Int) × Int, List Int, impl_moved.dec, fun a => [.imm (.I .i64 a.1), .int .i64 a.2], fun a => [], fun k a => impl_moved.f k a.1 a.2, fun a r => impl_moved.en r, true⟩
theorem impl_moved.dok : impl_moved.tw.DecOk := by
  intro args hc a h
  have h : impl_moved.dec args hc = some a := h
  unfold impl_moved.dec at h
  split at h
  · cases h; exact ⟨rfl, rfl⟩
  · cases h
noncomputable def impl_moved.O (k : Nat) : Oracle := noO
def impl_moved.fh : FH := ⟨fun i => match i with | 3 => some [(1, 0), (5, 0), (9, 0), (10, 0), (11, 0)] | _ => none, [(true, 3)], false⟩
noncomputable def impl_moved.x0 (k : Nat) (x1 : Int) (y0 : List Int) (x9 : List Int) (x10 : Int) (x11 : Int) : Option Res := R.exec Try.prog xhn impl_moved.O 0 Try.f79 impl_moved.fh k (R.point Try.f79 3) ⟨[(1, .int .i64 x1), (5, .sl 0 0), (9, .imm (.I .i64 x9)), (10, .int .i64 x10), (11, .int .i64 x11)], [(0, .arr 3 0 (.I .i64 y0) false)], 3⟩
set_option maxRecDepth 100000 in
theorem impl_moved.e0 (k : Nat) (x1 : Int) (y0 : List Int) (x9 : List Int) (x10 : Int) (x11 : Int) : impl_moved.x0 (k + 1) x1 y0 x9 x10 x11 = (if x11 < x10 then (if 0 ≤ x11 then (if x11 < (x9.length : Int) then (if y0.length < 17592186044416 then (impl_moved.x0 k x1 (y0 ++ [(wr64 ((rdI x9 x11) + x1))]) x9 x10 (wr64 (x11 + 1))) else none) else none) else none) else (some (impl_moved.en y0))) := by kernel_rfl
set_option maxRecDepth 100000 in
theorem impl_moved.ef (k : Nat) (l0 : List Int) (a1 : Int) : R.start Try.prog xhn impl_moved.O 0 Try.f79 impl_moved.fh k [.imm (.I .i64 l0), .int .i64 a1] [] = (impl_moved.x0 k a1 ([] : List Int) l0 (l0.length : Int) 0) := by kernel_rfl
theorem impl_moved.link : ∀ k, (∀ (x1 : Int) (y0 : List Int) (x9 : List Int) (x10 : Int) (x11 : Int), impl_moved.x0 k x1 y0 x9 x10 x11 = (impl_moved.l0 k x1 y0 x9 x10 x11).map (impl_moved.en))
  | 0 => fun _ _ _ _ _ => by simp only [impl_moved.l0, R.map_none]; rfl
  | k + 1 => by
    have ih0 := impl_moved.link k
    · intro x1 y0 x9 x10 x11
      rw [impl_moved.e0]
      simp only [impl_moved.l0, R.map_ite, R.map_bind, R.map_none, R.map_some, R.wr64_eq, ← ih0]
theorem impl_moved.sf (k : Nat) (l0 : List Int) (a1 : Int) : R.start Try.prog xhn impl_moved.O 0 Try.f79 impl_moved.fh k [.imm (.I .i64 l0), .int .i64 a1] [] = (impl_moved.f k l0 a1).map (impl_moved.en) := by
  have ih0 := impl_moved.link k
  rw [impl_moved.ef]
  simp only [impl_moved.f, R.map_ite, R.map_bind, R.map_none, R.map_some, R.wr64_eq, ← ih0]
theorem impl_moved.ok (k : Nat) : impl_moved.tw.Ok Try.prog k := by
  intro md hmd a r h
  refine fn_ok (H := xhn) (fh := impl_moved.fh) (O := impl_moved.O) (k := k) Try.func79 (by kernel_rfl) (by kernel_rfl) (fun j _ => noO_sound) (by kernel_rfl) (m := 0) rfl ?_
  refine (impl_moved.sf k a.1 a.2).trans ?_
  exact congrArg (Option.map _) h
def impl_shared_1.f (k : Nat) (a0 : Int) (l2_0 : List Int) : Option (Bool) := ((slices_Contains_int_int.f k l2_0 a0).bind fun t1 => (some t1))
def impl_shared_1.en (l2_0 : List Int) (r : Bool) : Res := (.lit r, [.box true [.imm (.I .i64 l2_0)]])
def impl_shared_1.dec : List AV → List R.Obj → Option (Int × (List Int))
  | [.int .i64 a0, .ptr 0 0], [.box true [.imm (.I .i64 l2_0)]] => some (a0, l2_0)
  | _, _ => none
def impl_shared_1.tw : Tw := ⟨128, Int × (List Int), Bool, impl_shared_1.dec, fun a => [.int .i64 a.1, .ptr 0 0], fun a => [.box true [.imm (.I .i64 a.2)]], fun k a => impl_shared_1.f k a.1 a.2, fun a r => impl_shared_1.en a.2 r, true⟩
theorem impl_shared_1.dok : impl_shared_1.tw.DecOk := by
  intro args hc a h
  have h : impl_shared_1.dec args hc = some a := h
  unfold impl_shared_1.dec at h
  split at h
  · cases h; exact ⟨rfl, rfl⟩
  · cases h
noncomputable def impl_shared_1.O (k : Nat) : Oracle := (slices_Contains_int_int.tw.orc k noO)
def impl_shared_1.fh : FH := ⟨fun i => match i with | _ => none, [], false⟩
set_option maxRecDepth 100000 in
theorem impl_shared_1.ef (k : Nat) (a0 : Int) (l2_0 : List Int) : R.start Try.prog xhn impl_shared_1.O 1 Try.f128 impl_shared_1.fh k [.int .i64 a0, .ptr 0 0] [.box true [.imm (.I .i64 l2_0)]] = ((slices_Contains_int_int.f k l2_0 a0).bind fun t1 => (some (impl_shared_1.en l2_0 t1))) := by kernel_rfl
theorem impl_shared_1.sf (k : Nat) (a0 : Int) (l2_0 : List Int) : R.start Try.prog xhn impl_shared_1.O 1 Try.f128 impl_shared_1.fh k [.int .i64 a0, .ptr 0 0] [.box true [.imm (.I .i64 l2_0)]] = (impl_shared_1.f k a0 l2_0).map (impl_shared_1.en l2_0) := by
  rw [impl_shared_1.ef]
  simp only [impl_shared_1.f, R.map_ite, R.map_bind, R.map_none, R.map_some, R.wr64_eq]
theorem impl_shared_1.ok (k : Nat) : impl_shared_1.tw.Ok Try.prog k := by
  intro md hmd a r h
  refine fn_ok (H := xhn) (fh := impl_shared_1.fh) (O := impl_shared_1.O) (k := k) Try.func128 (by kernel_rfl) (by kernel_rfl) (fun j _ => (Tw.orc_sound slices_Contains_int_int.dok (slices_Contains_int_int.ok j) (fun _ => rfl) noO_sound)) (by kernel_rfl) (m := 1) rfl ?_
  refine (impl_shared_1.sf k a.1 a.2).trans ?_
  exact congrArg (Option.map _) h
def slices_IndexFunc_int_int.l0 : Nat → (List Int) → Int → Int → (List Int) → Option (Int)
  | 0, _, _, _, _ => none
  | k + 1, x0, x7, x8, y0_0 => (if x8 < x7 then (if 0 ≤ x8 then (if x8 < (x0.length : Int) then ((impl_shared_1.f k (rdI x0 x8) y0_0).bind fun t1 => (if t1 = true then (some x8) else (slices_IndexFunc_int_int.l0 k x0 x7 (wrap64 (x8 + 1)) y0_0))) else none) else none) else (some (-1)))
def slices_IndexFunc_int_int.f (k : Nat) (l0 : List Int) (l2_0 : List Int) : Option (Int) := (slices_IndexFunc_int_int.l0 k l0 (l0.length : Int) 0 l2_0)
def slices_IndexFunc_int_int.en (l2_0 : List Int) (r : Int) : Res := (.int .i64 r, [.box true [.imm (.I .i64 l2_0)]])
def slices_IndexFunc_int_int.dec : List AV → List R.Obj → Option ((List Int) × (List Int))
  | [.imm (.I .i64 l0), .clo 128 [.ptr 0 0]], [.box true [.imm (.I .i64 l2_0)]] => some (l0, l2_0)
  | _, _ => none
def slices_IndexFunc_int_int.tw : Tw := ⟨143, (List Int) × (List Int), Int, slices_IndexFunc_int_int.dec, fun a => [.imm (.I .i64 a.1), .clo 128 [.ptr 0 0]], fun a => [.box true [.imm (.I .i64 a.2)]], fun k a => slices_IndexFunc_int_int.f k a.1 a.2, fun a r => slices_IndexFunc_int_int.en a.2 r, true⟩
theorem slices_IndexFunc_int_int.dok : slices_IndexFunc_int_int.tw.DecOk := by
  intro args hc a h
  have h : slices_IndexFunc_int_int.dec args hc = some a := h
  unfold slices_IndexFunc_int_int.dec at h
  split at h
  · cases h; exact ⟨rfl, rfl⟩
  · cases h
noncomputable def slices_IndexFunc_int_int.O (k : Nat) : Oracle := (impl_shared_1.tw.orc k noO)
def slices_IndexFunc_int_int.fh : FH := ⟨fun i => match i with | 2 => some [(0, 0), (1, 0), (7, 0), (8, 0)] | _ => none, [], false⟩
noncomputable def slices_IndexFunc_int_int.x0 (k : Nat) (x0 : List Int) (x7 : Int) (x8 : Int) (y0_0 : List Int) : Option Res := R.exec Try.prog xhn slices_IndexFunc_int_int.O 1 Try.f143 slices_IndexFunc_int_int.fh k (R.point Try.f143 2) ⟨[(0, .imm (.I .i64 x0)), (1, .clo 128 [.ptr 0 0]), (7, .int .i64 x7), (8, .int .i64 x8)], [(0, .box true [.imm (.I .i64 y0_0)])], 3⟩
set_option maxRecDepth 100000 in
theorem slices_IndexFunc_int_int.e0 (k : Nat) (x0 : List Int) (x7 : Int) (x8 : Int) (y0_0 : List Int) : slices_IndexFunc_int_int.x0 (k + 1) x0 x7 x8 y0_0 = (if x8 < x7 then (if 0 ≤ x8 then (if x8 < (x0.length : Int) then ((impl_shared_1.f k (rdI x0 x8) y0_0).bind fun t1 => (if t1 = true then (some (slices_IndexFunc_int_int.en y0_0 x8)) else (slices_IndexFunc_int_int.x0 k x0 x7 (wr64 (x8 + 1)) y0_0))) else none) else none) else (some (slices_IndexFunc_int_int.en y0_0 (-1)))) := by kernel_rfl
set_option maxRecDepth 100000 in
theorem slices_IndexFunc_int_int.ef (k : Nat) (l0 : List Int) (l2_0 : List Int) : R.start Try.prog xhn slices_IndexFunc_int_int.O 1 Try.f143 slices_IndexFunc_int_int.fh k [.imm (.I .i64 l0), .clo 128 [.ptr 0 0]] [.box true [.imm (.I .i64 l2_0)]] = (slices_IndexFunc_int_int.x0 k l0 (l0.length : Int) 0 l2_0) := by kernel_rfl
theorem slices_IndexFunc_int_int.link : ∀ k, (∀ (x0 : List Int) (x7 : Int) (x8 : Int) (y0_0 : List Int), slices_IndexFunc_int_int.x0 k x0 x7 x8 y0_0 = (slices_IndexFunc_int_int.l0 k x0 x7 x8 y0_0).map (slices_IndexFunc_int_int.en y0_0))
  | 0 => fun _ _ _ _ => by simp only [slices_IndexFunc_int_int.l0, R.map_none]; rfl
  | k + 1 => by
    have ih0 := slices_IndexFunc_int_int.link k
    · intro x0 x7 x8 y0_0
      rw [slices_IndexFunc_int_int.e0]
      simp only [slices_IndexFunc_int_int.l0, R.map_ite, R.map_bind, R.map_none, R.map_some, R.wr64_eq, ← ih0]
theorem slices_IndexFunc_int_int.sf (k : Nat) (l0 : List Int) (l2_0 : List Int) : R.start Try.prog xhn slices_IndexFunc_int_int.O 1 Try.f143 slices_IndexFunc_int_int.fh k [.imm (.I .i64 l0), .clo 128 [.ptr 0 0]] [.box true [.imm (.I .i64 l2_0)]] = (slices_IndexFunc_int_int.f k l0 l2_0).map (slices_IndexFunc_int_int.en l2_0) := by
  have ih0 := slices_IndexFunc_int_int.link k
  rw [slices_IndexFunc_int_int.ef]
  simp only [slices_IndexFunc_int_int.f, R.map_ite, R.map_bind, R.map_none, R.map_some, R.wr64_eq, ← ih0]
theorem slices_IndexFunc_int_int.ok (k : Nat) : slices_IndexFunc_int_int.tw.Ok Try.prog k := by
  intro md hmd a r h
  refine fn_ok (H := xhn) (fh := slices_IndexFunc_int_int.fh) (O := slices_IndexFunc_int_int.O) (k := k) Try.func143 (by kernel_rfl) (by kernel_rfl) (fun j _ => (Tw.orc_sound impl_shared_1.dok (impl_shared_1.ok j) (fun _ => rfl) noO_sound)) (by kernel_rfl) (m := 1) rfl ?_
  refine (slices_IndexFunc_int_int.sf k a.1 a.2).trans ?_
  exact congrArg (Option.map _) h
def slices_ContainsFunc_int_int.f (k : Nat) (l0 : List Int) (l2_0 : List Int) : Option (Bool) := ((slices_IndexFunc_int_int.f k l0 l2_0).bind fun t1 => (some (decide (t1 ≥ 0))))
def slices_ContainsFunc_int_int.en (l2_0 : List Int) (r : Bool) : Res := (.lit r, [.box true [.imm (.I .i64 l2_0)]])
def slices_ContainsFunc_int_int.dec : List AV → List R.Obj → Option ((List Int) × (List Int))
  | [.imm (.I .i64 l0), .clo 128 [.ptr 0 0]], [.box true [.imm (.I .i64 l2_0)]] => some (l0, l2_0)
  | _, _ => none
def slices_ContainsFunc_int_int.tw : Tw := ⟨127, (List Int) × (List Int), Bool, slices_ContainsFunc_int_int.dec, fun a => [.imm (.I .i64 a.1), .clo 128 [.ptr 0 0]], fun a => [.box true [.imm (.I .i64 a.2)]], fun k a => slices_ContainsFunc_int_int.f k a.1 a.2, fun a r => slices_ContainsFunc_int_int.en a.2 r, true⟩
theorem slices_ContainsFunc_int_int.dok : slices_ContainsFunc_int_int.tw.DecOk := by
  intro args hc a h
  have h : slices_ContainsFunc_int_int.dec args hc = some a := h
  unfold slices_ContainsFunc_int_int.dec at h
  split at h
  · cases h; exact ⟨rfl, rfl⟩
  · cases h
noncomputable def slices_ContainsFunc_int_int.O (k : Nat) : Oracle := (slices_IndexFunc_int_int.tw.orc k noO)
def slices_ContainsFunc_int_int.fh : FH := ⟨fun i => match i with | _ => none, [], false⟩
set_option maxRecDepth 100000 in
theorem slices_ContainsFunc_int_int.ef (k : Nat) (l0 : List Int) (l2_0 : List Int) : R.start Try.prog xhn slices_ContainsFunc_int_int.O 1 Try.f127 slices_ContainsFunc_int_int.fh k [.imm (.I .i64 l0), .clo 128 [.ptr 0 0]] [.box true [.imm (.I .i64 l2_0)]] = ((slices_IndexFunc_int_int.f k l0 l2_0).bind fun t1 => (some (slices_ContainsFunc_int_int.en l2_0 (decide (t1 ≥ 0))))) := by kernel_rfl
theorem slices_ContainsFunc_int_int.sf (k : Nat) (l0 : List Int) (l2_0 : List Int) : R.start Try.prog xhn slices_ContainsFunc_int_int.O 1 Try.f127 slices_ContainsFunc_int_int.fh k [.imm (.I .i64 l0), .clo 128 [.ptr 0 0]] [.box true [.imm (.I .i64 l2_0)]] = (slices_ContainsFunc_int_int.f k l0 l2_0).map (slices_ContainsFunc_int_int.en l2_0) := by
  rw [slices_ContainsFunc_int_int.ef]
  simp only [slices_ContainsFunc_int_int.f, R.map_ite, R.map_bind, R.map_none, R.map_some, R.wr64_eq]
theorem slices_ContainsFunc_int_int.ok (k : Nat) : slices_ContainsFunc_int_int.tw.Ok Try.prog k := by
  intro md hmd a r h
  refine fn_ok (H := xhn) (fh := slices_ContainsFunc_int_int.fh) (O := slices_ContainsFunc_int_int.O) (k := k) Try.func127 (by kernel_rfl) (by kernel_rfl) (fun j _ => (Tw.orc_sound slices_IndexFunc_int_int.dok (slices_IndexFunc_int_int.ok j) (fun _ => rfl) noO_sound)) (by kernel_rfl) (m := 1) rfl ?_
  refine (slices_ContainsFunc_int_int.sf k a.1 a.2).trans ?_
  exact congrArg (Option.map _) h
def impl_shared.f (k : Nat) (l0 : List Int) (l1 : List Int) : Option (Bool) := ((slices_ContainsFunc_int_int.f k l0 l1).bind fun t1 => (some t1))
def impl_shared.en (r : Bool) : Res := (.lit r, [])
def impl_shared.dec : List AV → List R.Obj → Option ((List Int) × (List Int))
  | [.imm (.I .i64 l0), .imm (.I .i64 l1)], [] => some (l0, l1)
  | _, _ => none
def impl_shared.tw : Tw := ⟨91, (List Int) × (List Int), Bool, impl_shared.dec, fun a => [.imm (.I .i64 a.1), .imm (.I .i64 a.2)], fun a => [], fun k a => impl_shared.f k a.1 a.2, fun a r => impl_shared.en r, true⟩
theorem impl_shared.dok : impl_shared.tw.DecOk := by
  intro args hc a h
  have h : impl_shared.dec args hc = some a := h
  unfold impl_shared.dec at h
  split at h
  · cases h; exact ⟨rfl, rfl⟩
  · cases h
noncomputable def impl_shared.O (k : Nat) : Oracle := (slices_ContainsFunc_int_int.tw.orc k noO)
def impl_shared.fh : FH := ⟨fun i => match i with | _ => none, [], false⟩
set_option maxRecDepth 100000 in
theorem impl_shared.ef (k : Nat) (l0 : List Int) (l1 : List Int) : R.start Try.prog xhn impl_shared.O 0 Try.f91 impl_shared.fh k [.imm (.I .i64 l0), .imm (.I .i64 l1)] [] = ((slices_ContainsFunc_int_int.f k l0 l1).bind fun t1 => (some (impl_shared.en t1))) := by kernel_rfl
theorem impl_shared.sf (k : Nat) (l0 : List Int) (l1 : List Int) : R.start Try.prog xhn impl_shared.O 0 Try.f91 impl_shared.fh k [.imm (.I .i64 l0), .imm (.I .i64 l1)] [] = (impl_shared.f k l0 l1).map (impl_shared.en) := by
  rw [impl_shared.ef]
  simp only [impl_shared.f, R.map_ite, R.map_bind, R.map_none, R.map_some, R.wr64_eq]
theorem impl_shared.ok (k : Nat) : impl_shared.tw.Ok Try.prog k := by
  intro md hmd a r h
  refine fn_ok (H := xhn) (fh := impl_shared.fh) (O := impl_shared.O) (k := k) Try.func91 (by kernel_rfl) (by kernel_rfl) (fun j _ => (Tw.orc_sound slices_ContainsFunc_int_int.dok (slices_ContainsFunc_int_int.ok j) (fun _ => rfl) noO_sound)) (by kernel_rfl) (m := 0) rfl ?_
  refine (impl_shared.sf k a.1 a.2).trans ?_
  exact congrArg (Option.map _) h
def slices_Clone_impl_Step_impl_Step.f (l0 : List Stp) : Option (List Stp) := if l0.length ≤ 1000000000 then some l0 else none
def slices_Clone_impl_Step_impl_Step.dec : List AV → List R.Obj → Option (List Stp)
  | [.imm (.T l0)], [] => some l0
  | _, _ => none
def slices_Clone_impl_Step_impl_Step.tw : Tw := ⟨115, List Stp, List Stp, slices_Clone_impl_Step_impl_Step.dec, fun a => [.imm (.T a)], fun a => [], fun k a => slices_Clone_impl_Step_impl_Step.f a, fun a r => (.sl 0 0, [.arr 67 0 (.T r) false]), false⟩
theorem slices_Clone_impl_Step_impl_Step.dok : slices_Clone_impl_Step_impl_Step.tw.DecOk := by
  intro args hc a h
  have h : slices_Clone_impl_Step_impl_Step.dec args hc = some a := h
  unfold slices_Clone_impl_Step_impl_Step.dec at h
  split at h
  · cases h; exact ⟨rfl, rfl⟩
  · cases h
theorem slices_Clone_impl_Step_impl_Step.ok (k : Nat) : slices_Clone_impl_Step_impl_Step.tw.Ok Try.prog k := by
  intro md hmd l0 r h
  have h : slices_Clone_impl_Step_impl_Step.f l0 = some r := h
  unfold slices_Clone_impl_Step_impl_Step.f at h
  split at h
  case isFalse => cases h
  rename_i hl
  obtain rfl := Option.some.inj h
  obtain ⟨i0, hi⟩ : ∃ i0, Try.prog.info? 67 = some i0 := Option.isSome_iff_exists.1 (by kernel_rfl)
  have h4 : (Try.prog.info? 67).bind (fun i => i.zero.map fun z => (i.size, i.bytes, z.cells.size)) = some (4, 40, 4) := by kernel_rfl
  rw [hi] at h4
  obtain ⟨z, hz0, hzz⟩ := Option.map_eq_some_iff.1 (show i0.zero.map (fun z => (i0.size, i0.bytes, z.cells.size)) = some (4, 40, 4) from h4)
  simp only [Prod.mk.injEq] at hzz
  obtain ⟨hz1, hz2, hzs⟩ := hzz
  refine ⟨callable_of Try.func115 (by kernel_rfl) (by kernel_rfl), fun w M I vs E => ?_⟩
  have hl' : (Ct.T l0).len ≤ 1000000000 := hl
  refine clone_leaves (c := .T l0) rfl E (fun b off cap news n1 n2 n3 => ?_) (fun n cap => Go.Proofs.AnyE.slices_Clone_nil Try.layCloneT n cap w) (fun ad cap => R.clone_zero Try.layCloneT i0 z 4 40 hi hz0 hz1 hz2 hzs (by decide) Try.sizeOf67 ad cap w) (fun q => Bool.noConfusion (show false = true from hmd q))
  exact Go.Proofs.AnyE.slices_Clone Try.layCloneT i0 z 4 40 hi hz0 hz1 hz2 hzs (by decide) Try.sizeOf67 b off _ cap news w n1 (by unfold maxLen; omega) (by omega) n2 n3
def slices_Sort_int_int.f (l0 : List Int) : Option (List Int) := if l0.length ≤ 1000000000 then some (R.sortI l0) else none
def slices_Sort_int_int.dec : List AV → List R.Obj → Option (List Int)
  | [.sl 0 0], [.arr 3 0 (.I .i64 l0) false] => some l0
  | _, _ => none
def slices_Sort_int_int.tw : Tw := ⟨116, List Int, List Int, slices_Sort_int_int.dec, fun a => [.sl 0 0], fun a => [.arr 3 0 (.I .i64 a) false], fun k a => slices_Sort_int_int.f a, fun a r => (.tup [], [.arr 3 0 (.I .i64 r) false]), false⟩
theorem slices_Sort_int_int.dok : slices_Sort_int_int.tw.DecOk := by
  intro args hc a h
  have h : slices_Sort_int_int.dec args hc = some a := h
  unfold slices_Sort_int_int.dec at h
  split at h
  · cases h; exact ⟨rfl, rfl⟩
  · cases h
theorem slices_Sort_int_int.ok (k : Nat) : slices_Sort_int_int.tw.Ok Try.prog k := by
  intro md hmd l0 r h
  have h : slices_Sort_int_int.f l0 = some r := h
  unfold slices_Sort_int_int.f at h
  split at h
  case isFalse => cases h
  rename_i hl
  obtain rfl := Option.some.inj h
  refine ⟨callable_of Try.func116 (by kernel_rfl) (by kernel_rfl), fun w M I vs E => ?_⟩
  exact sortI_leaves E (fun blk cap hH hb => Go.Proofs.AnyM.slices_Sort_int Try.laySortI blk 0 cap l0 w hH hb (by omega)) (Go.Proofs.AnyM.slices_Sort_int_none Try.laySortI none 0 w)
def slices_SortFunc_impl_Step_impl_Step.f (l0 : List Stp) : Option (List Stp) := if l0.length ≤ 1000000000 then some (R.sortT l0) else none
def slices_SortFunc_impl_Step_impl_Step.dec : List AV → List R.Obj → Option (List Stp)
  | [.sl 0 0, .clo 88 []], [.arr 67 0 (.T l0) false] => some l0
  | _, _ => none
def slices_SortFunc_impl_Step_impl_Step.tw : Tw := ⟨117, List Stp, List Stp, slices_SortFunc_impl_Step_impl_Step.dec, fun a => [.sl 0 0, .clo 88 []], fun a => [.arr 67 0 (.T a) false], fun k a => slices_SortFunc_impl_Step_impl_Step.f a, fun a r => (.tup [], [.arr 67 0 (.T r) false]), false⟩
theorem slices_SortFunc_impl_Step_impl_Step.dok : slices_SortFunc_impl_Step_impl_Step.tw.DecOk := by
  intro args hc a h
  have h : slices_SortFunc_impl_Step_impl_Step.dec args hc = some a := h
  unfold slices_SortFunc_impl_Step_impl_Step.dec at h
  split at h
  · cases h; exact ⟨rfl, rfl⟩
  · cases h
theorem impl_stepOrder.cmp (x y : Stp) : impl_stepOrder.f 4 x.f0 x.f1 x.f2 x.f3 y.f0 y.f1 y.f2 y.f3 = some (R.ordT x y) := by
  have c1 : ∀ a b : Int, cmp_Compare_int.f a b = some (R.cmpI a b) := fun a b => by
    unfold cmp_Compare_int.f cmp_isNaN_int.f R.cmpI
    simp only [decide_true, Bool.not_true, Option.bind_some, Bool.false_eq_true, if_false]
    by_cases h : a < b
    · rw [if_pos h, if_pos h]
    · rw [if_neg h, if_neg h]; by_cases h2 : a > b
      · rw [if_pos h2, if_pos h2]
      · rw [if_neg h2, if_neg h2]
  have w1 : wrap64 ((0 : Int) + 1) = 1 := by unfold wrap64; decide
  have w2 : wrap64 ((1 : Int) + 1) = 2 := by unfold wrap64; decide
  have w3 : wrap64 ((2 : Int) + 1) = 3 := by unfold wrap64; decide
  have c2 : ∀ a b c : Int, cmp_Or_int.f 4 [a, b, c] = some (if a = 0 then (if b = 0 then c else b) else a) := fun a b c => by
    unfold cmp_Or_int.f
    have r0 : rdI [a, b, c] 0 = a := rfl
    have r1 : rdI [a, b, c] 1 = b := rfl
    have r2 : rdI [a, b, c] 2 = c := rfl
    simp only [cmp_Or_int.l0, List.length_cons, List.length_nil, r0, r1, r2, w1, w2, w3]
    by_cases h0 : a = 0
    · by_cases h1 : b = 0
      · by_cases h2 : c = 0
        · simp [h0, h1, h2, r1, r2, w1, w2, w3]
        · simp [h0, h1, h2, r1, r2, w1, w2, w3]
      · simp [h0, h1, r1, r2, w1, w2, w3]
    · simp [h0]
  unfold impl_stepOrder.f strings_Compare.f bytealg_CompareString.f
  simp only [c1, Option.bind_some, c2]
  rfl
theorem slices_SortFunc_impl_Step_impl_Step.ok (k : Nat) : slices_SortFunc_impl_Step_impl_Step.tw.Ok Try.prog k := by
  intro md hmd l0 r h
  have h : slices_SortFunc_impl_Step_impl_Step.f l0 = some r := h
  unfold slices_SortFunc_impl_Step_impl_Step.f at h
  split at h
  case isFalse => cases h
  rename_i hl
  obtain rfl := Option.some.inj h
  refine ⟨callable_of Try.func117 (by kernel_rfl) (by kernel_rfl), fun w M I vs E => ?_⟩
  have eg : ∀ args w, (callFunc 88 args).run Try.prog w = .ok (.enter 88 args) w := enters_of Try.func88 (by kernel_rfl) rfl
  have hcmp : ∀ x y : Stp, CallSpec true Try.prog 88 [.agg [.int .i64 x.f0, .str x.f1, .int .i64 x.f2, .int .i64 x.f3], .agg [.int .i64 y.f0, .str y.f1, .int .i64 y.f2, .int .i64 y.f3]] [] (.int .i64 (R.ordT x y)) [] := fun x y =>
    impl_stepOrder.ok 4 true (fun _ => rfl) (x.f0, x.f1, x.f2, x.f3, y.f0, y.f1, y.f2, y.f3) (R.ordT x y) (impl_stepOrder.cmp x y)
  refine sortT_leaves E (fun blk cap hH hb => ?_) (Go.Proofs.AnyF.slices_SortFunc_none Try.laySortT none 0 _ w)
  exact Go.Proofs.AnyQ.slices_SortFunc_eq Try.laySortT 4 Try.isAgg67 Try.sizeOf67 R.encT (fun _ => rfl) (fun x v hv => by
    simp only [R.encT, List.mem_cons, List.not_mem_nil, or_false] at hv
    rcases hv with rfl | rfl | rfl | rfl <;> rfl) R.ordT R.swoT 88 #[] blk 0 cap l0.toArray w eg (R.cmpLays_of hcmp blk 0 _ w) hH hb (by have q : l0.length ≤ 1000000000 := hl; show List.length l0 < _; omega)
def impl_made.f (k : Nat) (a0 : Int) (l1 : List Int) (l2 : List Int) (l3 : List Stp) : Option (Int × (List Int) × (List Int) × (List Stp) × Bool) := ((slices_Clone_int_int.f l1).bind fun t1 => ((slices_Clone_int_int.f l2).bind fun t2 => ((slices_Clone_impl_Step_impl_Step.f l3).bind fun t3 => ((slices_Sort_int_int.f t1).bind fun t4 => ((slices_Sort_int_int.f t2).bind fun t5 => ((slices_SortFunc_impl_Step_impl_Step.f t3).bind fun t6 => ((impl_AutomatonValid.f k a0 t4 t5 t6).bind fun t7 => (if t7 = true then (some (a0, t4, t5, t6, true)) else (some (0, ([] : List Int), ([] : List Int), ([] : List Stp), false))))))))))
def impl_made.en (r : Int × (List Int) × (List Int) × (List Stp) × Bool) : Res := (.tup [.agg [.int .i64 r.1, .sl 0 0, .sl 1 0, .sl 2 0], .lit r.2.2.2.2], [.arr 3 0 (.I .i64 r.2.1) false, .arr 3 0 (.I .i64 r.2.2.1) false, .arr 67 0 (.T r.2.2.2.1) false])
def impl_made.dec : List AV → List R.Obj → Option (Int × (List Int) × (List Int) × (List Stp))
  | [.int .i64 a0, .imm (.I .i64 l1), .imm (.I .i64 l2), .imm (.T l3)], [] => some (a0, l1, l2, l3)
  | _, _ => none
def impl_made.tw : Tw := ⟨63, Int × (List Int) × (List Int) × (List Stp), Int × (List Int) × (List Int) × (List Stp) × Bool, impl_made.dec, fun a => [.int .i64 a.1, .imm (.I .i64 a.2.1), .imm (.I .i64 a.2.2.1), .imm (.T a.2.2.2)], fun a => [], fun k a => impl_made.f k a.1 a.2.1 a.2.2.1 a.2.2.2, fun a r => impl_made.en r, false⟩
theorem impl_made.dok : impl_made.tw.DecOk := by
  intro args hc a h
  have h : impl_made.dec args hc = some a := h
  unfold impl_made.dec at h
  split at h
  · cases h; exact ⟨rfl, rfl⟩
  · cases h
noncomputable def impl_made.O (k : Nat) : Oracle := (slices_Clone_int_int.tw.orc k (slices_Clone_impl_Step_impl_Step.tw.orc k (slices_Sort_int_int.tw.orc k (slices_SortFunc_impl_Step_impl_Step.tw.orc k (impl_AutomatonValid.tw.orc k noO)))))
def impl_made.fh : FH := ⟨fun i => match i with | _ => none, [(true, 3), (true, 3), (true, 67)], false⟩
set_option maxRecDepth 100000 in
theorem impl_made.ef (k : Nat) (a0 : Int) (l1 : List Int) (l2 : List Int) (l3 : List Stp) : R.start Try.prog xhn impl_made.O 0 Try.f63 impl_made.fh k [.int .i64 a0, .imm (.I .i64 l1), .imm (.I .i64 l2), .imm (.T l3)] [] = ((slices_Clone_int_int.f l1).bind fun t1 => ((slices_Clone_int_int.f l2).bind fun t2 => ((slices_Clone_impl_Step_impl_Step.f l3).bind fun t3 => ((slices_Sort_int_int.f t1).bind fun t4 => ((slices_Sort_int_int.f t2).bind fun t5 => ((slices_SortFunc_impl_Step_impl_Step.f t3).bind fun t6 => ((impl_AutomatonValid.f k a0 t4 t5 t6).bind fun t7 => (if t7 = true then (some (impl_made.en (a0, t4, t5, t6, true))) else (some (impl_made.en (0, ([] : List Int), ([] : List Int), ([] : List Stp), false))))))))))) := by kernel_rfl
theorem impl_made.sf (k : Nat) (a0 : Int) (l1 : List Int) (l2 : List Int) (l3 : List Stp) : R.start Try.prog xhn impl_made.O 0 Try.f63 impl_made.fh k [.int .i64 a0, .imm (.I .i64 l1), .imm (.I .i64 l2), .imm (.T l3)] [] = (impl_made.f k a0 l1 l2 l3).map (impl_made.en) := by
  rw [impl_made.ef]
  simp only [impl_made.f, R.map_ite, R.map_bind, R.map_none, R.map_some, R.wr64_eq]
theorem impl_made.ok (k : Nat) : impl_made.tw.Ok Try.prog k := by
  intro md hmd a r h
  refine fn_ok (H := xhn) (fh := impl_made.fh) (O := impl_made.O) (k := k) Try.func63 (by kernel_rfl) (by kernel_rfl) (fun j _ => (Tw.orc_sound slices_Clone_int_int.dok (slices_Clone_int_int.ok j) (fun q => Bool.noConfusion (show false = true from hmd q)) (Tw.orc_sound slices_Clone_impl_Step_impl_Step.dok (slices_Clone_impl_Step_impl_Step.ok j) (fun q => Bool.noConfusion (show false = true from hmd q)) (Tw.orc_sound slices_Sort_int_int.dok (slices_Sort_int_int.ok j) (fun q => Bool.noConfusion (show false = true from hmd q)) (Tw.orc_sound slices_SortFunc_impl_Step_impl_Step.dok (slices_SortFunc_impl_Step_impl_Step.ok j) (fun q => Bool.noConfusion (show false = true from hmd q)) (Tw.orc_sound impl_AutomatonValid.dok (impl_AutomatonValid.ok j) (fun _ => rfl) noO_sound)))))) (by kernel_rfl) (m := 0) rfl ?_
  refine (impl_made.sf k a.1 a.2.1 a.2.2.1 a.2.2.2).trans ?_
  exact congrArg (Option.map _) h
def impl_ChainAutomaton_1.l0 : Nat → (List Stp) → Int → Int → Int → ByteArray → Int → Int → Option (List Stp)
  | 0, _, _, _, _, _, _, _ => none
  | k + 1, y1, x6, x7, y2_0, y2_1, y2_2, y2_3 => (if x7 < x6 then (if 0 ≤ x7 then (if x7 < (y1.length : Int) then ((impl_stepOrder.f k ((rdT y1 x7).f0) ((rdT y1 x7).f1) ((rdT y1 x7).f2) ((rdT y1 x7).f3) y2_0 y2_1 y2_2 y2_3).bind fun t1 => (if t1 = 0 then (some (y1.set x7.toNat (⟨(rdT y1 x7).f0, (rdT y1 x7).f1, (rdT y1 x7).f2, (mn (rdT y1 x7).f3 y2_3)⟩ : Stp))) else (impl_ChainAutomaton_1.l0 k y1 x6 (wrap64 (x7 + 1)) y2_0 y2_1 y2_2 y2_3))) else none) else none) else (if y1.length < 3518437208883 then (some (y1 ++ [(⟨y2_0, y2_1, y2_2, y2_3⟩ : Stp)])) else none))
def impl_ChainAutomaton_1.f (k : Nat) (a0_0 : Int) (a0_1 : ByteArray) (a0_2 : Int) (a0_3 : Int) (l3 : List Stp) : Option (List Stp) := (impl_ChainAutomaton_1.l0 k l3 (l3.length : Int) 0 a0_0 a0_1 a0_2 a0_3)
def impl_ChainAutomaton_1.en (r : List Stp) : Res := (.tup [], [.box false [.sl 1 1], .arr 67 1 (.T r) false])
def impl_ChainAutomaton_1.dec : List AV → List R.Obj → Option (Int × ByteArray × Int × Int × (List Stp))
  | [.agg [.int .i64 a0_0, .str a0_1, .int .i64 a0_2, .int .i64 a0_3], .ptr 0 0], [.box false [.sl 1 0], .arr 67 0 (.T l3) false] => some (a0_0, a0_1, a0_2, a0_3, l3)
  | _, _ => none
def impl_ChainAutomaton_1.tw : Tw := ⟨87, Int × ByteArray × Int × Int × (List Stp), List Stp, impl_ChainAutomaton_1.dec, fun a => [.agg [.int .i64 a.1, .str a.2.1, .int .i64 a.2.2.1, .int .i64 a.2.2.2.1], .ptr 0 0], fun a => [.box false [.sl 1 0], .arr 67 0 (.T a.2.2.2.2) false], fun k a => impl_ChainAutomaton_1.f k a.1 a.2.1 a.2.2.1 a.2.2.2.1 a.2.2.2.2, fun a r => impl_ChainAutomaton_1.en r, true⟩
theorem impl_ChainAutomaton_1.dok : impl_ChainAutomaton_1.tw.DecOk := by
  intro args hc a h
  have h : impl_ChainAutomaton_1.dec args hc = some a := h
  unfold impl_ChainAutomaton_1.dec at h
  split at h
  · cases h; exact ⟨rfl, rfl⟩
  · cases h
noncomputable def impl_ChainAutomaton_1.O (k : Nat) : Oracle := (impl_stepOrder.tw.orc k noO)
def impl_ChainAutomaton_1.fh : FH := ⟨fun i => match i with | 2 => some [(1, 0), (2, 0), (5, 0), (6, 0), (7, 0)] | _ => none, [], true⟩
noncomputable def impl_ChainAutomaton_1.x0 (k : Nat) (y1 : List Stp) (x6 : Int) (x7 : Int) (y2_0 : Int) (y2_1 : ByteArray) (y2_2 : Int) (y2_3 : Int) : Option Res := R.exec Try.prog xhn impl_ChainAutomaton_1.O 2 Try.f87 impl_ChainAutomaton_1.fh k (R.point Try.f87 2) ⟨[(1, .ptr 0 0), (2, .ptr 2 0), (5, .sl 1 1), (6, .int .i64 x6), (7, .int .i64 x7)], [(0, .box false [.sl 1 1]), (1, .arr 67 1 (.T y1) false), (2, .box false [.int .i64 y2_0, .str y2_1, .int .i64 y2_2, .int .i64 y2_3])], 5⟩
set_option maxRecDepth 100000 in
theorem impl_ChainAutomaton_1.e0 (k : Nat) (y1 : List Stp) (x6 : Int) (x7 : Int) (y2_0 : Int) (y2_1 : ByteArray) (y2_2 : Int) (y2_3 : Int) : impl_ChainAutomaton_1.x0 (k + 1) y1 x6 x7 y2_0 y2_1 y2_2 y2_3 = (if x7 < x6 then (if 0 ≤ x7 then (if x7 < (y1.length : Int) then ((impl_stepOrder.f k ((rdT y1 x7).f0) ((rdT y1 x7).f1) ((rdT y1 x7).f2) ((rdT y1 x7).f3) y2_0 y2_1 y2_2 y2_3).bind fun t1 => (if t1 = 0 then (some (impl_ChainAutomaton_1.en (y1.set x7.toNat (⟨(rdT y1 x7).f0, (rdT y1 x7).f1, (rdT y1 x7).f2, (mn (rdT y1 x7).f3 y2_3)⟩ : Stp)))) else (impl_ChainAutomaton_1.x0 k y1 x6 (wr64 (x7 + 1)) y2_0 y2_1 y2_2 y2_3))) else none) else none) else (if y1.length < 3518437208883 then (some (impl_ChainAutomaton_1.en (y1 ++ [(⟨y2_0, y2_1, y2_2, y2_3⟩ : Stp)]))) else none)) := by
  refine Eq.trans ?_ (R.icong (fun h0 => (R.icong (fun h1 => (R.icong (fun h2 => (R.bcong fun t1 => (R.icong (fun h3 => (R.idropT (p := 0 ≤ x7) (z := none) h1 (R.idropT (p := x7 < (y1.length : Int)) (z := none) h2 rfl))) (fun h3 => rfl)))) (fun h2 => rfl))) (fun h1 => rfl))) (fun h0 => rfl))
  kernel_rfl
set_option maxRecDepth 100000 in
theorem impl_ChainAutomaton_1.ef (k : Nat) (a0_0 : Int) (a0_1 : ByteArray) (a0_2 : Int) (a0_3 : Int) (l3 : List Stp) : R.start Try.prog xhn impl_ChainAutomaton_1.O 2 Try.f87 impl_ChainAutomaton_1.fh k [.agg [.int .i64 a0_0, .str a0_1, .int .i64 a0_2, .int .i64 a0_3], .ptr 0 0] [.box false [.sl 1 0], .arr 67 0 (.T l3) false] = (impl_ChainAutomaton_1.x0 k l3 (l3.length : Int) 0 a0_0 a0_1 a0_2 a0_3) := by kernel_rfl
theorem impl_ChainAutomaton_1.link : ∀ k, (∀ (y1 : List Stp) (x6 : Int) (x7 : Int) (y2_0 : Int) (y2_1 : ByteArray) (y2_2 : Int) (y2_3 : Int), impl_ChainAutomaton_1.x0 k y1 x6 x7 y2_0 y2_1 y2_2 y2_3 = (impl_ChainAutomaton_1.l0 k y1 x6 x7 y2_0 y2_1 y2_2 y2_3).map (impl_ChainAutomaton_1.en))
  | 0 => fun _ _ _ _ _ _ _ => by simp only [impl_ChainAutomaton_1.l0, R.map_none]; rfl
  | k + 1 => by
    have ih0 := impl_ChainAutomaton_1.link k
    · intro y1 x6 x7 y2_0 y2_1 y2_2 y2_3
      rw [impl_ChainAutomaton_1.e0]
      simp only [impl_ChainAutomaton_1.l0, R.map_ite, R.map_bind, R.map_none, R.map_some, R.wr64_eq, ← ih0]
theorem impl_ChainAutomaton_1.sf (k : Nat) (a0_0 : Int) (a0_1 : ByteArray) (a0_2 : Int) (a0_3 : Int) (l3 : List Stp) : R.start Try.prog xhn impl_ChainAutomaton_1.O 2 Try.f87 impl_ChainAutomaton_1.fh k [.agg [.int .i64 a0_0, .str a0_1, .int .i64 a0_2, .int .i64 a0_3], .ptr 0 0] [.box false [.sl 1 0], .arr 67 0 (.T l3) false] = (impl_ChainAutomaton_1.f k a0_0 a0_1 a0_2 a0_3 l3).map (impl_ChainAutomaton_1.en) := by
  have ih0 := impl_ChainAutomaton_1.link k
  rw [impl_ChainAutomaton_1.ef]
  simp only [impl_ChainAutomaton_1.f, R.map_ite, R.map_bind, R.map_none, R.map_some, R.wr64_eq, ← ih0]
theorem impl_ChainAutomaton_1.ok (k : Nat) : impl_ChainAutomaton_1.tw.Ok Try.prog k := by
  intro md hmd a r h
  refine fn_ok (H := xhn) (fh := impl_ChainAutomaton_1.fh) (O := impl_ChainAutomaton_1.O) (k := k) Try.func87 (by kernel_rfl) (by kernel_rfl) (fun j _ => (Tw.orc_sound impl_stepOrder.dok (impl_stepOrder.ok j) (fun _ => rfl) noO_sound)) (by kernel_rfl) (m := 2) rfl ?_
  refine (impl_ChainAutomaton_1.sf k a.1 a.2.1 a.2.2.1 a.2.2.2.1 a.2.2.2.2).trans ?_
  exact congrArg (Option.map _) h
mutual
def impl_ChainAutomaton.l0 : Nat → Int → (List Stp) → Int → Int → Int → (List Int) → (List Int) → (List Stp) → Int → (List Int) → (List Int) → (List Stp) → (List Stp) → Option (Int × (List Int) × (List Int) × (List Stp) × Bool)
  | 0, _, _, _, _, _, _, _, _, _, _, _, _, _ => none
  | k + 1, x6, x35, x36, x37, y0_0, y0_1, y0_2, y0_3, y1_0, y1_1, y1_2, y1_3, y7 => (if x37 < x36 then (if 0 ≤ x37 then (if x37 < (x35.length : Int) then ((slices_Contains_int_int.f k y0_2 ((rdT x35 x37).f2)).bind fun t5 => (if t5 = true then (impl_ChainAutomaton.l1 k x6 x35 x36 x37 y1_1 (y1_1.length : Int) 0 y0_0 y0_1 y0_2 y0_3 y1_0 y1_1 y1_2 y1_3 y7 ((rdT x35 x37).f0) ((rdT x35 x37).f1) ((rdT x35 x37).f2) ((rdT x35 x37).f3)) else (impl_ChainAutomaton.l0 k x6 x35 x36 (wrap64 (x37 + 1)) y0_0 y0_1 y0_2 y0_3 y1_0 y1_1 y1_2 y1_3 y7))) else none) else none) else ((slices_Clone_int_int.f y0_1).bind fun t6 => ((impl_moved.f k y1_2 x6).bind fun t7 => ((impl_shared.f k y0_1 y0_2).bind fun t8 => (if t8 = true then ((impl_moved.f k y1_1 x6).bind fun t9 => (if t6.length + t9.length ≤ 17592186044416 then ((impl_shared.f k y1_1 y1_2).bind fun t10 => (if t10 = true then (if t7.length + y0_2.length ≤ 17592186044416 then ((impl_made.f k (wrap64 (x6 + y1_0)) (t6 ++ t9) (t7 ++ y0_2) y7).bind fun t11 => (some (t11.1, t11.2.1, t11.2.2.1, t11.2.2.2.1, t11.2.2.2.2))) else none) else ((impl_made.f k (wrap64 (x6 + y1_0)) (t6 ++ t9) t7 y7).bind fun t12 => (some (t12.1, t12.2.1, t12.2.2.1, t12.2.2.2.1, t12.2.2.2.2))))) else none)) else ((impl_shared.f k y1_1 y1_2).bind fun t13 => (if t13 = true then (if t7.length + y0_2.length ≤ 17592186044416 then ((impl_made.f k (wrap64 (x6 + y1_0)) t6 (t7 ++ y0_2) y7).bind fun t14 => (some (t14.1, t14.2.1, t14.2.2.1, t14.2.2.2.1, t14.2.2.2.2))) else none) else ((impl_made.f k (wrap64 (x6 + y1_0)) t6 t7 y7).bind fun t15 => (some (t15.1, t15.2.1, t15.2.2.1, t15.2.2.2.1, t15.2.2.2.2))))))))))
def impl_ChainAutomaton.l1 : Nat → Int → (List Stp) → Int → Int → (List Int) → Int → Int → Int → (List Int) → (List Int) → (List Stp) → Int → (List Int) → (List Int) → (List Stp) → (List Stp) → Int → ByteArray → Int → Int → Option (Int × (List Int) × (List Int) × (List Stp) × Bool)
  | 0, _, _, _, _, _, _, _, _, _, _, _, _, _, _, _, _, _, _, _, _ => none
  | k + 1, x6, x35, x36, x37, x47, x48, x49, y0_0, y0_1, y0_2, y0_3, y1_0, y1_1, y1_2, y1_3, y8, y4_0, y4_1, y4_2, y4_3 => (if x49 < x48 then (if 0 ≤ x49 then (if x49 < (x47.length : Int) then ((impl_ChainAutomaton_1.f k y4_0 y4_1 (wrap64 ((rdI x47 x49) + x6)) y4_3 y8).bind fun t16 => (impl_ChainAutomaton.l1 k x6 x35 x36 x37 x47 x48 (wrap64 (x49 + 1)) y0_0 y0_1 y0_2 y0_3 y1_0 y1_1 y1_2 y1_3 t16 y4_0 y4_1 y4_2 y4_3)) else none) else none) else (impl_ChainAutomaton.l0 k x6 x35 x36 (wrap64 (x37 + 1)) y0_0 y0_1 y0_2 y0_3 y1_0 y1_1 y1_2 y1_3 y8))
end
def impl_ChainAutomaton.f (k : Nat) (a0_0 : Int) (l0_1 : List Int) (l0_2 : List Int) (l0_3 : List Stp) (a1_0 : Int) (l1_1 : List Int) (l1_2 : List Int) (l1_3 : List Stp) : Option (Int × (List Int) × (List Int) × (List Stp) × Bool) := ((impl_AutomatonValid.f k a0_0 l0_1 l0_2 l0_3).bind fun t1 => (if t1 = true then ((impl_AutomatonValid.f k a1_0 l1_1 l1_2 l1_3).bind fun t2 => (if t2 = true then ((impl_behind.f k a1_0 l1_1 l1_2 l1_3 a0_0).bind fun t3 => ((slices_Concat_impl_Step_impl_Step.f k ([l0_3, t3])).bind fun t4 => (impl_ChainAutomaton.l0 k a0_0 l0_3 (l0_3.length : Int) 0 a0_0 l0_1 l0_2 l0_3 a1_0 l1_1 l1_2 l1_3 t4))) else (some (0, ([] : List Int), ([] : List Int), ([] : List Stp), false)))) else (some (0, ([] : List Int), ([] : List Int), ([] : List Stp), false))))
def impl_ChainAutomaton.en (r : Int × (List Int) × (List Int) × (List Stp) × Bool) : Res := (.tup [.agg [.int .i64 r.1, .sl 0 0, .sl 1 0, .sl 2 0], .lit r.2.2.2.2], [.arr 3 0 (.I .i64 r.2.1) false, .arr 3 0 (.I .i64 r.2.2.1) false, .arr 67 0 (.T r.2.2.2.1) false])
def impl_ChainAutomaton.dec : List AV → List R.Obj → Option (Int × (List Int) × (List Int) × (List Stp) × Int × (List Int) × (List Int) × (List Stp))
  | [.agg [.int .i64 a0_0, .imm (.I .i64 l0_1), .imm (.I .i64 l0_2), .imm (.T l0_3)], .agg [.int .i64 a1_0, .imm (.I .i64 l1_1), .imm (.I .i64 l1_2), .imm (.T l1_3)]], [] => some (a0_0, l0_1, l0_2, l0_3, a1_0, l1_1, l1_2, l1_3)
  | _, _ => none
def impl_ChainAutomaton.tw : Tw := ⟨31, Int × (List Int) × (List Int) × (List Stp) × Int × (List Int) × (List Int) × (List Stp), Int × (List Int) × (List Int) × (List Stp) × Bool, impl_ChainAutomaton.dec, fun a => [.agg [.int .i64 a.1, .imm (.I .i64 a.2.1), .imm (.I .i64 a.2.2.1), .imm (.T a.2.2.2.1)], .agg [.int .i64 a.2.2.2.2.1, .imm (.I .i64 a.2.2.2.2.2.1), .imm (.I .i64 a.2.2.2.2.2.2.1), .imm (.T a.2.2.2.2.2.2.2)]], fun a => [], fun k a => impl_ChainAutomaton.f k a.1 a.2.1 a.2.2.1 a.2.2.2.1 a.2.2.2.2.1 a.2.2.2.2.2.1 a.2.2.2.2.2.2.1 a.2.2.2.2.2.2.2, fun a r => impl_ChainAutomaton.en r, false⟩
theorem impl_ChainAutomaton.dok : impl_ChainAutomaton.tw.DecOk := by
  intro args hc a h
  have h : impl_ChainAutomaton.dec args hc = some a := h
  unfold impl_ChainAutomaton.dec at h
  split at h
  · cases h; exact ⟨rfl, rfl⟩
  · cases h
noncomputable def impl_ChainAutomaton.O (k : Nat) : Oracle := (impl_AutomatonValid.tw.orc k (impl_behind.tw.orc k (slices_Concat_impl_Step_impl_Step.tw.orc k (slices_Contains_int_int.tw.orc k (slices_Clone_int_int.tw.orc k (impl_moved.tw.orc k (impl_shared.tw.orc k (impl_made.tw.orc k (impl_ChainAutomaton_1.tw.orc k noO)))))))))
def impl_ChainAutomaton.fh : FH := ⟨fun i => match i with | 7 => some [(2, 0), (3, 0), (4, 0), (6, 0), (7, 0), (8, 0), (35, 0), (36, 0), (37, 0)] | 11 => some [(2, 0), (3, 0), (4, 0), (6, 0), (7, 0), (8, 0), (10, 0), (35, 0), (36, 0), (37, 0), (47, 0), (48, 0), (49, 0)] | _ => none, [(true, 3), (true, 3), (true, 67)], false⟩
noncomputable def impl_ChainAutomaton.x0 (k : Nat) (x6 : Int) (x35 : List Stp) (x36 : Int) (x37 : Int) (y0_0 : Int) (y0_1 : List Int) (y0_2 : List Int) (y0_3 : List Stp) (y1_0 : Int) (y1_1 : List Int) (y1_2 : List Int) (y1_3 : List Stp) (y7 : List Stp) : Option Res := R.exec Try.prog xhn impl_ChainAutomaton.O 0 Try.f31 impl_ChainAutomaton.fh k (R.point Try.f31 7) ⟨[(2, .ptr 0 0), (3, .ptr 1 0), (4, .ptr 2 0), (6, .int .i64 x6), (7, .ptr 3 0), (8, .clo 87 [.ptr 3 0]), (35, .imm (.T x35)), (36, .int .i64 x36), (37, .int .i64 x37)], [(0, .box false [.int .i64 y0_0, .imm (.I .i64 y0_1), .imm (.I .i64 y0_2), .imm (.T y0_3)]), (1, .box false [.int .i64 y1_0, .imm (.I .i64 y1_1), .imm (.I .i64 y1_2), .imm (.T y1_3)]), (2, .box false [.int .i64 0, .sl 4 0, .sl 5 0, .sl 6 0]), (3, .box false [.sl 7 0]), (4, .arr 3 0 (.I .i64 ([] : List Int)) false), (5, .arr 3 0 (.I .i64 ([] : List Int)) false), (6, .arr 67 0 (.T ([] : List Stp)) false), (7, .arr 67 0 (.T y7) false)], 10⟩
noncomputable def impl_ChainAutomaton.x1 (k : Nat) (x6 : Int) (x35 : List Stp) (x36 : Int) (x37 : Int) (x47 : List Int) (x48 : Int) (x49 : Int) (y0_0 : Int) (y0_1 : List Int) (y0_2 : List Int) (y0_3 : List Stp) (y1_0 : Int) (y1_1 : List Int) (y1_2 : List Int) (y1_3 : List Stp) (y8 : List Stp) (y4_0 : Int) (y4_1 : ByteArray) (y4_2 : Int) (y4_3 : Int) : Option Res := R.exec Try.prog xhn impl_ChainAutomaton.O 0 Try.f31 impl_ChainAutomaton.fh k (R.point Try.f31 11) ⟨[(2, .ptr 0 0), (3, .ptr 1 0), (4, .ptr 2 0), (6, .int .i64 x6), (7, .ptr 3 0), (8, .clo 87 [.ptr 3 0]), (10, .ptr 4 0), (35, .imm (.T x35)), (36, .int .i64 x36), (37, .int .i64 x37), (47, .imm (.I .i64 x47)), (48, .int .i64 x48), (49, .int .i64 x49)], [(0, .box false [.int .i64 y0_0, .imm (.I .i64 y0_1), .imm (.I .i64 y0_2), .imm (.T y0_3)]), (1, .box false [.int .i64 y1_0, .imm (.I .i64 y1_1), .imm (.I .i64 y1_2), .imm (.T y1_3)]), (2, .box false [.int .i64 0, .sl 5 0, .sl 6 0, .sl 7 0]), (3, .box false [.sl 8 0]), (4, .box false [.int .i64 y4_0, .str y4_1, .int .i64 y4_2, .int .i64 y4_3]), (5, .arr 3 0 (.I .i64 ([] : List Int)) false), (6, .arr 3 0 (.I .i64 ([] : List Int)) false), (7, .arr 67 0 (.T ([] : List Stp)) false), (8, .arr 67 0 (.T y8) false)], 11⟩
set_option maxRecDepth 100000 in
theorem impl_ChainAutomaton.e0 (k : Nat) (x6 : Int) (x35 : List Stp) (x36 : Int) (x37 : Int) (y0_0 : Int) (y0_1 : List Int) (y0_2 : List Int) (y0_3 : List Stp) (y1_0 : Int) (y1_1 : List Int) (y1_2 : List Int) (y1_3 : List Stp) (y7 : List Stp) : impl_ChainAutomaton.x0 (k + 1) x6 x35 x36 x37 y0_0 y0_1 y0_2 y0_3 y1_0 y1_1 y1_2 y1_3 y7 = (if x37 < x36 then (if 0 ≤ x37 then (if x37 < (x35.length : Int) then ((slices_Contains_int_int.f k y0_2 ((rdT x35 x37).f2)).bind fun t5 => (if t5 = true then (impl_ChainAutomaton.x1 k x6 x35 x36 x37 y1_1 (y1_1.length : Int) 0 y0_0 y0_1 y0_2 y0_3 y1_0 y1_1 y1_2 y1_3 y7 ((rdT x35 x37).f0) ((rdT x35 x37).f1) ((rdT x35 x37).f2) ((rdT x35 x37).f3)) else (impl_ChainAutomaton.x0 k x6 x35 x36 (wr64 (x37 + 1)) y0_0 y0_1 y0_2 y0_3 y1_0 y1_1 y1_2 y1_3 y7))) else none) else none) else ((slices_Clone_int_int.f y0_1).bind fun t6 => ((impl_moved.f k y1_2 x6).bind fun t7 => ((impl_shared.f k y0_1 y0_2).bind fun t8 => (if t8 = true then ((impl_moved.f k y1_1 x6).bind fun t9 => (if t6.length + t9.length ≤ 17592186044416 then ((impl_shared.f k y1_1 y1_2).bind fun t10 => (if t10 = true then (if t7.length + y0_2.length ≤ 17592186044416 then ((impl_made.f k (wr64 (x6 + y1_0)) (t6 ++ t9) (t7 ++ y0_2) y7).bind fun t11 => (some (impl_ChainAutomaton.en (t11.1, t11.2.1, t11.2.2.1, t11.2.2.2.1, t11.2.2.2.2)))) else none) else ((impl_made.f k (wr64 (x6 + y1_0)) (t6 ++ t9) t7 y7).bind fun t12 => (some (impl_ChainAutomaton.en (t12.1, t12.2.1, t12.2.2.1, t12.2.2.2.1, t12.2.2.2.2)))))) else none)) else ((impl_shared.f k y1_1 y1_2).bind fun t13 => (if t13 = true then (if t7.length + y0_2.length ≤ 17592186044416 then ((impl_made.f k (wr64 (x6 + y1_0)) t6 (t7 ++ y0_2) y7).bind fun t14 => (some (impl_ChainAutomaton.en (t14.1, t14.2.1, t14.2.2.1, t14.2.2.2.1, t14.2.2.2.2)))) else none) else ((impl_made.f k (wr64 (x6 + y1_0)) t6 t7 y7).bind fun t15 => (some (impl_ChainAutomaton.en (t15.1, t15.2.1, t15.2.2.1, t15.2.2.2.1, t15.2.2.2.2))))))))))) := by kernel_rfl
set_option maxRecDepth 100000 in
theorem impl_ChainAutomaton.e1 (k : Nat) (x6 : Int) (x35 : List Stp) (x36 : Int) (x37 : Int) (x47 : List Int) (x48 : Int) (x49 : Int) (y0_0 : Int) (y0_1 : List Int) (y0_2 : List Int) (y0_3 : List Stp) (y1_0 : Int) (y1_1 : List Int) (y1_2 : List Int) (y1_3 : List Stp) (y8 : List Stp) (y4_0 : Int) (y4_1 : ByteArray) (y4_2 : Int) (y4_3 : Int) : impl_ChainAutomaton.x1 (k + 1) x6 x35 x36 x37 x47 x48 x49 y0_0 y0_1 y0_2 y0_3 y1_0 y1_1 y1_2 y1_3 y8 y4_0 y4_1 y4_2 y4_3 = (if x49 < x48 then (if 0 ≤ x49 then (if x49 < (x47.length : Int) then ((impl_ChainAutomaton_1.f k y4_0 y4_1 (wr64 ((rdI x47 x49) + x6)) y4_3 y8).bind fun t16 => (impl_ChainAutomaton.x1 k x6 x35 x36 x37 x47 x48 (wr64 (x49 + 1)) y0_0 y0_1 y0_2 y0_3 y1_0 y1_1 y1_2 y1_3 t16 y4_0 y4_1 y4_2 y4_3)) else none) else none) else (impl_ChainAutomaton.x0 k x6 x35 x36 (wr64 (x37 + 1)) y0_0 y0_1 y0_2 y0_3 y1_0 y1_1 y1_2 y1_3 y8)) := by kernel_rfl
set_option maxRecDepth 100000 in
theorem impl_ChainAutomaton.ef (k : Nat) (a0_0 : Int) (l0_1 : List Int) (l0_2 : List Int) (l0_3 : List Stp) (a1_0 : Int) (l1_1 : List Int) (l1_2 : List Int) (l1_3 : List Stp) : R.start Try.prog xhn impl_ChainAutomaton.O 0 Try.f31 impl_ChainAutomaton.fh k [.agg [.int .i64 a0_0, .imm (.I .i64 l0_1), .imm (.I .i64 l0_2), .imm (.T l0_3)], .agg [.int .i64 a1_0, .imm (.I .i64 l1_1), .imm (.I .i64 l1_2), .imm (.T l1_3)]] [] = ((impl_AutomatonValid.f k a0_0 l0_1 l0_2 l0_3).bind fun t1 => (if t1 = true then ((impl_AutomatonValid.f k a1_0 l1_1 l1_2 l1_3).bind fun t2 => (if t2 = true then ((impl_behind.f k a1_0 l1_1 l1_2 l1_3 a0_0).bind fun t3 => ((slices_Concat_impl_Step_impl_Step.f k ([l0_3, t3])).bind fun t4 => (impl_ChainAutomaton.x0 k a0_0 l0_3 (l0_3.length : Int) 0 a0_0 l0_1 l0_2 l0_3 a1_0 l1_1 l1_2 l1_3 t4))) else (some (impl_ChainAutomaton.en (0, ([] : List Int), ([] : List Int), ([] : List Stp), false))))) else (some (impl_ChainAutomaton.en (0, ([] : List Int), ([] : List Int), ([] : List Stp), false))))) := by kernel_rfl
theorem impl_ChainAutomaton.link : ∀ k, (∀ (x6 : Int) (x35 : List Stp) (x36 : Int) (x37 : Int) (y0_0 : Int) (y0_1 : List Int) (y0_2 : List Int) (y0_3 : List Stp) (y1_0 : Int) (y1_1 : List Int) (y1_2 : List Int) (y1_3 : List Stp) (y7 : List Stp), impl_ChainAutomaton.x0 k x6 x35 x36 x37 y0_0 y0_1 y0_2 y0_3 y1_0 y1_1 y1_2 y1_3 y7 = (impl_ChainAutomaton.l0 k x6 x35 x36 x37 y0_0 y0_1 y0_2 y0_3 y1_0 y1_1 y1_2 y1_3 y7).map (impl_ChainAutomaton.en)) ∧ (∀ (x6 : Int) (x35 : List Stp) (x36 : Int) (x37 : Int) (x47 : List Int) (x48 : Int) (x49 : Int) (y0_0 : Int) (y0_1 : List Int) (y0_2 : List Int) (y0_3 : List Stp) (y1_0 : Int) (y1_1 : List Int) (y1_2 : List Int) (y1_3 : List Stp) (y8 : List Stp) (y4_0 : Int) (y4_1 : ByteArray) (y4_2 : Int) (y4_3 : Int), impl_ChainAutomaton.x1 k x6 x35 x36 x37 x47 x48 x49 y0_0 y0_1 y0_2 y0_3 y1_0 y1_1 y1_2 y1_3 y8 y4_0 y4_1 y4_2 y4_3 = (impl_ChainAutomaton.l1 k x6 x35 x36 x37 x47 x48 x49 y0_0 y0_1 y0_2 y0_3 y1_0 y1_1 y1_2 y1_3 y8 y4_0 y4_1 y4_2 y4_3).map (impl_ChainAutomaton.en))
  | 0 => ⟨fun _ _ _ _ _ _ _ _ _ _ _ _ _ => by simp only [impl_ChainAutomaton.l0, R.map_none]; rfl, fun _ _ _ _ _ _ _ _ _ _ _ _ _ _ _ _ _ _ _ _ => by simp only [impl_ChainAutomaton.l1, R.map_none]; rfl⟩
  | k + 1 => by
    obtain ⟨ih0, ih1⟩ := impl_ChainAutomaton.link k
    refine ⟨?_, ?_⟩
    · intro x6 x35 x36 x37 y0_0 y0_1 y0_2 y0_3 y1_0 y1_1 y1_2 y1_3 y7
      rw [impl_ChainAutomaton.e0]
      simp only [impl_ChainAutomaton.l0, R.map_ite, R.map_bind, R.map_none, R.map_some, R.wr64_eq, ← ih0, ← ih1]
    · intro x6 x35 x36 x37 x47 x48 x49 y0_0 y0_1 y0_2 y0_3 y1_0 y1_1 y1_2 y1_3 y8 y4_0 y4_1 y4_2 y4_3
      rw [impl_ChainAutomaton.e1]
      simp only [impl_ChainAutomaton.l1, R.map_ite, R.map_bind, R.map_none, R.map_some, R.wr64_eq, ← ih0, ← ih1]
theorem impl_ChainAutomaton.sf (k : Nat) (a0_0 : Int) (l0_1 : List Int) (l0_2 : List Int) (l0_3 : List Stp) (a1_0 : Int) (l1_1 : List Int) (l1_2 : List Int) (l1_3 : List Stp) : R.start Try.prog xhn impl_ChainAutomaton.O 0 Try.f31 impl_ChainAutomaton.fh k [.agg [.int .i64 a0_0, .imm (.I .i64 l0_1), .imm (.I .i64 l0_2), .imm (.T l0_3)], .agg [.int .i64 a1_0, .imm (.I .i64 l1_1), .imm (.I .i64 l1_2), .imm (.T l1_3)]] [] = (impl_ChainAutomaton.f k a0_0 l0_1 l0_2 l0_3 a1_0 l1_1 l1_2 l1_3).map (impl_ChainAutomaton.en) := by
  obtain ⟨ih0, ih1⟩ := impl_ChainAutomaton.link k
  rw [impl_ChainAutomaton.ef]
  simp only [impl_ChainAutomaton.f, R.map_ite, R.map_bind, R.map_none, R.map_some, R.wr64_eq, ← ih0, ← ih1]
theorem impl_ChainAutomaton.ok (k : Nat) : impl_ChainAutomaton.tw.Ok Try.prog k := by
  intro md hmd a r h
  refine fn_ok (H := xhn) (fh := impl_ChainAutomaton.fh) (O := impl_ChainAutomaton.O) (k := k) Try.func31 (by kernel_rfl) (by kernel_rfl) (fun j _ => (Tw.orc_sound impl_AutomatonValid.dok (impl_AutomatonValid.ok j) (fun _ => rfl) (Tw.orc_sound impl_behind.dok (impl_behind.ok j) (fun _ => rfl) (Tw.orc_sound slices_Concat_impl_Step_impl_Step.dok (slices_Concat_impl_Step_impl_Step.ok j) (fun q => Bool.noConfusion (show false = true from hmd q)) (Tw.orc_sound slices_Contains_int_int.dok (slices_Contains_int_int.ok j) (fun _ => rfl) (Tw.orc_sound slices_Clone_int_int.dok (slices_Clone_int_int.ok j) (fun q => Bool.noConfusion (show false = true from hmd q)) (Tw.orc_sound impl_moved.dok (impl_moved.ok j) (fun _ => rfl) (Tw.orc_sound impl_shared.dok (impl_shared.ok j) (fun _ => rfl) (Tw.orc_sound impl_made.dok (impl_made.ok j) (fun q => Bool.noConfusion (show false = true from hmd q)) (Tw.orc_sound impl_ChainAutomaton_1.dok (impl_ChainAutomaton_1.ok j) (fun _ => rfl) noO_sound)))))))))) (by kernel_rfl) (m := 0) rfl ?_
  refine (impl_ChainAutomaton.sf k a.1 a.2.1 a.2.2.1 a.2.2.2.1 a.2.2.2.2.1 a.2.2.2.2.2.1 a.2.2.2.2.2.2.1 a.2.2.2.2.2.2.2).trans ?_
  exact congrArg (Option.map _) h
def spec_l5Two.f (k : Nat) (a0_0 : Int) (l0_1 : List Int) (l0_2 : List Int) (l0_3 : List Stp) (a1_0 : Int) (l1_1 : List Int) (l1_2 : List Int) (l1_3 : List Stp) : Option (Bool) := ((spec_AutomatonValid.f k a0_0 l0_1 l0_2 l0_3).bind fun t1 => (if t1 = true then ((spec_AutomatonValid.f k a1_0 l1_1 l1_2 l1_3).bind fun t2 => (some t2)) else (some false)))
def spec_l5Two.en (r : Bool) : Res := (.lit r, [])
def spec_l5Two.dec : List AV → List R.Obj → Option (Int × (List Int) × (List Int) × (List Stp) × Int × (List Int) × (List Int) × (List Stp))
  | [.agg [.int .i64 a0_0, .imm (.I .i64 l0_1), .imm (.I .i64 l0_2), .imm (.T l0_3)], .agg [.int .i64 a1_0, .imm (.I .i64 l1_1), .imm (.I .i64 l1_2), .imm (.T l1_3)]], [] => some (a0_0, l0_1, l0_2, l0_3, a1_0, l1_1, l1_2, l1_3)
  | _, _ => none
def spec_l5Two.tw : Tw := ⟨69, Int × (List Int) × (List Int) × (List Stp) × Int × (List Int) × (List Int) × (List Stp), Bool, spec_l5Two.dec, fun a => [.agg [.int .i64 a.1, .imm (.I .i64 a.2.1), .imm (.I .i64 a.2.2.1), .imm (.T a.2.2.2.1)], .agg [.int .i64 a.2.2.2.2.1, .imm (.I .i64 a.2.2.2.2.2.1), .imm (.I .i64 a.2.2.2.2.2.2.1), .imm (.T a.2.2.2.2.2.2.2)]], fun a => [], fun k a => spec_l5Two.f k a.1 a.2.1 a.2.2.1 a.2.2.2.1 a.2.2.2.2.1 a.2.2.2.2.2.1 a.2.2.2.2.2.2.1 a.2.2.2.2.2.2.2, fun a r => spec_l5Two.en r, true⟩
theorem spec_l5Two.dok : spec_l5Two.tw.DecOk := by
  intro args hc a h
  have h : spec_l5Two.dec args hc = some a := h
  unfold spec_l5Two.dec at h
  split at h
  · cases h; exact ⟨rfl, rfl⟩
  · cases h
noncomputable def spec_l5Two.O (k : Nat) : Oracle := (spec_AutomatonValid.tw.orc k noO)
def spec_l5Two.fh : FH := ⟨fun i => match i with | _ => none, [], false⟩
set_option maxRecDepth 100000 in
theorem spec_l5Two.ef (k : Nat) (a0_0 : Int) (l0_1 : List Int) (l0_2 : List Int) (l0_3 : List Stp) (a1_0 : Int) (l1_1 : List Int) (l1_2 : List Int) (l1_3 : List Stp) : R.start Try.prog xhn spec_l5Two.O 0 Try.f69 spec_l5Two.fh k [.agg [.int .i64 a0_0, .imm (.I .i64 l0_1), .imm (.I .i64 l0_2), .imm (.T l0_3)], .agg [.int .i64 a1_0, .imm (.I .i64 l1_1), .imm (.I .i64 l1_2), .imm (.T l1_3)]] [] = ((spec_AutomatonValid.f k a0_0 l0_1 l0_2 l0_3).bind fun t1 => (if t1 = true then ((spec_AutomatonValid.f k a1_0 l1_1 l1_2 l1_3).bind fun t2 => (some (spec_l5Two.en t2))) else (some (spec_l5Two.en false)))) := by kernel_rfl
theorem spec_l5Two.sf (k : Nat) (a0_0 : Int) (l0_1 : List Int) (l0_2 : List Int) (l0_3 : List Stp) (a1_0 : Int) (l1_1 : List Int) (l1_2 : List Int) (l1_3 : List Stp) : R.start Try.prog xhn spec_l5Two.O 0 Try.f69 spec_l5Two.fh k [.agg [.int .i64 a0_0, .imm (.I .i64 l0_1), .imm (.I .i64 l0_2), .imm (.T l0_3)], .agg [.int .i64 a1_0, .imm (.I .i64 l1_1), .imm (.I .i64 l1_2), .imm (.T l1_3)]] [] = (spec_l5Two.f k a0_0 l0_1 l0_2 l0_3 a1_0 l1_1 l1_2 l1_3).map (spec_l5Two.en) := by
  rw [spec_l5Two.ef]
  simp only [spec_l5Two.f, R.map_ite, R.map_bind, R.map_none, R.map_some, R.wr64_eq]
theorem spec_l5Two.ok (k : Nat) : spec_l5Two.tw.Ok Try.prog k := by
  intro md hmd a r h
  refine fn_ok (H := xhn) (fh := spec_l5Two.fh) (O := spec_l5Two.O) (k := k) Try.func69 (by kernel_rfl) (by kernel_rfl) (fun j _ => (Tw.orc_sound spec_AutomatonValid.dok (spec_AutomatonValid.ok j) (fun _ => rfl) noO_sound)) (by kernel_rfl) (m := 0) rfl ?_
  refine (spec_l5Two.sf k a.1 a.2.1 a.2.2.1 a.2.2.2.1 a.2.2.2.2.1 a.2.2.2.2.2.1 a.2.2.2.2.2.2.1 a.2.2.2.2.2.2.2).trans ?_
  exact congrArg (Option.map _) h
def spec_l5Beside.l0 : Nat → (List Stp) → Int → Int → Int → (List Int) → (List Int) → (List Stp) → Int → (List Stp) → Option (Int × (List Int) × (List Int) × (List Stp))
  | 0, _, _, _, _, _, _, _, _, _ => none
  | k + 1, x21, x22, x23, y0_0, y0_1, y0_2, y0_3, y2_0, y8 => (if x23 < x22 then (if 0 ≤ x23 then (if x23 < (x21.length : Int) then (if y8.length < 3518437208883 then (spec_l5Beside.l0 k x21 x22 (wrap64 (x23 + 1)) y0_0 y0_1 y0_2 y0_3 y2_0 (y8 ++ [(⟨(wrap64 ((rdT x21 x23).f0 + y0_0)), (rdT x21 x23).f1, (wrap64 ((rdT x21 x23).f2 + y0_0)), (rdT x21 x23).f3⟩ : Stp)])) else none) else none) else none) else (some (y2_0, ([] : List Int), ([] : List Int), y8)))
def spec_l5Beside.f (k : Nat) (a0_0 : Int) (l0_1 : List Int) (l0_2 : List Int) (l0_3 : List Stp) (a1_0 : Int) (l1_1 : List Int) (l1_2 : List Int) (l1_3 : List Stp) : Option (Int × (List Int) × (List Int) × (List Stp)) := (if ([] : List Stp).length + l0_3.length ≤ 3518437208883 then (spec_l5Beside.l0 k l1_3 (l1_3.length : Int) 0 a0_0 l0_1 l0_2 l0_3 (wrap64 (a0_0 + a1_0)) (([] : List Stp) ++ l0_3)) else none)
def spec_l5Beside.en (r : Int × (List Int) × (List Int) × (List Stp)) : Res := (.agg [.int .i64 r.1, .sl 0 0, .sl 1 0, .sl 2 0], [.arr 3 0 (.I .i64 r.2.1) false, .arr 3 0 (.I .i64 r.2.2.1) false, .arr 67 0 (.T r.2.2.2) false])
def spec_l5Beside.dec : List AV → List R.Obj → Option (Int × (List Int) × (List Int) × (List Stp) × Int × (List Int) × (List Int) × (List Stp))
  | [.agg [.int .i64 a0_0, .imm (.I .i64 l0_1), .imm (.I .i64 l0_2), .imm (.T l0_3)], .agg [.int .i64 a1_0, .imm (.I .i64 l1_1), .imm (.I .i64 l1_2), .imm (.T l1_3)]], [] => some (a0_0, l0_1, l0_2, l0_3, a1_0, l1_1, l1_2, l1_3)
  | _, _ => none
def spec_l5Beside.tw : Tw := ⟨76, Int × (List Int) × (List Int) × (List Stp) × Int × (List Int) × (List Int) × (List Stp), Int × (List Int) × (List Int) × (List Stp), spec_l5Beside.dec, fun a => [.agg [.int .i64 a.1, .imm (.I .i64 a.2.1), .imm (.I .i64 a.2.2.1), .imm (.T a.2.2.2.1)], .agg [.int .i64 a.2.2.2.2.1, .imm (.I .i64 a.2.2.2.2.2.1), .imm (.I .i64 a.2.2.2.2.2.2.1), .imm (.T a.2.2.2.2.2.2.2)]], fun a => [], fun k a => spec_l5Beside.f k a.1 a.2.1 a.2.2.1 a.2.2.2.1 a.2.2.2.2.1 a.2.2.2.2.2.1 a.2.2.2.2.2.2.1 a.2.2.2.2.2.2.2, fun a r => spec_l5Beside.en r, true⟩
theorem spec_l5Beside.dok : spec_l5Beside.tw.DecOk := by
  intro args hc a h
  have h : spec_l5Beside.dec args hc = some a := h
  unfold spec_l5Beside.dec at h
  split at h
  · cases h; exact ⟨rfl, rfl⟩
  · cases h
noncomputable def spec_l5Beside.O (k : Nat) : Oracle := noO
def spec_l5Beside.fh : FH := ⟨fun i => match i with | 3 => some [(2, 0), (4, 0), (5, 0), (21, 0), (22, 0), (23, 0)] | _ => none, [(true, 3), (true, 3), (true, 67)], false⟩
noncomputable def spec_l5Beside.x0 (k : Nat) (x21 : List Stp) (x22 : Int) (x23 : Int) (y0_0 : Int) (y0_1 : List Int) (y0_2 : List Int) (y0_3 : List Stp) (y2_0 : Int) (y8 : List Stp) : Option Res := R.exec Try.prog xhn spec_l5Beside.O 0 Try.f76 spec_l5Beside.fh k (R.point Try.f76 3) ⟨[(2, .ptr 0 0), (4, .ptr 1 0), (5, .ptr 2 0), (21, .imm (.T x21)), (22, .int .i64 x22), (23, .int .i64 x23)], [(0, .box false [.int .i64 y0_0, .imm (.I .i64 y0_1), .imm (.I .i64 y0_2), .imm (.T y0_3)]), (1, .box false [.int .i64 0, .sl 3 0, .sl 4 0, .sl 5 0]), (2, .box false [.int .i64 y2_0, .sl 6 0, .sl 7 0, .sl 8 0]), (3, .arr 3 0 (.I .i64 ([] : List Int)) false), (4, .arr 3 0 (.I .i64 ([] : List Int)) false), (5, .arr 67 0 (.T ([] : List Stp)) false), (6, .arr 3 0 (.I .i64 ([] : List Int)) false), (7, .arr 3 0 (.I .i64 ([] : List Int)) false), (8, .arr 67 0 (.T y8) false)], 11⟩
set_option maxRecDepth 100000 in
theorem spec_l5Beside.e0 (k : Nat) (x21 : List Stp) (x22 : Int) (x23 : Int) (y0_0 : Int) (y0_1 : List Int) (y0_2 : List Int) (y0_3 : List Stp) (y2_0 : Int) (y8 : List Stp) : spec_l5Beside.x0 (k + 1) x21 x22 x23 y0_0 y0_1 y0_2 y0_3 y2_0 y8 = (if x23 < x22 then (if 0 ≤ x23 then (if x23 < (x21.length : Int) then (if y8.length < 3518437208883 then (spec_l5Beside.x0 k x21 x22 (wr64 (x23 + 1)) y0_0 y0_1 y0_2 y0_3 y2_0 (y8 ++ [(⟨(wr64 ((rdT x21 x23).f0 + y0_0)), (rdT x21 x23).f1, (wr64 ((rdT x21 x23).f2 + y0_0)), (rdT x21 x23).f3⟩ : Stp)])) else none) else none) else none) else (some (spec_l5Beside.en (y2_0, ([] : List Int), ([] : List Int), y8)))) := by kernel_rfl
set_option maxRecDepth 100000 in
theorem spec_l5Beside.ef (k : Nat) (a0_0 : Int) (l0_1 : List Int) (l0_2 : List Int) (l0_3 : List Stp) (a1_0 : Int) (l1_1 : List Int) (l1_2 : List Int) (l1_3 : List Stp) : R.start Try.prog xhn spec_l5Beside.O 0 Try.f76 spec_l5Beside.fh k [.agg [.int .i64 a0_0, .imm (.I .i64 l0_1), .imm (.I .i64 l0_2), .imm (.T l0_3)], .agg [.int .i64 a1_0, .imm (.I .i64 l1_1), .imm (.I .i64 l1_2), .imm (.T l1_3)]] [] = (if ([] : List Stp).length + l0_3.length ≤ 3518437208883 then (spec_l5Beside.x0 k l1_3 (l1_3.length : Int) 0 a0_0 l0_1 l0_2 l0_3 (wr64 (a0_0 + a1_0)) (([] : List Stp) ++ l0_3)) else none) := by kernel_rfl
theorem spec_l5Beside.link : ∀ k, (∀ (x21 : List Stp) (x22 : Int) (x23 : Int) (y0_0 : Int) (y0_1 : List Int) (y0_2 : List Int) (y0_3 : List Stp) (y2_0 : Int) (y8 : List Stp), spec_l5Beside.x0 k x21 x22 x23 y0_0 y0_1 y0_2 y0_3 y2_0 y8 = (spec_l5Beside.l0 k x21 x22 x23 y0_0 y0_1 y0_2 y0_3 y2_0 y8).map (spec_l5Beside.en))
  | 0 => fun _ _ _ _ _ _ _ _ _ => by simp only [spec_l5Beside.l0, R.map_none]; rfl
  | k + 1 => by
    have ih0 := spec_l5Beside.link k
    · intro x21 x22 x23 y0_0 y0_1 y0_2 y0_3 y2_0 y8
      rw [spec_l5Beside.e0]
      simp only [spec_l5Beside.l0, R.map_ite, R.map_bind, R.map_none, R.map_some, R.wr64_eq, ← ih0]
theorem spec_l5Beside.sf (k : Nat) (a0_0 : Int) (l0_1 : List Int) (l0_2 : List Int) (l0_3 : List Stp) (a1_0 : Int) (l1_1 : List Int) (l1_2 : List Int) (l1_3 : List Stp) : R.start Try.prog xhn spec_l5Beside.O 0 Try.f76 spec_l5Beside.fh k [.agg [.int .i64 a0_0, .imm (.I .i64 l0_1), .imm (.I .i64 l0_2), .imm (.T l0_3)], .agg [.int .i64 a1_0, .imm (.I .i64 l1_1), .imm (.I .i64 l1_2), .imm (.T l1_3)]] [] = (spec_l5Beside.f k a0_0 l0_1 l0_2 l0_3 a1_0 l1_1 l1_2 l1_3).map (spec_l5Beside.en) := by
  have ih0 := spec_l5Beside.link k
  rw [spec_l5Beside.ef]
  simp only [spec_l5Beside.f, R.map_ite, R.map_bind, R.map_none, R.map_some, R.wr64_eq, ← ih0]
theorem spec_l5Beside.ok (k : Nat) : spec_l5Beside.tw.Ok Try.prog k := by
  intro md hmd a r h
  refine fn_ok (H := xhn) (fh := spec_l5Beside.fh) (O := spec_l5Beside.O) (k := k) Try.func76 (by kernel_rfl) (by kernel_rfl) (fun j _ => noO_sound) (by kernel_rfl) (m := 0) rfl ?_
  refine (spec_l5Beside.sf k a.1 a.2.1 a.2.2.1 a.2.2.2.1 a.2.2.2.2.1 a.2.2.2.2.2.1 a.2.2.2.2.2.2.1 a.2.2.2.2.2.2.2).trans ?_
  exact congrArg (Option.map _) h
def spec_l4In.l0 : Nat → Int → (List Int) → Int → Int → Option (Bool)
  | 0, _, _, _, _ => none
  | k + 1, x1, x7, x8, x9 => (if x9 < x8 then (if 0 ≤ x9 then (if x9 < (x7.length : Int) then (if (rdI x7 x9) = x1 then (some true) else (spec_l4In.l0 k x1 x7 x8 (wrap64 (x9 + 1)))) else none) else none) else (some false))
def spec_l4In.f (k : Nat) (l0 : List Int) (a1 : Int) : Option (Bool) := (spec_l4In.l0 k a1 l0 (l0.length : Int) 0)
def spec_l4In.en (r : Bool) : Res := (.lit r, [])
def spec_l4In.dec : List AV → List R.Obj → Option ((List Int) × Int)
  | [.imm (.I .i64 l0), .int .i64 a1], [] => some (l0, a1)
  | _, _ => none
def spec_l4In.tw : Tw := ⟨83, (List Int) × Int, Bool, spec_l4In.dec, fun a => [.imm (.I .i64 a.1), .int .i64 a.2], fun a => [], fun k a => spec_l4In.f k a.1 a.2, fun a r => spec_l4In.en r, true⟩
theorem spec_l4In.dok : spec_l4In.tw.DecOk := by
  intro args hc a h
  have h : spec_l4In.dec args hc = some a := h
  unfold spec_l4In.dec at h
  split at h
  · cases h; exact ⟨rfl, rfl⟩
  · cases h
noncomputable def spec_l4In.O (k : Nat) : Oracle := noO
def spec_l4In.fh : FH := ⟨fun i => match i with | 2 => some [(1, 0), (7, 0), (8, 0), (9, 0)] | _ => none, [], false⟩
noncomputable def spec_l4In.x0 (k : Nat) (x1 : Int) (x7 : List Int) (x8 : Int) (x9 : Int) : Option Res := R.exec Try.prog xhn spec_l4In.O 0 Try.f83 spec_l4In.fh k (R.point Try.f83 2) ⟨[(1, .int .i64 x1), (7, .imm (.I .i64 x7)), (8, .int .i64 x8), (9, .int .i64 x9)], [], 2⟩
set_option maxRecDepth 100000 in
theorem spec_l4In.e0 (k : Nat) (x1 : Int) (x7 : List Int) (x8 : Int) (x9 : Int) : spec_l4In.x0 (k + 1) x1 x7 x8 x9 = (if x9 < x8 then (if 0 ≤ x9 then (if x9 < (x7.length : Int) then (if (rdI x7 x9) = x1 then (some (spec_l4In.en true)) else (spec_l4In.x0 k x1 x7 x8 (wr64 (x9 + 1)))) else none) else none) else (some (spec_l4In.en false))) := by kernel_rfl
set_option maxRecDepth 100000 in
theorem spec_l4In.ef (k : Nat) (l0 : List Int) (a1 : Int) : R.start Try.prog xhn spec_l4In.O 0 Try.f83 spec_l4In.fh k [.imm (.I .i64 l0), .int .i64 a1] [] = (spec_l4In.x0 k a1 l0 (l0.length : Int) 0) := by kernel_rfl
theorem spec_l4In.link : ∀ k, (∀ (x1 : Int) (x7 : List Int) (x8 : Int) (x9 : Int), spec_l4In.x0 k x1 x7 x8 x9 = (spec_l4In.l0 k x1 x7 x8 x9).map (spec_l4In.en))
  | 0 => fun _ _ _ _ => by simp only [spec_l4In.l0, R.map_none]; rfl
  | k + 1 => by
    have ih0 := spec_l4In.link k
    · intro x1 x7 x8 x9
      rw [spec_l4In.e0]
      simp only [spec_l4In.l0, R.map_ite, R.map_bind, R.map_none, R.map_some, R.wr64_eq, ← ih0]
theorem spec_l4In.sf (k : Nat) (l0 : List Int) (a1 : Int) : R.start Try.prog xhn spec_l4In.O 0 Try.f83 spec_l4In.fh k [.imm (.I .i64 l0), .int .i64 a1] [] = (spec_l4In.f k l0 a1).map (spec_l4In.en) := by
  have ih0 := spec_l4In.link k
  rw [spec_l4In.ef]
  simp only [spec_l4In.f, R.map_ite, R.map_bind, R.map_none, R.map_some, R.wr64_eq, ← ih0]
theorem spec_l4In.ok (k : Nat) : spec_l4In.tw.Ok Try.prog k := by
  intro md hmd a r h
  refine fn_ok (H := xhn) (fh := spec_l4In.fh) (O := spec_l4In.O) (k := k) Try.func83 (by kernel_rfl) (by kernel_rfl) (fun j _ => noO_sound) (by kernel_rfl) (m := 0) rfl ?_
  refine (spec_l4In.sf k a.1 a.2).trans ?_
  exact congrArg (Option.map _) h
def spec_l5Empty.l0 : Nat → (List Int) → Int → Int → Int → (List Int) → (List Int) → (List Stp) → Option (Bool)
  | 0, _, _, _, _, _, _, _ => none
  | k + 1, x6, x7, x8, y0_0, y0_1, y0_2, y0_3 => (if x8 < x7 then (if 0 ≤ x8 then (if x8 < (x6.length : Int) then ((spec_l4In.f k y0_2 (rdI x6 x8)).bind fun t1 => (if t1 = true then (some true) else (spec_l5Empty.l0 k x6 x7 (wrap64 (x8 + 1)) y0_0 y0_1 y0_2 y0_3))) else none) else none) else (some false))
def spec_l5Empty.f (k : Nat) (a0_0 : Int) (l0_1 : List Int) (l0_2 : List Int) (l0_3 : List Stp) : Option (Bool) := (spec_l5Empty.l0 k l0_1 (l0_1.length : Int) 0 a0_0 l0_1 l0_2 l0_3)
def spec_l5Empty.en (r : Bool) : Res := (.lit r, [])
def spec_l5Empty.dec : List AV → List R.Obj → Option (Int × (List Int) × (List Int) × (List Stp))
  | [.agg [.int .i64 a0_0, .imm (.I .i64 l0_1), .imm (.I .i64 l0_2), .imm (.T l0_3)]], [] => some (a0_0, l0_1, l0_2, l0_3)
  | _, _ => none
def spec_l5Empty.tw : Tw := ⟨86, Int × (List Int) × (List Int) × (List Stp), Bool, spec_l5Empty.dec, fun a => [.agg [.int .i64 a.1, .imm (.I .i64 a.2.1), .imm (.I .i64 a.2.2.1), .imm (.T a.2.2.2)]], fun a => [], fun k a => spec_l5Empty.f k a.1 a.2.1 a.2.2.1 a.2.2.2, fun a r => spec_l5Empty.en r, true⟩
theorem spec_l5Empty.dok : spec_l5Empty.tw.DecOk := by
  intro args hc a h
  have h : spec_l5Empty.dec args hc = some a := h
  unfold spec_l5Empty.dec at h
  split at h
  · cases h; exact ⟨rfl, rfl⟩
  · cases h
noncomputable def spec_l5Empty.O (k : Nat) : Oracle := (spec_l4In.tw.orc k noO)
def spec_l5Empty.fh : FH := ⟨fun i => match i with | 2 => some [(1, 0), (6, 0), (7, 0), (8, 0)] | _ => none, [], false⟩
noncomputable def spec_l5Empty.x0 (k : Nat) (x6 : List Int) (x7 : Int) (x8 : Int) (y0_0 : Int) (y0_1 : List Int) (y0_2 : List Int) (y0_3 : List Stp) : Option Res := R.exec Try.prog xhn spec_l5Empty.O 0 Try.f86 spec_l5Empty.fh k (R.point Try.f86 2) ⟨[(1, .ptr 0 0), (6, .imm (.I .i64 x6)), (7, .int .i64 x7), (8, .int .i64 x8)], [(0, .box false [.int .i64 y0_0, .imm (.I .i64 y0_1), .imm (.I .i64 y0_2), .imm (.T y0_3)])], 3⟩
set_option maxRecDepth 100000 in
theorem spec_l5Empty.e0 (k : Nat) (x6 : List Int) (x7 : Int) (x8 : Int) (y0_0 : Int) (y0_1 : List Int) (y0_2 : List Int) (y0_3 : List Stp) : spec_l5Empty.x0 (k + 1) x6 x7 x8 y0_0 y0_1 y0_2 y0_3 = (if x8 < x7 then (if 0 ≤ x8 then (if x8 < (x6.length : Int) then ((spec_l4In.f k y0_2 (rdI x6 x8)).bind fun t1 => (if t1 = true then (some (spec_l5Empty.en true)) else (spec_l5Empty.x0 k x6 x7 (wr64 (x8 + 1)) y0_0 y0_1 y0_2 y0_3))) else none) else none) else (some (spec_l5Empty.en false))) := by kernel_rfl
set_option maxRecDepth 100000 in
theorem spec_l5Empty.ef (k : Nat) (a0_0 : Int) (l0_1 : List Int) (l0_2 : List Int) (l0_3 : List Stp) : R.start Try.prog xhn spec_l5Empty.O 0 Try.f86 spec_l5Empty.fh k [.agg [.int .i64 a0_0, .imm (.I .i64 l0_1), .imm (.I .i64 l0_2), .imm (.T l0_3)]] [] = (spec_l5Empty.x0 k l0_1 (l0_1.length : Int) 0 a0_0 l0_1 l0_2 l0_3) := by kernel_rfl
theorem spec_l5Empty.link : ∀ k, (∀ (x6 : List Int) (x7 : Int) (x8 : Int) (y0_0 : Int) (y0_1 : List Int) (y0_2 : List Int) (y0_3 : List Stp), spec_l5Empty.x0 k x6 x7 x8 y0_0 y0_1 y0_2 y0_3 = (spec_l5Empty.l0 k x6 x7 x8 y0_0 y0_1 y0_2 y0_3).map (spec_l5Empty.en))
  | 0 => fun _ _ _ _ _ _ _ => by simp only [spec_l5Empty.l0, R.map_none]; rfl
  | k + 1 => by
    have ih0 := spec_l5Empty.link k
    · intro x6 x7 x8 y0_0 y0_1 y0_2 y0_3
      rw [spec_l5Empty.e0]
      simp only [spec_l5Empty.l0, R.map_ite, R.map_bind, R.map_none, R.map_some, R.wr64_eq, ← ih0]
theorem spec_l5Empty.sf (k : Nat) (a0_0 : Int) (l0_1 : List Int) (l0_2 : List Int) (l0_3 : List Stp) : R.start Try.prog xhn spec_l5Empty.O 0 Try.f86 spec_l5Empty.fh k [.agg [.int .i64 a0_0, .imm (.I .i64 l0_1), .imm (.I .i64 l0_2), .imm (.T l0_3)]] [] = (spec_l5Empty.f k a0_0 l0_1 l0_2 l0_3).map (spec_l5Empty.en) := by
  have ih0 := spec_l5Empty.link k
  rw [spec_l5Empty.ef]
  simp only [spec_l5Empty.f, R.map_ite, R.map_bind, R.map_none, R.map_some, R.wr64_eq, ← ih0]
theorem spec_l5Empty.ok (k : Nat) : spec_l5Empty.tw.Ok Try.prog k := by
  intro md hmd a r h
  refine fn_ok (H := xhn) (fh := spec_l5Empty.fh) (O := spec_l5Empty.O) (k := k) Try.func86 (by kernel_rfl) (by kernel_rfl) (fun j _ => (Tw.orc_sound spec_l4In.dok (spec_l4In.ok j) (fun _ => rfl) noO_sound)) (by kernel_rfl) (m := 0) rfl ?_
  refine (spec_l5Empty.sf k a.1 a.2.1 a.2.2.1 a.2.2.2).trans ?_
  exact congrArg (Option.map _) h
def spec_l5Shift.l0 : Nat → Int → (List Int) → (List Int) → Int → Int → Option (List Int)
  | 0, _, _, _, _, _ => none
  | k + 1, x1, y0, x9, x10, x11 => (if x11 < x10 then (if 0 ≤ x11 then (if x11 < (x9.length : Int) then (if y0.length < 17592186044416 then (spec_l5Shift.l0 k x1 (y0 ++ [(wrap64 ((rdI x9 x11) + x1))]) x9 x10 (wrap64 (x11 + 1))) else none) else none) else none) else (some y0))
def spec_l5Shift.f (k : Nat) (l0 : List Int) (a1 : Int) : Option (List Int) := (spec_l5Shift.l0 k a1 ([] : List Int) l0 (l0.length : Int) 0)
def spec_l5Shift.en (r : List Int) : Res := (.sl 0 0, [.arr 3 0 (.I .i64 r) false])
def spec_l5Shift.dec : List AV → List R.Obj → Option ((List Int) × Int)
  | [.imm (.I .i64 l0), .int .i64 a1], [] => some (l0, a1)
  | _, _ => none
def spec_l5Shift.tw : Tw := ⟨77, (List Int) × Int, List Int, spec_l5Shift.dec, fun a => [.imm (.I .i64 a.1), .int .i64 a.2], fun a => [], fun k a => spec_l5Shift.f k a.1 a.2, fun a r => spec_l5Shift.en r, true⟩
theorem spec_l5Shift.dok : spec_l5Shift.tw.DecOk := by
  intro args hc a h
  have h : spec_l5Shift.dec args hc = some a := h
  unfold spec_l5Shift.dec at h
  split at h
  · cases h; exact ⟨rfl, rfl⟩
  · cases h
noncomputable def spec_l5Shift.O (k : Nat) : Oracle := noO
def spec_l5Shift.fh : FH := ⟨fun i => match i with | 3 => some [(1, 0), (5, 0), (9, 0), (10, 0), (11, 0)] | _ => none, [(true, 3)], false⟩
noncomputable def spec_l5Shift.x0 (k : Nat) (x1 : Int) (y0 : List Int) (x9 : List Int) (x10 : Int) (x11 : Int) : Option Res := R.exec Try.prog xhn spec_l5Shift.O 0 Try.f77 spec_l5Shift.fh k (R.point Try.f77 3) ⟨[(1, .int .i64 x1), (5, .sl 0 0), (9, .imm (.I .i64 x9)), (10, .int .i64 x10), (11, .int .i64 x11)], [(0, .arr 3 0 (.I .i64 y0) false)], 3⟩
set_option maxRecDepth 100000 in
theorem spec_l5Shift.e0 (k : Nat) (x1 : Int) (y0 : List Int) (x9 : List Int) (x10 : Int) (x11 : Int) : spec_l5Shift.x0 (k + 1) x1 y0 x9 x10 x11 = (if x11 < x10 then (if 0 ≤ x11 then (if x11 < (x9.length : Int) then (if y0.length < 17592186044416 then (spec_l5Shift.x0 k x1 (y0 ++ [(wr64 ((rdI x9 x11) + x1))]) x9 x10 (wr64 (x11 + 1))) else none) else none) else none) else (some (spec_l5Shift.en y0))) := by kernel_rfl
set_option maxRecDepth 100000 in
theorem spec_l5Shift.ef (k : Nat) (l0 : List Int) (a1 : Int) : R.start Try.prog xhn spec_l5Shift.O 0 Try.f77 spec_l5Shift.fh k [.imm (.I .i64 l0), .int .i64 a1] [] = (spec_l5Shift.x0 k a1 ([] : List Int) l0 (l0.length : Int) 0) := by kernel_rfl
theorem spec_l5Shift.link : ∀ k, (∀ (x1 : Int) (y0 : List Int) (x9 : List Int) (x10 : Int) (x11 : Int), spec_l5Shift.x0 k x1 y0 x9 x10 x11 = (spec_l5Shift.l0 k x1 y0 x9 x10 x11).map (spec_l5Shift.en))
  | 0 => fun _ _ _ _ _ => by simp only [spec_l5Shift.l0, R.map_none]; rfl
  | k + 1 => by
    have ih0 := spec_l5Shift.link k
    · intro x1 y0 x9 x10 x11
      rw [spec_l5Shift.e0]
      simp only [spec_l5Shift.l0, R.map_ite, R.map_bind, R.map_none, R.map_some, R.wr64_eq, ← ih0]
theorem spec_l5Shift.sf (k : Nat) (l0 : List Int) (a1 : Int) : R.start Try.prog xhn spec_l5Shift.O 0 Try.f77 spec_l5Shift.fh k [.imm (.I .i64 l0), .int .i64 a1] [] = (spec_l5Shift.f k l0 a1).map (spec_l5Shift.en) := by
  have ih0 := spec_l5Shift.link k
  rw [spec_l5Shift.ef]
  simp only [spec_l5Shift.f, R.map_ite, R.map_bind, R.map_none, R.map_some, R.wr64_eq, ← ih0]
theorem spec_l5Shift.ok (k : Nat) : spec_l5Shift.tw.Ok Try.prog k := by
  intro md hmd a r h
  refine fn_ok (H := xhn) (fh := spec_l5Shift.fh) (O := spec_l5Shift.O) (k := k) Try.func77 (by kernel_rfl) (by kernel_rfl) (fun j _ => noO_sound) (by kernel_rfl) (m := 0) rfl ?_
  refine (spec_l5Shift.sf k a.1 a.2).trans ?_
  exact congrArg (Option.map _) h
def spec_l5Whole.f (k : Nat) (a0_0 : Int) (l0_1 : List Int) (l0_2 : List Int) (l0_3 : List Stp) : Option (Int × (List Int) × (List Int) × (List Stp) × Bool) := ((spec_AutomatonValid.f k a0_0 l0_1 l0_2 l0_3).bind fun t1 => (if t1 = true then (some (a0_0, l0_1, l0_2, l0_3, true)) else (some (0, ([] : List Int), ([] : List Int), ([] : List Stp), false))))
def spec_l5Whole.en (r : Int × (List Int) × (List Int) × (List Stp) × Bool) : Res := (.tup [.agg [.int .i64 r.1, .imm (.I .i64 r.2.1), .imm (.I .i64 r.2.2.1), .imm (.T r.2.2.2.1)], .lit r.2.2.2.2], [])
def spec_l5Whole.dec : List AV → List R.Obj → Option (Int × (List Int) × (List Int) × (List Stp))
  | [.agg [.int .i64 a0_0, .imm (.I .i64 l0_1), .imm (.I .i64 l0_2), .imm (.T l0_3)]], [] => some (a0_0, l0_1, l0_2, l0_3)
  | _, _ => none
def spec_l5Whole.tw : Tw := ⟨60, Int × (List Int) × (List Int) × (List Stp), Int × (List Int) × (List Int) × (List Stp) × Bool, spec_l5Whole.dec, fun a => [.agg [.int .i64 a.1, .imm (.I .i64 a.2.1), .imm (.I .i64 a.2.2.1), .imm (.T a.2.2.2)]], fun a => [], fun k a => spec_l5Whole.f k a.1 a.2.1 a.2.2.1 a.2.2.2, fun a r => spec_l5Whole.en r, true⟩
theorem spec_l5Whole.dok : spec_l5Whole.tw.DecOk := by
  intro args hc a h
  have h : spec_l5Whole.dec args hc = some a := h
  unfold spec_l5Whole.dec at h
  split at h
  · cases h; exact ⟨rfl, rfl⟩
  · cases h
noncomputable def spec_l5Whole.O (k : Nat) : Oracle := (spec_AutomatonValid.tw.orc k noO)
def spec_l5Whole.fh : FH := ⟨fun i => match i with | _ => none, [(false, 3), (false, 3), (false, 67)], false⟩
set_option maxRecDepth 100000 in
theorem spec_l5Whole.ef (k : Nat) (a0_0 : Int) (l0_1 : List Int) (l0_2 : List Int) (l0_3 : List Stp) : R.start Try.prog xhn spec_l5Whole.O 0 Try.f60 spec_l5Whole.fh k [.agg [.int .i64 a0_0, .imm (.I .i64 l0_1), .imm (.I .i64 l0_2), .imm (.T l0_3)]] [] = ((spec_AutomatonValid.f k a0_0 l0_1 l0_2 l0_3).bind fun t1 => (if t1 = true then (some (spec_l5Whole.en (a0_0, l0_1, l0_2, l0_3, true))) else (some (spec_l5Whole.en (0, ([] : List Int), ([] : List Int), ([] : List Stp), false))))) := by kernel_rfl
theorem spec_l5Whole.sf (k : Nat) (a0_0 : Int) (l0_1 : List Int) (l0_2 : List Int) (l0_3 : List Stp) : R.start Try.prog xhn spec_l5Whole.O 0 Try.f60 spec_l5Whole.fh k [.agg [.int .i64 a0_0, .imm (.I .i64 l0_1), .imm (.I .i64 l0_2), .imm (.T l0_3)]] [] = (spec_l5Whole.f k a0_0 l0_1 l0_2 l0_3).map (spec_l5Whole.en) := by
  rw [spec_l5Whole.ef]
  simp only [spec_l5Whole.f, R.map_ite, R.map_bind, R.map_none, R.map_some, R.wr64_eq]
theorem spec_l5Whole.ok (k : Nat) : spec_l5Whole.tw.Ok Try.prog k := by
  intro md hmd a r h
  refine fn_ok (H := xhn) (fh := spec_l5Whole.fh) (O := spec_l5Whole.O) (k := k) Try.func60 (by kernel_rfl) (by kernel_rfl) (fun j _ => (Tw.orc_sound spec_AutomatonValid.dok (spec_AutomatonValid.ok j) (fun _ => rfl) noO_sound)) (by kernel_rfl) (m := 0) rfl ?_
  refine (spec_l5Whole.sf k a.1 a.2.1 a.2.2.1 a.2.2.2).trans ?_
  exact congrArg (Option.map _) h
mutual
def spec_ChainAutomaton.l0 : Nat → (List Stp) → Int → Int → Int → (List Int) → (List Int) → (List Stp) → Int → (List Int) → (List Int) → (List Stp) → Int → (List Int) → (List Int) → (List Stp) → Option (Int × (List Int) × (List Int) × (List Stp) × Bool)
  | 0, _, _, _, _, _, _, _, _, _, _, _, _, _, _, _ => none
  | k + 1, x20, x21, x22, y0_0, y0_1, y0_2, y0_3, y1_0, y1_1, y1_2, y1_3, y3_0, y7, y8, y9 => (if x22 < x21 then (if 0 ≤ x22 then (if x22 < (x20.length : Int) then (spec_ChainAutomaton.l1 k x20 x21 x22 y1_1 (y1_1.length : Int) 0 y0_0 y0_1 y0_2 y0_3 y1_0 y1_1 y1_2 y1_3 y3_0 y7 y8 y9 ((rdT x20 x22).f0) ((rdT x20 x22).f1) ((rdT x20 x22).f2) ((rdT x20 x22).f3)) else none) else none) else (if y7.length + y0_1.length ≤ 17592186044416 then ((spec_l5Empty.f k y0_0 y0_1 y0_2 y0_3).bind fun t3 => (if t3 = true then ((spec_l5Shift.f k y1_1 y0_0).bind fun t4 => (if (y7 ++ y0_1).length + t4.length ≤ 17592186044416 then ((spec_l5Empty.f k y1_0 y1_1 y1_2 y1_3).bind fun t5 => (if t5 = true then (if y8.length + y0_2.length ≤ 17592186044416 then ((spec_l5Shift.f k y1_2 y0_0).bind fun t6 => (if (y8 ++ y0_2).length + t6.length ≤ 17592186044416 then ((spec_l5Whole.f k y3_0 ((y7 ++ y0_1) ++ t4) ((y8 ++ y0_2) ++ t6) y9).bind fun t7 => (some (t7.1, t7.2.1, t7.2.2.1, t7.2.2.2.1, t7.2.2.2.2))) else none)) else none) else ((spec_l5Shift.f k y1_2 y0_0).bind fun t8 => (if y8.length + t8.length ≤ 17592186044416 then ((spec_l5Whole.f k y3_0 ((y7 ++ y0_1) ++ t4) (y8 ++ t8) y9).bind fun t9 => (some (t9.1, t9.2.1, t9.2.2.1, t9.2.2.2.1, t9.2.2.2.2))) else none)))) else none)) else ((spec_l5Empty.f k y1_0 y1_1 y1_2 y1_3).bind fun t10 => (if t10 = true then (if y8.length + y0_2.length ≤ 17592186044416 then ((spec_l5Shift.f k y1_2 y0_0).bind fun t11 => (if (y8 ++ y0_2).length + t11.length ≤ 17592186044416 then ((spec_l5Whole.f k y3_0 (y7 ++ y0_1) ((y8 ++ y0_2) ++ t11) y9).bind fun t12 => (some (t12.1, t12.2.1, t12.2.2.1, t12.2.2.2.1, t12.2.2.2.2))) else none)) else none) else ((spec_l5Shift.f k y1_2 y0_0).bind fun t13 => (if y8.length + t13.length ≤ 17592186044416 then ((spec_l5Whole.f k y3_0 (y7 ++ y0_1) (y8 ++ t13) y9).bind fun t14 => (some (t14.1, t14.2.1, t14.2.2.1, t14.2.2.2.1, t14.2.2.2.2))) else none)))))) else none))
def spec_ChainAutomaton.l1 : Nat → (List Stp) → Int → Int → (List Int) → Int → Int → Int → (List Int) → (List Int) → (List Stp) → Int → (List Int) → (List Int) → (List Stp) → Int → (List Int) → (List Int) → (List Stp) → Int → ByteArray → Int → Int → Option (Int × (List Int) × (List Int) × (List Stp) × Bool)
  | 0, _, _, _, _, _, _, _, _, _, _, _, _, _, _, _, _, _, _, _, _, _, _ => none
  | k + 1, x20, x21, x22, x27, x28, x29, y0_0, y0_1, y0_2, y0_3, y1_0, y1_1, y1_2, y1_3, y3_0, y8, y9, y10, y4_0, y4_1, y4_2, y4_3 => (if x29 < x28 then (if 0 ≤ x29 then (if x29 < (x27.length : Int) then ((spec_l4In.f k y0_2 y4_2).bind fun t15 => (if t15 = true then ((spec_l3Put.f k y10 y4_0 y4_1 (wrap64 ((rdI x27 x29) + y0_0)) y4_3).bind fun t16 => (spec_ChainAutomaton.l1 k x20 x21 x22 x27 x28 (wrap64 (x29 + 1)) y0_0 y0_1 y0_2 y0_3 y1_0 y1_1 y1_2 y1_3 y3_0 y8 y9 t16 y4_0 y4_1 y4_2 y4_3)) else (spec_ChainAutomaton.l1 k x20 x21 x22 x27 x28 (wrap64 (x29 + 1)) y0_0 y0_1 y0_2 y0_3 y1_0 y1_1 y1_2 y1_3 y3_0 y8 y9 y10 y4_0 y4_1 y4_2 y4_3))) else none) else none) else (spec_ChainAutomaton.l0 k x20 x21 (wrap64 (x22 + 1)) y0_0 y0_1 y0_2 y0_3 y1_0 y1_1 y1_2 y1_3 y3_0 y8 y9 y10))
end
def spec_ChainAutomaton.f (k : Nat) (a0_0 : Int) (l0_1 : List Int) (l0_2 : List Int) (l0_3 : List Stp) (a1_0 : Int) (l1_1 : List Int) (l1_2 : List Int) (l1_3 : List Stp) : Option (Int × (List Int) × (List Int) × (List Stp) × Bool) := ((spec_l5Two.f k a0_0 l0_1 l0_2 l0_3 a1_0 l1_1 l1_2 l1_3).bind fun t1 => (if t1 = true then ((spec_l5Beside.f k a0_0 l0_1 l0_2 l0_3 a1_0 l1_1 l1_2 l1_3).bind fun t2 => (spec_ChainAutomaton.l0 k l0_3 (l0_3.length : Int) 0 a0_0 l0_1 l0_2 l0_3 a1_0 l1_1 l1_2 l1_3 t2.1 t2.2.1 t2.2.2.1 t2.2.2.2)) else (some (0, ([] : List Int), ([] : List Int), ([] : List Stp), false))))
def spec_ChainAutomaton.en (r : Int × (List Int) × (List Int) × (List Stp) × Bool) : Res := (.tup [.agg [.int .i64 r.1, .imm (.I .i64 r.2.1), .imm (.I .i64 r.2.2.1), .imm (.T r.2.2.2.1)], .lit r.2.2.2.2], [])
def spec_ChainAutomaton.dec : List AV → List R.Obj → Option (Int × (List Int) × (List Int) × (List Stp) × Int × (List Int) × (List Int) × (List Stp))
  | [.agg [.int .i64 a0_0, .imm (.I .i64 l0_1), .imm (.I .i64 l0_2), .imm (.T l0_3)], .agg [.int .i64 a1_0, .imm (.I .i64 l1_1), .imm (.I .i64 l1_2), .imm (.T l1_3)]], [] => some (a0_0, l0_1, l0_2, l0_3, a1_0, l1_1, l1_2, l1_3)
  | _, _ => none
def spec_ChainAutomaton.tw : Tw := ⟨30, Int × (List Int) × (List Int) × (List Stp) × Int × (List Int) × (List Int) × (List Stp), Int × (List Int) × (List Int) × (List Stp) × Bool, spec_ChainAutomaton.dec, fun a => [.agg [.int .i64 a.1, .imm (.I .i64 a.2.1), .imm (.I .i64 a.2.2.1), .imm (.T a.2.2.2.1)], .agg [.int .i64 a.2.2.2.2.1, .imm (.I .i64 a.2.2.2.2.2.1), .imm (.I .i64 a.2.2.2.2.2.2.1), .imm (.T a.2.2.2.2.2.2.2)]], fun a => [], fun k a => spec_ChainAutomaton.f k a.1 a.2.1 a.2.2.1 a.2.2.2.1 a.2.2.2.2.1 a.2.2.2.2.2.1 a.2.2.2.2.2.2.1 a.2.2.2.2.2.2.2, fun a r => spec_ChainAutomaton.en r, true⟩
theorem spec_ChainAutomaton.dok : spec_ChainAutomaton.tw.DecOk := by
  intro args hc a h
  have h : spec_ChainAutomaton.dec args hc = some a := h
  unfold spec_ChainAutomaton.dec at h
  split at h
  · cases h; exact ⟨rfl, rfl⟩
  · cases h
noncomputable def spec_ChainAutomaton.O (k : Nat) : Oracle := (spec_l5Two.tw.orc k (spec_l5Beside.tw.orc k (spec_l5Empty.tw.orc k (spec_l5Shift.tw.orc k (spec_l5Whole.tw.orc k (spec_l4In.tw.orc k (spec_l3Put.tw.orc k noO)))))))
def spec_ChainAutomaton.fh : FH := ⟨fun i => match i with | 5 => some [(2, 0), (3, 0), (4, 0), (6, 0), (20, 0), (21, 0), (22, 0)] | 8 => some [(2, 0), (3, 0), (4, 0), (6, 0), (8, 0), (20, 0), (21, 0), (22, 0), (27, 0), (28, 0), (29, 0)] | _ => none, [(false, 3), (false, 3), (false, 67)], false⟩
noncomputable def spec_ChainAutomaton.x0 (k : Nat) (x20 : List Stp) (x21 : Int) (x22 : Int) (y0_0 : Int) (y0_1 : List Int) (y0_2 : List Int) (y0_3 : List Stp) (y1_0 : Int) (y1_1 : List Int) (y1_2 : List Int) (y1_3 : List Stp) (y3_0 : Int) (y7 : List Int) (y8 : List Int) (y9 : List Stp) : Option Res := R.exec Try.prog xhn spec_ChainAutomaton.O 0 Try.f30 spec_ChainAutomaton.fh k (R.point Try.f30 5) ⟨[(2, .ptr 0 0), (3, .ptr 1 0), (4, .ptr 2 0), (6, .ptr 3 0), (20, .imm (.T x20)), (21, .int .i64 x21), (22, .int .i64 x22)], [(0, .box false [.int .i64 y0_0, .imm (.I .i64 y0_1), .imm (.I .i64 y0_2), .imm (.T y0_3)]), (1, .box false [.int .i64 y1_0, .imm (.I .i64 y1_1), .imm (.I .i64 y1_2), .imm (.T y1_3)]), (2, .box false [.int .i64 0, .sl 4 0, .sl 5 0, .sl 6 0]), (3, .box false [.int .i64 y3_0, .sl 7 0, .sl 8 0, .sl 9 0]), (4, .arr 3 0 (.I .i64 ([] : List Int)) false), (5, .arr 3 0 (.I .i64 ([] : List Int)) false), (6, .arr 67 0 (.T ([] : List Stp)) false), (7, .arr 3 0 (.I .i64 y7) false), (8, .arr 3 0 (.I .i64 y8) false), (9, .arr 67 0 (.T y9) false)], 12⟩
noncomputable def spec_ChainAutomaton.x1 (k : Nat) (x20 : List Stp) (x21 : Int) (x22 : Int) (x27 : List Int) (x28 : Int) (x29 : Int) (y0_0 : Int) (y0_1 : List Int) (y0_2 : List Int) (y0_3 : List Stp) (y1_0 : Int) (y1_1 : List Int) (y1_2 : List Int) (y1_3 : List Stp) (y3_0 : Int) (y8 : List Int) (y9 : List Int) (y10 : List Stp) (y4_0 : Int) (y4_1 : ByteArray) (y4_2 : Int) (y4_3 : Int) : Option Res := R.exec Try.prog xhn spec_ChainAutomaton.O 0 Try.f30 spec_ChainAutomaton.fh k (R.point Try.f30 8) ⟨[(2, .ptr 0 0), (3, .ptr 1 0), (4, .ptr 2 0), (6, .ptr 3 0), (8, .ptr 4 0), (20, .imm (.T x20)), (21, .int .i64 x21), (22, .int .i64 x22), (27, .imm (.I .i64 x27)), (28, .int .i64 x28), (29, .int .i64 x29)], [(0, .box false [.int .i64 y0_0, .imm (.I .i64 y0_1), .imm (.I .i64 y0_2), .imm (.T y0_3)]), (1, .box false [.int .i64 y1_0, .imm (.I .i64 y1_1), .imm (.I .i64 y1_2), .imm (.T y1_3)]), (2, .box false [.int .i64 0, .sl 5 0, .sl 6 0, .sl 7 0]), (3, .box false [.int .i64 y3_0, .sl 8 0, .sl 9 0, .sl 10 0]), (4, .box false [.int .i64 y4_0, .str y4_1, .int .i64 y4_2, .int .i64 y4_3]), (5, .arr 3 0 (.I .i64 ([] : List Int)) false), (6, .arr 3 0 (.I .i64 ([] : List Int)) false), (7, .arr 67 0 (.T ([] : List Stp)) false), (8, .arr 3 0 (.I .i64 y8) false), (9, .arr 3 0 (.I .i64 y9) false), (10, .arr 67 0 (.T y10) false)], 13⟩
set_option maxRecDepth 100000 in
theorem spec_ChainAutomaton.e0 (k : Nat) (x20 : List Stp) (x21 : Int) (x22 : Int) (y0_0 : Int) (y0_1 : List Int) (y0_2 : List Int) (y0_3 : List Stp) (y1_0 : Int) (y1_1 : List Int) (y1_2 : List Int) (y1_3 : List Stp) (y3_0 : Int) (y7 : List Int) (y8 : List Int) (y9 : List Stp) : spec_ChainAutomaton.x0 (k + 1) x20 x21 x22 y0_0 y0_1 y0_2 y0_3 y1_0 y1_1 y1_2 y1_3 y3_0 y7 y8 y9 = (if x22 < x21 then (if 0 ≤ x22 then (if x22 < (x20.length : Int) then (spec_ChainAutomaton.x1 k x20 x21 x22 y1_1 (y1_1.length : Int) 0 y0_0 y0_1 y0_2 y0_3 y1_0 y1_1 y1_2 y1_3 y3_0 y7 y8 y9 ((rdT x20 x22).f0) ((rdT x20 x22).f1) ((rdT x20 x22).f2) ((rdT x20 x22).f3)) else none) else none) else (if y7.length + y0_1.length ≤ 17592186044416 then ((spec_l5Empty.f k y0_0 y0_1 y0_2 y0_3).bind fun t3 => (if t3 = true then ((spec_l5Shift.f k y1_1 y0_0).bind fun t4 => (if (y7 ++ y0_1).length + t4.length ≤ 17592186044416 then ((spec_l5Empty.f k y1_0 y1_1 y1_2 y1_3).bind fun t5 => (if t5 = true then (if y8.length + y0_2.length ≤ 17592186044416 then ((spec_l5Shift.f k y1_2 y0_0).bind fun t6 => (if (y8 ++ y0_2).length + t6.length ≤ 17592186044416 then ((spec_l5Whole.f k y3_0 ((y7 ++ y0_1) ++ t4) ((y8 ++ y0_2) ++ t6) y9).bind fun t7 => (some (spec_ChainAutomaton.en (t7.1, t7.2.1, t7.2.2.1, t7.2.2.2.1, t7.2.2.2.2)))) else none)) else none) else ((spec_l5Shift.f k y1_2 y0_0).bind fun t8 => (if y8.length + t8.length ≤ 17592186044416 then ((spec_l5Whole.f k y3_0 ((y7 ++ y0_1) ++ t4) (y8 ++ t8) y9).bind fun t9 => (some (spec_ChainAutomaton.en (t9.1, t9.2.1, t9.2.2.1, t9.2.2.2.1, t9.2.2.2.2)))) else none)))) else none)) else ((spec_l5Empty.f k y1_0 y1_1 y1_2 y1_3).bind fun t10 => (if t10 = true then (if y8.length + y0_2.length ≤ 17592186044416 then ((spec_l5Shift.f k y1_2 y0_0).bind fun t11 => (if (y8 ++ y0_2).length + t11.length ≤ 17592186044416 then ((spec_l5Whole.f k y3_0 (y7 ++ y0_1) ((y8 ++ y0_2) ++ t11) y9).bind fun t12 => (some (spec_ChainAutomaton.en (t12.1, t12.2.1, t12.2.2.1, t12.2.2.2.1, t12.2.2.2.2)))) else none)) else none) else ((spec_l5Shift.f k y1_2 y0_0).bind fun t13 => (if y8.length + t13.length ≤ 17592186044416 then ((spec_l5Whole.f k y3_0 (y7 ++ y0_1) (y8 ++ t13) y9).bind fun t14 => (some (spec_ChainAutomaton.en (t14.1, t14.2.1, t14.2.2.1, t14.2.2.2.1, t14.2.2.2.2)))) else none)))))) else none)) := by kernel_rfl
set_option maxRecDepth 100000 in
theorem spec_ChainAutomaton.e1 (k : Nat) (x20 : List Stp) (x21 : Int) (x22 : Int) (x27 : List Int) (x28 : Int) (x29 : Int) (y0_0 : Int) (y0_1 : List Int) (y0_2 : List Int) (y0_3 : List Stp) (y1_0 : Int) (y1_1 : List Int) (y1_2 : List Int) (y1_3 : List Stp) (y3_0 : Int) (y8 : List Int) (y9 : List Int) (y10 : List Stp) (y4_0 : Int) (y4_1 : ByteArray) (y4_2 : Int) (y4_3 : Int) : spec_ChainAutomaton.x1 (k + 1) x20 x21 x22 x27 x28 x29 y0_0 y0_1 y0_2 y0_3 y1_0 y1_1 y1_2 y1_3 y3_0 y8 y9 y10 y4_0 y4_1 y4_2 y4_3 = (if x29 < x28 then (if 0 ≤ x29 then (if x29 < (x27.length : Int) then ((spec_l4In.f k y0_2 y4_2).bind fun t15 => (if t15 = true then ((spec_l3Put.f k y10 y4_0 y4_1 (wr64 ((rdI x27 x29) + y0_0)) y4_3).bind fun t16 => (spec_ChainAutomaton.x1 k x20 x21 x22 x27 x28 (wr64 (x29 + 1)) y0_0 y0_1 y0_2 y0_3 y1_0 y1_1 y1_2 y1_3 y3_0 y8 y9 t16 y4_0 y4_1 y4_2 y4_3)) else (spec_ChainAutomaton.x1 k x20 x21 x22 x27 x28 (wr64 (x29 + 1)) y0_0 y0_1 y0_2 y0_3 y1_0 y1_1 y1_2 y1_3 y3_0 y8 y9 y10 y4_0 y4_1 y4_2 y4_3))) else none) else none) else (spec_ChainAutomaton.x0 k x20 x21 (wr64 (x22 + 1)) y0_0 y0_1 y0_2 y0_3 y1_0 y1_1 y1_2 y1_3 y3_0 y8 y9 y10)) := by kernel_rfl
set_option maxRecDepth 100000 in
theorem spec_ChainAutomaton.ef (k : Nat) (a0_0 : Int) (l0_1 : List Int) (l0_2 : List Int) (l0_3 : List Stp) (a1_0 : Int) (l1_1 : List Int) (l1_2 : List Int) (l1_3 : List Stp) : R.start Try.prog xhn spec_ChainAutomaton.O 0 Try.f30 spec_ChainAutomaton.fh k [.agg [.int .i64 a0_0, .imm (.I .i64 l0_1), .imm (.I .i64 l0_2), .imm (.T l0_3)], .agg [.int .i64 a1_0, .imm (.I .i64 l1_1), .imm (.I .i64 l1_2), .imm (.T l1_3)]] [] = ((spec_l5Two.f k a0_0 l0_1 l0_2 l0_3 a1_0 l1_1 l1_2 l1_3).bind fun t1 => (if t1 = true then ((spec_l5Beside.f k a0_0 l0_1 l0_2 l0_3 a1_0 l1_1 l1_2 l1_3).bind fun t2 => (spec_ChainAutomaton.x0 k l0_3 (l0_3.length : Int) 0 a0_0 l0_1 l0_2 l0_3 a1_0 l1_1 l1_2 l1_3 t2.1 t2.2.1 t2.2.2.1 t2.2.2.2)) else (some (spec_ChainAutomaton.en (0, ([] : List Int), ([] : List Int), ([] : List Stp), false))))) := by kernel_rfl
theorem spec_ChainAutomaton.link : ∀ k, (∀ (x20 : List Stp) (x21 : Int) (x22 : Int) (y0_0 : Int) (y0_1 : List Int) (y0_2 : List Int) (y0_3 : List Stp) (y1_0 : Int) (y1_1 : List Int) (y1_2 : List Int) (y1_3 : List Stp) (y3_0 : Int) (y7 : List Int) (y8 : List Int) (y9 : List Stp), spec_ChainAutomaton.x0 k x20 x21 x22 y0_0 y0_1 y0_2 y0_3 y1_0 y1_1 y1_2 y1_3 y3_0 y7 y8 y9 = (spec_ChainAutomaton.l0 k x20 x21 x22 y0_0 y0_1 y0_2 y0_3 y1_0 y1_1 y1_2 y1_3 y3_0 y7 y8 y9).map (spec_ChainAutomaton.en)) ∧ (∀ (x20 : List Stp) (x21 : Int) (x22 : Int) (x27 : List Int) (x28 : Int) (x29 : Int) (y0_0 : Int) (y0_1 : List Int) (y0_2 : List Int) (y0_3 : List Stp) (y1_0 : Int) (y1_1 : List Int) (y1_2 : List Int) (y1_3 : List Stp) (y3_0 : Int) (y8 : List Int) (y9 : List Int) (y10 : List Stp) (y4_0 : Int) (y4_1 : ByteArray) (y4_2 : Int) (y4_3 : Int), spec_ChainAutomaton.x1 k x20 x21 x22 x27 x28 x29 y0_0 y0_1 y0_2 y0_3 y1_0 y1_1 y1_2 y1_3 y3_0 y8 y9 y10 y4_0 y4_1 y4_2 y4_3 = (spec_ChainAutomaton.l1 k x20 x21 x22 x27 x28 x29 y0_0 y0_1 y0_2 y0_3 y1_0 y1_1 y1_2 y1_3 y3_0 y8 y9 y10 y4_0 y4_1 y4_2 y4_3).map (spec_ChainAutomaton.en))
  | 0 => ⟨fun _ _ _ _ _ _ _ _ _ _ _ _ _ _ _ => by simp only [spec_ChainAutomaton.l0, R.map_none]; rfl, fun _ _ _ _ _ _ _ _ _ _ _ _ _ _ _ _ _ _ _ _ _ _ => by simp only [spec_ChainAutomaton.l1, R.map_none]; rfl⟩
  | k + 1 => by
    obtain ⟨ih0, ih1⟩ := spec_ChainAutomaton.link k
    refine ⟨?_, ?_⟩
    · intro x20 x21 x22 y0_0 y0_1 y0_2 y0_3 y1_0 y1_1 y1_2 y1_3 y3_0 y7 y8 y9
      rw [spec_ChainAutomaton.e0]
      simp only [spec_ChainAutomaton.l0, R.map_ite, R.map_bind, R.map_none, R.map_some, R.wr64_eq, ← ih0, ← ih1]
    · intro x20 x21 x22 x27 x28 x29 y0_0 y0_1 y0_2 y0_3 y1_0 y1_1 y1_2 y1_3 y3_0 y8 y9 y10 y4_0 y4_1 y4_2 y4_3
      rw [spec_ChainAutomaton.e1]
      simp only [spec_ChainAutomaton.l1, R.map_ite, R.map_bind, R.map_none, R.map_some, R.wr64_eq, ← ih0, ← ih1]
theorem spec_ChainAutomaton.sf (k : Nat) (a0_0 : Int) (l0_1 : List Int) (l0_2 : List Int) (l0_3 : List Stp) (a1_0 : Int) (l1_1 : List Int) (l1_2 : List Int) (l1_3 : List Stp) : R.start Try.prog xhn spec_ChainAutomaton.O 0 Try.f30 spec_ChainAutomaton.fh k [.agg [.int .i64 a0_0, .imm (.I .i64 l0_1), .imm (.I .i64 l0_2), .imm (.T l0_3)], .agg [.int .i64 a1_0, .imm (.I .i64 l1_1), .imm (.I .i64 l1_2), .imm (.T l1_3)]] [] = (spec_ChainAutomaton.f k a0_0 l0_1 l0_2 l0_3 a1_0 l1_1 l1_2 l1_3).map (spec_ChainAutomaton.en) := by
  obtain ⟨ih0, ih1⟩ := spec_ChainAutomaton.link k
  rw [spec_ChainAutomaton.ef]
  simp only [spec_ChainAutomaton.f, R.map_ite, R.map_bind, R.map_none, R.map_some, R.wr64_eq, ← ih0, ← ih1]
theorem spec_ChainAutomaton.ok (k : Nat) : spec_ChainAutomaton.tw.Ok Try.prog k := by
  intro md hmd a r h
  refine fn_ok (H := xhn) (fh := spec_ChainAutomaton.fh) (O := spec_ChainAutomaton.O) (k := k) Try.func30 (by kernel_rfl) (by kernel_rfl) (fun j _ => (Tw.orc_sound spec_l5Two.dok (spec_l5Two.ok j) (fun _ => rfl) (Tw.orc_sound spec_l5Beside.dok (spec_l5Beside.ok j) (fun _ => rfl) (Tw.orc_sound spec_l5Empty.dok (spec_l5Empty.ok j) (fun _ => rfl) (Tw.orc_sound spec_l5Shift.dok (spec_l5Shift.ok j) (fun _ => rfl) (Tw.orc_sound spec_l5Whole.dok (spec_l5Whole.ok j) (fun _ => rfl) (Tw.orc_sound spec_l4In.dok (spec_l4In.ok j) (fun _ => rfl) (Tw.orc_sound spec_l3Put.dok (spec_l3Put.ok j) (fun _ => rfl) noO_sound)))))))) (by kernel_rfl) (m := 0) rfl ?_
  refine (spec_ChainAutomaton.sf k a.1 a.2.1 a.2.2.1 a.2.2.2.1 a.2.2.2.2.1 a.2.2.2.2.2.1 a.2.2.2.2.2.2.1 a.2.2.2.2.2.2.2).trans ?_
  exact congrArg (Option.map _) h
def laws_daSame.l0 : Nat → (List Int) → (List Int) → Int → Int → Option (Bool)
  | 0, _, _, _, _ => none
  | k + 1, x0, x1, x10, x11 => (if x11 < x10 then (if 0 ≤ x11 then (if x11 < (x0.length : Int) then (if x11 < (x1.length : Int) then (if (rdI x0 x11) = (rdI x1 x11) then (laws_daSame.l0 k x0 x1 x10 (wrap64 (x11 + 1))) else (some false)) else none) else none) else none) else (some (decide ((x0.length : Int) = (x1.length : Int)))))
def laws_daSame.f (k : Nat) (l0 : List Int) (l1 : List Int) : Option (Bool) := (laws_daSame.l0 k l0 l1 (mn (l0.length : Int) (l1.length : Int)) 0)
def laws_daSame.en (r : Bool) : Res := (.lit r, [])
def laws_daSame.dec : List AV → List R.Obj → Option ((List Int) × (List Int))
  | [.imm (.I .i64 l0), .imm (.I .i64 l1)], [] => some (l0, l1)
  | _, _ => none
def laws_daSame.tw : Tw := ⟨99, (List Int) × (List Int), Bool, laws_daSame.dec, fun a => [.imm (.I .i64 a.1), .imm (.I .i64 a.2)], fun a => [], fun k a => laws_daSame.f k a.1 a.2, fun a r => laws_daSame.en r, true⟩
theorem laws_daSame.dok : laws_daSame.tw.DecOk := by
  intro args hc a h
  have h : laws_daSame.dec args hc = some a := h
  unfold laws_daSame.dec at h
  split at h
  · cases h; exact ⟨rfl, rfl⟩
  · cases h
noncomputable def laws_daSame.O (k : Nat) : Oracle := noO
def laws_daSame.fh : FH := ⟨fun i => match i with | 2 => some [(0, 0), (1, 0), (10, 0), (11, 0)] | _ => none, [], false⟩
noncomputable def laws_daSame.x0 (k : Nat) (x0 : List Int) (x1 : List Int) (x10 : Int) (x11 : Int) : Option Res := R.exec Try.prog xhn laws_daSame.O 0 Try.f99 laws_daSame.fh k (R.point Try.f99 2) ⟨[(0, .imm (.I .i64 x0)), (1, .imm (.I .i64 x1)), (10, .int .i64 x10), (11, .int .i64 x11)], [], 2⟩
set_option maxRecDepth 100000 in
theorem laws_daSame.e0 (k : Nat) (x0 : List Int) (x1 : List Int) (x10 : Int) (x11 : Int) : laws_daSame.x0 (k + 1) x0 x1 x10 x11 = (if x11 < x10 then (if 0 ≤ x11 then (if x11 < (x0.length : Int) then (if x11 < (x1.length : Int) then (if (rdI x0 x11) = (rdI x1 x11) then (laws_daSame.x0 k x0 x1 x10 (wr64 (x11 + 1))) else (some (laws_daSame.en false))) else none) else none) else none) else (some (laws_daSame.en (decide ((x0.length : Int) = (x1.length : Int)))))) := by
  refine Eq.trans ?_ (R.icong (fun h0 => (R.icong (fun h1 => (R.icong (fun h2 => (R.idropT (p := 0 ≤ x11) (z := none) h1 rfl)) (fun h2 => rfl))) (fun h1 => rfl))) (fun h0 => rfl))
  kernel_rfl
set_option maxRecDepth 100000 in
theorem laws_daSame.ef (k : Nat) (l0 : List Int) (l1 : List Int) : R.start Try.prog xhn laws_daSame.O 0 Try.f99 laws_daSame.fh k [.imm (.I .i64 l0), .imm (.I .i64 l1)] [] = (laws_daSame.x0 k l0 l1 (mn (l0.length : Int) (l1.length : Int)) 0) := by kernel_rfl
theorem laws_daSame.link : ∀ k, (∀ (x0 : List Int) (x1 : List Int) (x10 : Int) (x11 : Int), laws_daSame.x0 k x0 x1 x10 x11 = (laws_daSame.l0 k x0 x1 x10 x11).map (laws_daSame.en))
  | 0 => fun _ _ _ _ => by simp only [laws_daSame.l0, R.map_none]; rfl
  | k + 1 => by
    have ih0 := laws_daSame.link k
    · intro x0 x1 x10 x11
      rw [laws_daSame.e0]
      simp only [laws_daSame.l0, R.map_ite, R.map_bind, R.map_none, R.map_some, R.wr64_eq, ← ih0]
theorem laws_daSame.sf (k : Nat) (l0 : List Int) (l1 : List Int) : R.start Try.prog xhn laws_daSame.O 0 Try.f99 laws_daSame.fh k [.imm (.I .i64 l0), .imm (.I .i64 l1)] [] = (laws_daSame.f k l0 l1).map (laws_daSame.en) := by
  have ih0 := laws_daSame.link k
  rw [laws_daSame.ef]
  simp only [laws_daSame.f, R.map_ite, R.map_bind, R.map_none, R.map_some, R.wr64_eq, ← ih0]
theorem laws_daSame.ok (k : Nat) : laws_daSame.tw.Ok Try.prog k := by
  intro md hmd a r h
  refine fn_ok (H := xhn) (fh := laws_daSame.fh) (O := laws_daSame.O) (k := k) Try.func99 (by kernel_rfl) (by kernel_rfl) (fun j _ => noO_sound) (by kernel_rfl) (m := 0) rfl ?_
  refine (laws_daSame.sf k a.1 a.2).trans ?_
  exact congrArg (Option.map _) h
def laws_daAutomaton.l0 : Nat → Int → Int → Int → (List Int) → (List Int) → (List Stp) → Int → (List Int) → (List Int) → (List Stp) → Option (Bool)
  | 0, _, _, _, _, _, _, _, _, _, _ => none
  | k + 1, x12, x13, y0_0, y0_1, y0_2, y0_3, y1_0, y1_1, y1_2, y1_3 => (if x13 < x12 then (if 0 ≤ x13 then (if x13 < (y0_3.length : Int) then (if x13 < (y1_3.length : Int) then (if (!eqT ((rdT y0_3 x13).f0) ((rdT y0_3 x13).f1) ((rdT y0_3 x13).f2) ((rdT y0_3 x13).f3) ((rdT y1_3 x13).f0) ((rdT y1_3 x13).f1) ((rdT y1_3 x13).f2) ((rdT y1_3 x13).f3)) = true then (some false) else (laws_daAutomaton.l0 k x12 (wrap64 (x13 + 1)) y0_0 y0_1 y0_2 y0_3 y1_0 y1_1 y1_2 y1_3)) else none) else none) else none) else (if y0_0 = y1_0 then ((laws_daSame.f k y0_1 y1_1).bind fun t1 => (if t1 = true then ((laws_daSame.f k y0_2 y1_2).bind fun t2 => (if t2 = true then (some (decide ((y0_3.length : Int) = (y1_3.length : Int)))) else (some false))) else (some false))) else (some false)))
def laws_daAutomaton.f (k : Nat) (a0_0 : Int) (l0_1 : List Int) (l0_2 : List Int) (l0_3 : List Stp) (a1_0 : Int) (l1_1 : List Int) (l1_2 : List Int) (l1_3 : List Stp) : Option (Bool) := (laws_daAutomaton.l0 k (mn (l0_3.length : Int) (l1_3.length : Int)) 0 a0_0 l0_1 l0_2 l0_3 a1_0 l1_1 l1_2 l1_3)
def laws_daAutomaton.en (r : Bool) : Res := (.lit r, [])
def laws_daAutomaton.dec : List AV → List R.Obj → Option (Int × (List Int) × (List Int) × (List Stp) × Int × (List Int) × (List Int) × (List Stp))
  | [.agg [.int .i64 a0_0, .imm (.I .i64 l0_1), .imm (.I .i64 l0_2), .imm (.T l0_3)], .agg [.int .i64 a1_0, .imm (.I .i64 l1_1), .imm (.I .i64 l1_2), .imm (.T l1_3)]], [] => some (a0_0, l0_1, l0_2, l0_3, a1_0, l1_1, l1_2, l1_3)
  | _, _ => none
def laws_daAutomaton.tw : Tw := ⟨38, Int × (List Int) × (List Int) × (List Stp) × Int × (List Int) × (List Int) × (List Stp), Bool, laws_daAutomaton.dec, fun a => [.agg [.int .i64 a.1, .imm (.I .i64 a.2.1), .imm (.I .i64 a.2.2.1), .imm (.T a.2.2.2.1)], .agg [.int .i64 a.2.2.2.2.1, .imm (.I .i64 a.2.2.2.2.2.1), .imm (.I .i64 a.2.2.2.2.2.2.1), .imm (.T a.2.2.2.2.2.2.2)]], fun a => [], fun k a => laws_daAutomaton.f k a.1 a.2.1 a.2.2.1 a.2.2.2.1 a.2.2.2.2.1 a.2.2.2.2.2.1 a.2.2.2.2.2.2.1 a.2.2.2.2.2.2.2, fun a r => laws_daAutomaton.en r, true⟩
theorem laws_daAutomaton.dok : laws_daAutomaton.tw.DecOk := by
  intro args hc a h
  have h : laws_daAutomaton.dec args hc = some a := h
  unfold laws_daAutomaton.dec at h
  split at h
  · cases h; exact ⟨rfl, rfl⟩
  · cases h
noncomputable def laws_daAutomaton.O (k : Nat) : Oracle := (laws_daSame.tw.orc k noO)
def laws_daAutomaton.fh : FH := ⟨fun i => match i with | 2 => some [(2, 0), (3, 0), (12, 0), (13, 0)] | _ => none, [], false⟩
noncomputable def laws_daAutomaton.x0 (k : Nat) (x12 : Int) (x13 : Int) (y0_0 : Int) (y0_1 : List Int) (y0_2 : List Int) (y0_3 : List Stp) (y1_0 : Int) (y1_1 : List Int) (y1_2 : List Int) (y1_3 : List Stp) : Option Res := R.exec Try.prog xhn laws_daAutomaton.O 0 Try.f38 laws_daAutomaton.fh k (R.point Try.f38 2) ⟨[(2, .ptr 0 0), (3, .ptr 1 0), (12, .int .i64 x12), (13, .int .i64 x13)], [(0, .box false [.int .i64 y0_0, .imm (.I .i64 y0_1), .imm (.I .i64 y0_2), .imm (.T y0_3)]), (1, .box false [.int .i64 y1_0, .imm (.I .i64 y1_1), .imm (.I .i64 y1_2), .imm (.T y1_3)])], 4⟩
set_option maxRecDepth 100000 in
theorem laws_daAutomaton.e0 (k : Nat) (x12 : Int) (x13 : Int) (y0_0 : Int) (y0_1 : List Int) (y0_2 : List Int) (y0_3 : List Stp) (y1_0 : Int) (y1_1 : List Int) (y1_2 : List Int) (y1_3 : List Stp) : laws_daAutomaton.x0 (k + 1) x12 x13 y0_0 y0_1 y0_2 y0_3 y1_0 y1_1 y1_2 y1_3 = (if x13 < x12 then (if 0 ≤ x13 then (if x13 < (y0_3.length : Int) then (if x13 < (y1_3.length : Int) then (if (!eqT ((rdT y0_3 x13).f0) ((rdT y0_3 x13).f1) ((rdT y0_3 x13).f2) ((rdT y0_3 x13).f3) ((rdT y1_3 x13).f0) ((rdT y1_3 x13).f1) ((rdT y1_3 x13).f2) ((rdT y1_3 x13).f3)) = true then (some (laws_daAutomaton.en false)) else (laws_daAutomaton.x0 k x12 (wr64 (x13 + 1)) y0_0 y0_1 y0_2 y0_3 y1_0 y1_1 y1_2 y1_3)) else none) else none) else none) else (if y0_0 = y1_0 then ((laws_daSame.f k y0_1 y1_1).bind fun t1 => (if t1 = true then ((laws_daSame.f k y0_2 y1_2).bind fun t2 => (if t2 = true then (some (laws_daAutomaton.en (decide ((y0_3.length : Int) = (y1_3.length : Int))))) else (some (laws_daAutomaton.en false)))) else (some (laws_daAutomaton.en false)))) else (some (laws_daAutomaton.en false)))) := by
  refine Eq.trans ?_ (R.icong (fun h0 => (R.icong (fun h1 => (R.icong (fun h2 => (R.idropT (p := 0 ≤ x13) (z := none) h1 rfl)) (fun h2 => rfl))) (fun h1 => rfl))) (fun h0 => rfl))
  kernel_rfl
set_option maxRecDepth 100000 in
theorem laws_daAutomaton.ef (k : Nat) (a0_0 : Int) (l0_1 : List Int) (l0_2 : List Int) (l0_3 : List Stp) (a1_0 : Int) (l1_1 : List Int) (l1_2 : List Int) (l1_3 : List Stp) : R.start Try.prog xhn laws_daAutomaton.O 0 Try.f38 laws_daAutomaton.fh k [.agg [.int .i64 a0_0, .imm (.I .i64 l0_1), .imm (.I .i64 l0_2), .imm (.T l0_3)], .agg [.int .i64 a1_0, .imm (.I .i64 l1_1), .imm (.I .i64 l1_2), .imm (.T l1_3)]] [] = (laws_daAutomaton.x0 k (mn (l0_3.length : Int) (l1_3.length : Int)) 0 a0_0 l0_1 l0_2 l0_3 a1_0 l1_1 l1_2 l1_3) := by kernel_rfl
theorem laws_daAutomaton.link : ∀ k, (∀ (x12 : Int) (x13 : Int) (y0_0 : Int) (y0_1 : List Int) (y0_2 : List Int) (y0_3 : List Stp) (y1_0 : Int) (y1_1 : List Int) (y1_2 : List Int) (y1_3 : List Stp), laws_daAutomaton.x0 k x12 x13 y0_0 y0_1 y0_2 y0_3 y1_0 y1_1 y1_2 y1_3 = (laws_daAutomaton.l0 k x12 x13 y0_0 y0_1 y0_2 y0_3 y1_0 y1_1 y1_2 y1_3).map (laws_daAutomaton.en))
  | 0 => fun _ _ _ _ _ _ _ _ _ _ => by simp only [laws_daAutomaton.l0, R.map_none]; rfl
  | k + 1 => by
    have ih0 := laws_daAutomaton.link k
    · intro x12 x13 y0_0 y0_1 y0_2 y0_3 y1_0 y1_1 y1_2 y1_3
      rw [laws_daAutomaton.e0]
      simp only [laws_daAutomaton.l0, R.map_ite, R.map_bind, R.map_none, R.map_some, R.wr64_eq, ← ih0]
theorem laws_daAutomaton.sf (k : Nat) (a0_0 : Int) (l0_1 : List Int) (l0_2 : List Int) (l0_3 : List Stp) (a1_0 : Int) (l1_1 : List Int) (l1_2 : List Int) (l1_3 : List Stp) : R.start Try.prog xhn laws_daAutomaton.O 0 Try.f38 laws_daAutomaton.fh k [.agg [.int .i64 a0_0, .imm (.I .i64 l0_1), .imm (.I .i64 l0_2), .imm (.T l0_3)], .agg [.int .i64 a1_0, .imm (.I .i64 l1_1), .imm (.I .i64 l1_2), .imm (.T l1_3)]] [] = (laws_daAutomaton.f k a0_0 l0_1 l0_2 l0_3 a1_0 l1_1 l1_2 l1_3).map (laws_daAutomaton.en) := by
  have ih0 := laws_daAutomaton.link k
  rw [laws_daAutomaton.ef]
  simp only [laws_daAutomaton.f, R.map_ite, R.map_bind, R.map_none, R.map_some, R.wr64_eq, ← ih0]
theorem laws_daAutomaton.ok (k : Nat) : laws_daAutomaton.tw.Ok Try.prog k := by
  intro md hmd a r h
  refine fn_ok (H := xhn) (fh := laws_daAutomaton.fh) (O := laws_daAutomaton.O) (k := k) Try.func38 (by kernel_rfl) (by kernel_rfl) (fun j _ => (Tw.orc_sound laws_daSame.dok (laws_daSame.ok j) (fun _ => rfl) noO_sound)) (by kernel_rfl) (m := 0) rfl ?_
  refine (laws_daAutomaton.sf k a.1 a.2.1 a.2.2.1 a.2.2.2.1 a.2.2.2.2.1 a.2.2.2.2.2.1 a.2.2.2.2.2.2.1 a.2.2.2.2.2.2.2).trans ?_
  exact congrArg (Option.map _) h
mutual
def impl_ShortWords.l0 : Nat → Int → (List ByteArray) → Int → Option ((List ByteArray) × Bool)
  | 0, _, _, _ => none
  | k + 1, x0, y0, x5 => (if 0 ≤ (wrap64 ((y0.length : Int) - 1)) then (if (wrap64 ((y0.length : Int) - 1)) < (y0.length : Int) then (if ((rdS y0 (wrap64 ((y0.length : Int) - 1))).size : Int) < x0 then (if 0 ≤ x5 then (if x5 ≤ (y0.length : Int) then (if (y0.length : Int) ≤ (y0.length : Int) then (impl_ShortWords.l1 k x0 y0 (y0.length : Int) ((y0.drop x5.toNat).take (y0.length - x5.toNat)) (((y0.drop x5.toNat).take (y0.length - x5.toNat)).length : Int) 0) else none) else none) else none) else (some (y0, true))) else none) else none)
def impl_ShortWords.l1 : Nat → Int → (List ByteArray) → Int → (List ByteArray) → Int → Int → Option ((List ByteArray) × Bool)
  | 0, _, _, _, _, _, _ => none
  | k + 1, x0, y0, x6, x30, x31, x32 => (if x32 < x31 then (if 0 ≤ x32 then (if x32 < (x30.length : Int) then (if (rdS x30 x32).size + 1 ≤ 9223372036854775807 then (if y0.length + [((rdS x30 x32) ++ (⟨#[97]⟩ : ByteArray)), ((rdS x30 x32) ++ (⟨#[98]⟩ : ByteArray))].length ≤ 8796093022208 then (impl_ShortWords.l1 k x0 (y0 ++ [((rdS x30 x32) ++ (⟨#[97]⟩ : ByteArray)), ((rdS x30 x32) ++ (⟨#[98]⟩ : ByteArray))]) x6 x30 x31 (wrap64 (x32 + 1))) else none) else none) else none) else none) else (impl_ShortWords.l0 k x0 y0 x6))
end
def impl_ShortWords.f (k : Nat) (a0 : Int) : Option ((List ByteArray) × Bool) := (if a0 < 0 then (some (([] : List ByteArray), false)) else (if a0 > 7 then (some (([] : List ByteArray), false)) else (impl_ShortWords.l0 k a0 ([(⟨#[]⟩ : ByteArray)]) 0)))
def impl_ShortWords.en (r : (List ByteArray) × Bool) : Res := (.tup [.imm (.S r.1), .lit r.2], [])
def impl_ShortWords.dec : List AV → List R.Obj → Option (Int)
  | [.int .i64 a0], [] => some a0
  | _, _ => none
def impl_ShortWords.tw : Tw := ⟨39, Int, (List ByteArray) × Bool, impl_ShortWords.dec, fun a => [.int .i64 a], fun a => [], fun k a => impl_ShortWords.f k a, fun a r => impl_ShortWords.en r, true⟩
theorem impl_ShortWords.dok : impl_ShortWords.tw.DecOk := by
  intro args hc a h
  have h : impl_ShortWords.dec args hc = some a := h
  unfold impl_ShortWords.dec at h
  split at h
  · cases h; exact ⟨rfl, rfl⟩
  · cases h
noncomputable def impl_ShortWords.O (k : Nat) : Oracle := noO
def impl_ShortWords.fh : FH := ⟨fun i => match i with | 5 => some [(0, 0), (4, 2), (5, 0)] | 8 => some [(0, 0), (4, 0), (6, 0), (30, 0), (31, 0), (32, 0)] | _ => none, [(false, 9)], false⟩
noncomputable def impl_ShortWords.x0 (k : Nat) (x0 : Int) (y0 : List ByteArray) (x5 : Int) : Option Res := R.exec Try.prog xhn impl_ShortWords.O 0 Try.f39 impl_ShortWords.fh k (R.point Try.f39 5) ⟨[(0, .int .i64 x0), (4, .sl 0 0), (5, .int .i64 x5)], [(0, .arr 9 0 (.S y0) true)], 3⟩
noncomputable def impl_ShortWords.x1 (k : Nat) (x0 : Int) (y0 : List ByteArray) (x6 : Int) (x30 : List ByteArray) (x31 : Int) (x32 : Int) : Option Res := R.exec Try.prog xhn impl_ShortWords.O 0 Try.f39 impl_ShortWords.fh k (R.point Try.f39 8) ⟨[(0, .int .i64 x0), (4, .sl 0 0), (6, .int .i64 x6), (30, .imm (.S x30)), (31, .int .i64 x31), (32, .int .i64 x32)], [(0, .arr 9 0 (.S y0) true)], 3⟩
set_option maxRecDepth 100000 in
theorem impl_ShortWords.e0 (k : Nat) (x0 : Int) (y0 : List ByteArray) (x5 : Int) : impl_ShortWords.x0 (k + 1) x0 y0 x5 = (if 0 ≤ (wr64 ((y0.length : Int) - 1)) then (if (wr64 ((y0.length : Int) - 1)) < (y0.length : Int) then (if ((rdS y0 (wr64 ((y0.length : Int) - 1))).size : Int) < x0 then (if 0 ≤ x5 then (if x5 ≤ (y0.length : Int) then (if (y0.length : Int) ≤ (y0.length : Int) then (impl_ShortWords.x1 k x0 y0 (y0.length : Int) ((y0.drop x5.toNat).take (y0.length - x5.toNat)) (((y0.drop x5.toNat).take (y0.length - x5.toNat)).length : Int) 0) else none) else none) else none) else (some (impl_ShortWords.en (y0, true)))) else none) else none) := by kernel_rfl
set_option maxRecDepth 100000 in
theorem impl_ShortWords.e1 (k : Nat) (x0 : Int) (y0 : List ByteArray) (x6 : Int) (x30 : List ByteArray) (x31 : Int) (x32 : Int) : impl_ShortWords.x1 (k + 1) x0 y0 x6 x30 x31 x32 = (if x32 < x31 then (if 0 ≤ x32 then (if x32 < (x30.length : Int) then (if (rdS x30 x32).size + 1 ≤ 9223372036854775807 then (if y0.length + [((rdS x30 x32) ++ (⟨#[97]⟩ : ByteArray)), ((rdS x30 x32) ++ (⟨#[98]⟩ : ByteArray))].length ≤ 8796093022208 then (impl_ShortWords.x1 k x0 (y0 ++ [((rdS x30 x32) ++ (⟨#[97]⟩ : ByteArray)), ((rdS x30 x32) ++ (⟨#[98]⟩ : ByteArray))]) x6 x30 x31 (wr64 (x32 + 1))) else none) else none) else none) else none) else (impl_ShortWords.x0 k x0 y0 x6)) := by
  refine Eq.trans ?_ (R.icong (fun h0 => (R.icong (fun h1 => (R.icong (fun h2 => (R.icong (fun h3 => (R.idropT (p := (rdS x30 x32).size + 1 ≤ 9223372036854775807) (z := none) h3 rfl)) (fun h3 => rfl))) (fun h2 => rfl))) (fun h1 => rfl))) (fun h0 => rfl))
  kernel_rfl
set_option maxRecDepth 100000 in
theorem impl_ShortWords.ef (k : Nat) (a0 : Int) : R.start Try.prog xhn impl_ShortWords.O 0 Try.f39 impl_ShortWords.fh k [.int .i64 a0] [] = (if a0 < 0 then (some (impl_ShortWords.en (([] : List ByteArray), false))) else (if a0 > 7 then (some (impl_ShortWords.en (([] : List ByteArray), false))) else (impl_ShortWords.x0 k a0 ([(⟨#[]⟩ : ByteArray)]) 0))) := by kernel_rfl
theorem impl_ShortWords.link : ∀ k, (∀ (x0 : Int) (y0 : List ByteArray) (x5 : Int), impl_ShortWords.x0 k x0 y0 x5 = (impl_ShortWords.l0 k x0 y0 x5).map (impl_ShortWords.en)) ∧ (∀ (x0 : Int) (y0 : List ByteArray) (x6 : Int) (x30 : List ByteArray) (x31 : Int) (x32 : Int), impl_ShortWords.x1 k x0 y0 x6 x30 x31 x32 = (impl_ShortWords.l1 k x0 y0 x6 x30 x31 x32).map (impl_ShortWords.en))
  | 0 => ⟨fun _ _ _ => by simp only [impl_ShortWords.l0, R.map_none]; rfl, fun _ _ _ _ _ _ => by simp only [impl_ShortWords.l1, R.map_none]; rfl⟩
  | k + 1 => by
    obtain ⟨ih0, ih1⟩ := impl_ShortWords.link k
    refine ⟨?_, ?_⟩
    · intro x0 y0 x5
      rw [impl_ShortWords.e0]
      simp only [impl_ShortWords.l0, R.map_ite, R.map_bind, R.map_none, R.map_some, R.wr64_eq, ← ih0, ← ih1]
    · intro x0 y0 x6 x30 x31 x32
      rw [impl_ShortWords.e1]
      simp only [impl_ShortWords.l1, R.map_ite, R.map_bind, R.map_none, R.map_some, R.wr64_eq, ← ih0, ← ih1]
theorem impl_ShortWords.sf (k : Nat) (a0 : Int) : R.start Try.prog xhn impl_ShortWords.O 0 Try.f39 impl_ShortWords.fh k [.int .i64 a0] [] = (impl_ShortWords.f k a0).map (impl_ShortWords.en) := by
  obtain ⟨ih0, ih1⟩ := impl_ShortWords.link k
  rw [impl_ShortWords.ef]
  simp only [impl_ShortWords.f, R.map_ite, R.map_bind, R.map_none, R.map_some, R.wr64_eq, ← ih0, ← ih1]
theorem impl_ShortWords.ok (k : Nat) : impl_ShortWords.tw.Ok Try.prog k := by
  intro md hmd a r h
  refine fn_ok (H := xhn) (fh := impl_ShortWords.fh) (O := impl_ShortWords.O) (k := k) Try.func39 (by kernel_rfl) (by kernel_rfl) (fun j _ => noO_sound) (by kernel_rfl) (m := 0) rfl ?_
  refine (impl_ShortWords.sf k a).trans ?_
  exact congrArg (Option.map _) h
def impl_WordValid.l0 : Nat → ByteArray → Int → Int → Option (Bool)
  | 0, _, _, _ => none
  | k + 1, x0, x5, x6 => (if x6 < x5 then (if 0 ≤ x6 then (if x6 < (x0.size : Int) then (if (btI x0 x6) = 97 then (impl_WordValid.l0 k x0 x5 (wrap64 (x6 + 1))) else (if (btI x0 x6) = 98 then (impl_WordValid.l0 k x0 x5 (wrap64 (x6 + 1))) else (some false))) else none) else none) else (some (decide ((x0.size : Int) ≤ 1000))))
def impl_WordValid.f (k : Nat) (a0 : ByteArray) : Option (Bool) := (impl_WordValid.l0 k a0 (a0.size : Int) 0)
def impl_WordValid.en (r : Bool) : Res := (.lit r, [])
def impl_WordValid.dec : List AV → List R.Obj → Option (ByteArray)
  | [.str a0], [] => some a0
  | _, _ => none
def impl_WordValid.tw : Tw := ⟨47, ByteArray, Bool, impl_WordValid.dec, fun a => [.str a], fun a => [], fun k a => impl_WordValid.f k a, fun a r => impl_WordValid.en r, true⟩
theorem impl_WordValid.dok : impl_WordValid.tw.DecOk := by
  intro args hc a h
  have h : impl_WordValid.dec args hc = some a := h
  unfold impl_WordValid.dec at h
  split at h
  · cases h; exact ⟨rfl, rfl⟩
  · cases h
noncomputable def impl_WordValid.O (k : Nat) : Oracle := noO
def impl_WordValid.fh : FH := ⟨fun i => match i with | 2 => some [(0, 0), (5, 0), (6, 0)] | _ => none, [], false⟩
noncomputable def impl_WordValid.x0 (k : Nat) (x0 : ByteArray) (x5 : Int) (x6 : Int) : Option Res := R.exec Try.prog xhn impl_WordValid.O 0 Try.f47 impl_WordValid.fh k (R.point Try.f47 2) ⟨[(0, .str x0), (5, .int .i64 x5), (6, .int .i64 x6)], [], 2⟩
set_option maxRecDepth 100000 in
theorem impl_WordValid.e0 (k : Nat) (x0 : ByteArray) (x5 : Int) (x6 : Int) : impl_WordValid.x0 (k + 1) x0 x5 x6 = (if x6 < x5 then (if 0 ≤ x6 then (if x6 < (x0.size : Int) then (if (btI x0 x6) = 97 then (impl_WordValid.x0 k x0 x5 (wr64 (x6 + 1))) else (if (btI x0 x6) = 98 then (impl_WordValid.x0 k x0 x5 (wr64 (x6 + 1))) else (some (impl_WordValid.en false)))) else none) else none) else (some (impl_WordValid.en (decide ((x0.size : Int) ≤ 1000))))) := by
  refine Eq.trans ?_ (R.icong (fun h0 => (R.icong (fun h1 => (R.icong (fun h2 => (R.icong (fun h3 => rfl) (fun h3 => (R.idropT (p := 0 ≤ x6) (z := none) h1 (R.idropT (p := x6 < (x0.size : Int)) (z := none) h2 rfl))))) (fun h2 => rfl))) (fun h1 => rfl))) (fun h0 => rfl))
  kernel_rfl
set_option maxRecDepth 100000 in
theorem impl_WordValid.ef (k : Nat) (a0 : ByteArray) : R.start Try.prog xhn impl_WordValid.O 0 Try.f47 impl_WordValid.fh k [.str a0] [] = (impl_WordValid.x0 k a0 (a0.size : Int) 0) := by kernel_rfl
theorem impl_WordValid.link : ∀ k, (∀ (x0 : ByteArray) (x5 : Int) (x6 : Int), impl_WordValid.x0 k x0 x5 x6 = (impl_WordValid.l0 k x0 x5 x6).map (impl_WordValid.en))
  | 0 => fun _ _ _ => by simp only [impl_WordValid.l0, R.map_none]; rfl
  | k + 1 => by
    have ih0 := impl_WordValid.link k
    · intro x0 x5 x6
      rw [impl_WordValid.e0]
      simp only [impl_WordValid.l0, R.map_ite, R.map_bind, R.map_none, R.map_some, R.wr64_eq, ← ih0]
theorem impl_WordValid.sf (k : Nat) (a0 : ByteArray) : R.start Try.prog xhn impl_WordValid.O 0 Try.f47 impl_WordValid.fh k [.str a0] [] = (impl_WordValid.f k a0).map (impl_WordValid.en) := by
  have ih0 := impl_WordValid.link k
  rw [impl_WordValid.ef]
  simp only [impl_WordValid.f, R.map_ite, R.map_bind, R.map_none, R.map_some, R.wr64_eq, ← ih0]
theorem impl_WordValid.ok (k : Nat) : impl_WordValid.tw.Ok Try.prog k := by
  intro md hmd a r h
  refine fn_ok (H := xhn) (fh := impl_WordValid.fh) (O := impl_WordValid.O) (k := k) Try.func47 (by kernel_rfl) (by kernel_rfl) (fun j _ => noO_sound) (by kernel_rfl) (m := 0) rfl ?_
  refine (impl_WordValid.sf k a).trans ?_
  exact congrArg (Option.map _) h
def slices_Repeat_int_int.f (l0 : List Int) (a1 : Int) : Option (List Int) := if l0.length = 1 ∧ 1 ≤ a1 ∧ a1 ≤ 4 then some (List.replicate a1.toNat (rdI l0 0)) else none
def slices_Repeat_int_int.dec : List AV → List R.Obj → Option (List Int × Int)
  | [.imm (.I .i64 l0), .int .i64 a1], [] => some (l0, a1)
  | _, _ => none
def slices_Repeat_int_int.tw : Tw := ⟨132, List Int × Int, List Int, slices_Repeat_int_int.dec, fun a => [.imm (.I .i64 a.1), .int .i64 a.2], fun a => [], fun k a => slices_Repeat_int_int.f a.1 a.2, fun a r => (.sl 0 0, [.arr 3 0 (.I .i64 r) false]), false⟩
theorem slices_Repeat_int_int.dok : slices_Repeat_int_int.tw.DecOk := by
  intro args hc a h
  have h : slices_Repeat_int_int.dec args hc = some a := h
  unfold slices_Repeat_int_int.dec at h
  split at h
  · cases h; exact ⟨rfl, rfl⟩
  · cases h
open Go.Proofs.YtoeeeafknajkkaaW.PrintWords in
theorem slices_Repeat_int_int.ok (k : Nat) : slices_Repeat_int_int.tw.Ok Try.prog k := by
  rintro md hmd ⟨l0, a1⟩ r h
  have h : slices_Repeat_int_int.f l0 a1 = some r := h
  refine ⟨callable_of Try.func132 (by kernel_rfl) (by kernel_rfl), fun w M I vs E => ?_⟩
  obtain ⟨V0, hV0⟩ : ∃ V0, vs[0]? = some V0 := ⟨vs[0]'(by have := E.len; have : 2 = vs.size := this; omega), Array.getElem?_eq_getElem _⟩
  have e : vs = #[V0, .int .i64 a1] := two_of E.len (fun q => Option.some.inj (q.symm.trans hV0)) (fun q => (E.args 1 _ _ rfl q).int_inv)
  obtain ⟨A0, c0, hs, hc, ha, hcell⟩ := (E.args 0 _ _ rfl hV0).imm_inv.imm_at
  subst hs
  subst e
  have hl : l0.length = 1 := by
    unfold slices_Repeat_int_int.f at h
    split at h
    · rename_i g; exact g.1
    · cases h
  have hr0 : Kd.C (Kd.int .i64) w A0 l0.length l0 := by
    refine ⟨rfl, by omega, fun hp => ?_⟩
    obtain ⟨b, o, rfl⟩ := ha hp
    refine ⟨_, rfl, fun j p hj => ⟨[.int .i64 p], rfl, rfl, fun i u hi => ?_⟩⟩
    have hjl : j < l0.length := (List.getElem?_eq_some_iff.1 hj).1
    match i with
    | 0 =>
      simp only [List.getElem?_cons_zero, Option.some.injEq] at hi
      subst hi
      obtain ⟨v, q1, _, q2⟩ := hcell b o rfl j 0 hjl (by simp [Ct.sz])
      have e1 : (Ct.I .i64 l0).sz = 1 := rfl
      rw [e1, Nat.mul_one, Nat.add_zero] at q1
      have e2 := (VR.closed (M := M) q2).int_inv
      rw [R.add_at, show (Kd.int IntKind.i64).sz = 1 from rfl, Nat.mul_one, Nat.add_zero, q1, e2]
      have e3 : rdI l0 (j : Int) = p := by simp [rdI, hj]
      exact congrArg (fun z => some (Value.int .i64 z)) e3
    | i + 1 => simp at hi
  refine (X.slices_Repeat_int_int.calls A0 c0 l0 a1 r w hr0 hc h).mono fun e w' => ?_
  rintro ⟨v, rfl, hR, hB⟩
  exact ext_ints (Kd.own_of_R (enc := Value.int .i64) (h1 := fun _ => rfl) hR) hB (fun q => Bool.noConfusion (show false = true from hmd q))
mutual
def impl_toEnd.l0 : Nat → ByteArray → (List Int) → (List Int) → Int → Int → Int → (List Int) → (List Int) → (List Stp) → Option (List (List Int))
  | 0, _, _, _, _, _, _, _, _, _ => none
  | k + 1, x1, y1, x18, x19, x20, y0_0, y0_1, y0_2, y0_3 => (if x20 < x19 then (if 0 ≤ x20 then (if x20 < (x18.length : Int) then (if 0 ≤ (rdI x18 x20) then (if (rdI x18 x20) < (y1.length : Int) then (impl_toEnd.l0 k x1 (y1.set (rdI x18 x20).toNat 0) x18 x19 (wrap64 (x20 + 1)) y0_0 y0_1 y0_2 y0_3) else none) else none) else none) else none) else (impl_toEnd.l1 k x1 y1 ([y1]) (wrap64 ((x1.size : Int) - 1)) y0_0 y0_1 y0_2 y0_3))
def impl_toEnd.l1 : Nat → ByteArray → (List Int) → (List (List Int)) → Int → Int → (List Int) → (List Int) → (List Stp) → Option (List (List Int))
  | 0, _, _, _, _, _, _, _, _ => none
  | k + 1, x1, y1, y2, x9, y0_0, y0_1, y0_2, y0_3 => (if x9 ≥ 0 then ((slices_Repeat_int_int.f ([1000000]) y0_0).bind fun t2 => (impl_toEnd.l2 k x1 y1 y2 x9 t2 y0_3 (y0_3.length : Int) 0 y0_0 y0_1 y0_2 y0_3)) else (some y2))
def impl_toEnd.l2 : Nat → ByteArray → (List Int) → (List (List Int)) → Int → (List Int) → (List Stp) → Int → Int → Int → (List Int) → (List Int) → (List Stp) → Option (List (List Int))
  | 0, _, _, _, _, _, _, _, _, _, _, _, _ => none
  | k + 1, x1, y1, y2, x9, y3, x42, x43, x44, y0_0, y0_1, y0_2, y0_3 => (if x44 < x43 then (if 0 ≤ x44 then (if x44 < (x42.length : Int) then (if 0 ≤ x9 then (if x9 ≤ (wrap64 (x9 + 1)) then (if (wrap64 (x9 + 1)) ≤ (x1.size : Int) then (if (rdT x42 x44).f1.toList = (x1.extract x9.toNat (wrap64 (x9 + 1)).toNat).toList then (if 0 ≤ (rdT x42 x44).f0 then (if (rdT x42 x44).f0 < (y3.length : Int) then (if 0 ≤ (rdT x42 x44).f2 then (if (rdT x42 x44).f2 < (y1.length : Int) then (impl_toEnd.l2 k x1 y1 y2 x9 (y3.set (rdT x42 x44).f0.toNat (mn (rdI y3 (rdT x42 x44).f0) (wrap64 ((rdT x42 x44).f3 + (rdI y1 (rdT x42 x44).f2))))) x42 x43 (wrap64 (x44 + 1)) y0_0 y0_1 y0_2 y0_3) else none) else none) else none) else none) else (impl_toEnd.l2 k x1 y1 y2 x9 y3 x42 x43 (wrap64 (x44 + 1)) y0_0 y0_1 y0_2 y0_3)) else none) else none) else none) else none) else none) else (if y2.length < 5864062014805 then (impl_toEnd.l1 k x1 y3 (y2 ++ [y3]) (wrap64 (x9 - 1)) y0_0 y0_1 y0_2 y0_3) else none))
end
def impl_toEnd.f (k : Nat) (a0_0 : Int) (l0_1 : List Int) (l0_2 : List Int) (l0_3 : List Stp) (a1 : ByteArray) : Option (List (List Int)) := ((slices_Repeat_int_int.f ([1000000]) a0_0).bind fun t1 => (impl_toEnd.l0 k a1 t1 l0_2 (l0_2.length : Int) 0 a0_0 l0_1 l0_2 l0_3))
def impl_toEnd.en (r : List (List Int)) : Res := (.sl 0 0, [.arr 22 0 (.L r) false])
def impl_toEnd.dec : List AV → List R.Obj → Option (Int × (List Int) × (List Int) × (List Stp) × ByteArray)
  | [.agg [.int .i64 a0_0, .imm (.I .i64 l0_1), .imm (.I .i64 l0_2), .imm (.T l0_3)], .str a1], [] => some (a0_0, l0_1, l0_2, l0_3, a1)
  | _, _ => none
def impl_toEnd.tw : Tw := ⟨96, Int × (List Int) × (List Int) × (List Stp) × ByteArray, List (List Int), impl_toEnd.dec, fun a => [.agg [.int .i64 a.1, .imm (.I .i64 a.2.1), .imm (.I .i64 a.2.2.1), .imm (.T a.2.2.2.1)], .str a.2.2.2.2], fun a => [], fun k a => impl_toEnd.f k a.1 a.2.1 a.2.2.1 a.2.2.2.1 a.2.2.2.2, fun a r => impl_toEnd.en r, false⟩
theorem impl_toEnd.dok : impl_toEnd.tw.DecOk := by
  intro args hc a h
  have h : impl_toEnd.dec args hc = some a := h
  unfold impl_toEnd.dec at h
  split at h
  · cases h; exact ⟨rfl, rfl⟩
  · cases h
noncomputable def impl_toEnd.O (k : Nat) : Oracle := (slices_Repeat_int_int.tw.orc k noO)
def impl_toEnd.fh : FH := ⟨fun i => match i with | 3 => some [(1, 0), (2, 0), (5, 0), (18, 0), (19, 0), (20, 0)] | 9 => some [(1, 0), (2, 0), (5, 0), (8, 0), (9, 0)] | 13 => some [(1, 0), (2, 0), (5, 0), (8, 0), (9, 0), (10, 0), (42, 0), (43, 0), (44, 0)] | _ => none, [(true, 22)], false⟩
noncomputable def impl_toEnd.x0 (k : Nat) (x1 : ByteArray) (y1 : List Int) (x18 : List Int) (x19 : Int) (x20 : Int) (y0_0 : Int) (y0_1 : List Int) (y0_2 : List Int) (y0_3 : List Stp) : Option Res := R.exec Try.prog xhn impl_toEnd.O 0 Try.f96 impl_toEnd.fh k (R.point Try.f96 3) ⟨[(1, .str x1), (2, .ptr 0 0), (5, .sl 1 0), (18, .imm (.I .i64 x18)), (19, .int .i64 x19), (20, .int .i64 x20)], [(0, .box false [.int .i64 y0_0, .imm (.I .i64 y0_1), .imm (.I .i64 y0_2), .imm (.T y0_3)]), (1, .arr 3 0 (.I .i64 y1) false)], 4⟩
noncomputable def impl_toEnd.x1 (k : Nat) (x1 : ByteArray) (y1 : List Int) (y2 : List (List Int)) (x9 : Int) (y0_0 : Int) (y0_1 : List Int) (y0_2 : List Int) (y0_3 : List Stp) : Option Res := R.exec Try.prog xhn impl_toEnd.O 0 Try.f96 impl_toEnd.fh k (R.point Try.f96 9) ⟨[(1, .str x1), (2, .ptr 0 0), (5, .sl 1 0), (8, .sl 2 0), (9, .int .i64 x9)], [(0, .box false [.int .i64 y0_0, .imm (.I .i64 y0_1), .imm (.I .i64 y0_2), .imm (.T y0_3)]), (1, .arr 3 0 (.I .i64 y1) true), (2, .arr 22 0 (.L y2) false)], 5⟩
noncomputable def impl_toEnd.x2 (k : Nat) (x1 : ByteArray) (y1 : List Int) (y2 : List (List Int)) (x9 : Int) (y3 : List Int) (x42 : List Stp) (x43 : Int) (x44 : Int) (y0_0 : Int) (y0_1 : List Int) (y0_2 : List Int) (y0_3 : List Stp) : Option Res := R.exec Try.prog xhn impl_toEnd.O 0 Try.f96 impl_toEnd.fh k (R.point Try.f96 13) ⟨[(1, .str x1), (2, .ptr 0 0), (5, .sl 1 0), (8, .sl 2 0), (9, .int .i64 x9), (10, .sl 3 0), (42, .imm (.T x42)), (43, .int .i64 x43), (44, .int .i64 x44)], [(0, .box false [.int .i64 y0_0, .imm (.I .i64 y0_1), .imm (.I .i64 y0_2), .imm (.T y0_3)]), (1, .arr 3 0 (.I .i64 y1) true), (2, .arr 22 0 (.L y2) false), (3, .arr 3 0 (.I .i64 y3) false)], 6⟩
set_option maxRecDepth 100000 in
theorem impl_toEnd.e0 (k : Nat) (x1 : ByteArray) (y1 : List Int) (x18 : List Int) (x19 : Int) (x20 : Int) (y0_0 : Int) (y0_1 : List Int) (y0_2 : List Int) (y0_3 : List Stp) : impl_toEnd.x0 (k + 1) x1 y1 x18 x19 x20 y0_0 y0_1 y0_2 y0_3 = (if x20 < x19 then (if 0 ≤ x20 then (if x20 < (x18.length : Int) then (if 0 ≤ (rdI x18 x20) then (if (rdI x18 x20) < (y1.length : Int) then (impl_toEnd.x0 k x1 (y1.set (rdI x18 x20).toNat 0) x18 x19 (wr64 (x20 + 1)) y0_0 y0_1 y0_2 y0_3) else none) else none) else none) else none) else (impl_toEnd.x1 k x1 y1 ([y1]) (wr64 ((x1.size : Int) - 1)) y0_0 y0_1 y0_2 y0_3)) := by kernel_rfl
set_option maxRecDepth 100000 in
theorem impl_toEnd.e1 (k : Nat) (x1 : ByteArray) (y1 : List Int) (y2 : List (List Int)) (x9 : Int) (y0_0 : Int) (y0_1 : List Int) (y0_2 : List Int) (y0_3 : List Stp) : impl_toEnd.x1 (k + 1) x1 y1 y2 x9 y0_0 y0_1 y0_2 y0_3 = (if x9 ≥ 0 then ((slices_Repeat_int_int.f ([1000000]) y0_0).bind fun t2 => (impl_toEnd.x2 k x1 y1 y2 x9 t2 y0_3 (y0_3.length : Int) 0 y0_0 y0_1 y0_2 y0_3)) else (some (impl_toEnd.en y2))) := by kernel_rfl
set_option maxRecDepth 100000 in
theorem impl_toEnd.e2 (k : Nat) (x1 : ByteArray) (y1 : List Int) (y2 : List (List Int)) (x9 : Int) (y3 : List Int) (x42 : List Stp) (x43 : Int) (x44 : Int) (y0_0 : Int) (y0_1 : List Int) (y0_2 : List Int) (y0_3 : List Stp) : impl_toEnd.x2 (k + 1) x1 y1 y2 x9 y3 x42 x43 x44 y0_0 y0_1 y0_2 y0_3 = (if x44 < x43 then (if 0 ≤ x44 then (if x44 < (x42.length : Int) then (if 0 ≤ x9 then (if x9 ≤ (wr64 (x9 + 1)) then (if (wr64 (x9 + 1)) ≤ (x1.size : Int) then (if (rdT x42 x44).f1.toList = (x1.extract x9.toNat (wr64 (x9 + 1)).toNat).toList then (if 0 ≤ (rdT x42 x44).f0 then (if (rdT x42 x44).f0 < (y3.length : Int) then (if 0 ≤ (rdT x42 x44).f2 then (if (rdT x42 x44).f2 < (y1.length : Int) then (impl_toEnd.x2 k x1 y1 y2 x9 (y3.set (rdT x42 x44).f0.toNat (mn (rdI y3 (rdT x42 x44).f0) (wr64 ((rdT x42 x44).f3 + (rdI y1 (rdT x42 x44).f2))))) x42 x43 (wr64 (x44 + 1)) y0_0 y0_1 y0_2 y0_3) else none) else none) else none) else none) else (impl_toEnd.x2 k x1 y1 y2 x9 y3 x42 x43 (wr64 (x44 + 1)) y0_0 y0_1 y0_2 y0_3)) else none) else none) else none) else none) else none) else (if y2.length < 5864062014805 then (impl_toEnd.x1 k x1 y3 (y2 ++ [y3]) (wr64 (x9 - 1)) y0_0 y0_1 y0_2 y0_3) else none)) := by
  refine Eq.trans ?_ (R.icong (fun h0 => (R.icong (fun h1 => (R.icong (fun h2 => (R.icong (fun h3 => (R.icong (fun h4 => (R.icong (fun h5 => (R.icong (fun h6 => (R.icong (fun h7 => (R.icong (fun h8 => (R.icong (fun h9 => (R.icong (fun h10 => (R.idropT (p := 0 ≤ (rdT x42 x44).f0) (z := none) h7 (R.idropT (p := (rdT x42 x44).f0 < (y3.length : Int)) (z := none) h8 rfl))) (fun h10 => rfl))) (fun h9 => rfl))) (fun h8 => rfl))) (fun h7 => rfl))) (fun h6 => rfl))) (fun h5 => rfl))) (fun h4 => rfl))) (fun h3 => rfl))) (fun h2 => rfl))) (fun h1 => rfl))) (fun h0 => rfl))
  kernel_rfl
set_option maxRecDepth 100000 in
theorem impl_toEnd.ef (k : Nat) (a0_0 : Int) (l0_1 : List Int) (l0_2 : List Int) (l0_3 : List Stp) (a1 : ByteArray) : R.start Try.prog xhn impl_toEnd.O 0 Try.f96 impl_toEnd.fh k [.agg [.int .i64 a0_0, .imm (.I .i64 l0_1), .imm (.I .i64 l0_2), .imm (.T l0_3)], .str a1] [] = ((slices_Repeat_int_int.f ([1000000]) a0_0).bind fun t1 => (impl_toEnd.x0 k a1 t1 l0_2 (l0_2.length : Int) 0 a0_0 l0_1 l0_2 l0_3)) := by kernel_rfl
theorem impl_toEnd.link : ∀ k, (∀ (x1 : ByteArray) (y1 : List Int) (x18 : List Int) (x19 : Int) (x20 : Int) (y0_0 : Int) (y0_1 : List Int) (y0_2 : List Int) (y0_3 : List Stp), impl_toEnd.x0 k x1 y1 x18 x19 x20 y0_0 y0_1 y0_2 y0_3 = (impl_toEnd.l0 k x1 y1 x18 x19 x20 y0_0 y0_1 y0_2 y0_3).map (impl_toEnd.en)) ∧ (∀ (x1 : ByteArray) (y1 : List Int) (y2 : List (List Int)) (x9 : Int) (y0_0 : Int) (y0_1 : List Int) (y0_2 : List Int) (y0_3 : List Stp), impl_toEnd.x1 k x1 y1 y2 x9 y0_0 y0_1 y0_2 y0_3 = (impl_toEnd.l1 k x1 y1 y2 x9 y0_0 y0_1 y0_2 y0_3).map (impl_toEnd.en)) ∧ (∀ (x1 : ByteArray) (y1 : List Int) (y2 : List (List Int)) (x9 : Int) (y3 : List Int) (x42 : List Stp) (x43 : Int) (x44 : Int) (y0_0 : Int) (y0_1 : List Int) (y0_2 : List Int) (y0_3 : List Stp), impl_toEnd.x2 k x1 y1 y2 x9 y3 x42 x43 x44 y0_0 y0_1 y0_2 y0_3 = (impl_toEnd.l2 k x1 y1 y2 x9 y3 x42 x43 x44 y0_0 y0_1 y0_2 y0_3).map (impl_toEnd.en))
  | 0 => ⟨fun _ _ _ _ _ _ _ _ _ => by simp only [impl_toEnd.l0, R.map_none]; rfl, fun _ _ _ _ _ _ _ _ => by simp only [impl_toEnd.l1, R.map_none]; rfl, fun _ _ _ _ _ _ _ _ _ _ _ _ => by simp only [impl_toEnd.l2, R.map_none]; rfl⟩
  | k + 1 => by
    obtain ⟨ih0, ih1, ih2⟩ := impl_toEnd.link k
    refine ⟨?_, ?_, ?_⟩
    · intro x1 y1 x18 x19 x20 y0_0 y0_1 y0_2 y0_3
      rw [impl_toEnd.e0]
      simp only [impl_toEnd.l0, R.map_ite, R.map_bind, R.map_none, R.map_some, R.wr64_eq, ← ih0, ← ih1, ← ih2]
    · intro x1 y1 y2 x9 y0_0 y0_1 y0_2 y0_3
      rw [impl_toEnd.e1]
      simp only [impl_toEnd.l1, R.map_ite, R.map_bind, R.map_none, R.map_some, R.wr64_eq, ← ih0, ← ih1, ← ih2]
    · intro x1 y1 y2 x9 y3 x42 x43 x44 y0_0 y0_1 y0_2 y0_3
      rw [impl_toEnd.e2]
      simp only [impl_toEnd.l2, R.map_ite, R.map_bind, R.map_none, R.map_some, R.wr64_eq, ← ih0, ← ih1, ← ih2]
theorem impl_toEnd.sf (k : Nat) (a0_0 : Int) (l0_1 : List Int) (l0_2 : List Int) (l0_3 : List Stp) (a1 : ByteArray) : R.start Try.prog xhn impl_toEnd.O 0 Try.f96 impl_toEnd.fh k [.agg [.int .i64 a0_0, .imm (.I .i64 l0_1), .imm (.I .i64 l0_2), .imm (.T l0_3)], .str a1] [] = (impl_toEnd.f k a0_0 l0_1 l0_2 l0_3 a1).map (impl_toEnd.en) := by
  obtain ⟨ih0, ih1, ih2⟩ := impl_toEnd.link k
  rw [impl_toEnd.ef]
  simp only [impl_toEnd.f, R.map_ite, R.map_bind, R.map_none, R.map_some, R.wr64_eq, ← ih0, ← ih1, ← ih2]
theorem impl_toEnd.ok (k : Nat) : impl_toEnd.tw.Ok Try.prog k := by
  intro md hmd a r h
  refine fn_ok (H := xhn) (fh := impl_toEnd.fh) (O := impl_toEnd.O) (k := k) Try.func96 (by kernel_rfl) (by kernel_rfl) (fun j _ => (Tw.orc_sound slices_Repeat_int_int.dok (slices_Repeat_int_int.ok j) (fun q => Bool.noConfusion (show false = true from hmd q)) noO_sound)) (by kernel_rfl) (m := 0) rfl ?_
  refine (impl_toEnd.sf k a.1 a.2.1 a.2.2.1 a.2.2.2.1 a.2.2.2.2).trans ?_
  exact congrArg (Option.map _) h
def impl_CostOf.l0 : Nat → ByteArray → (List (List Int)) → Int → (List Int) → Int → Int → Option (Int)
  | 0, _, _, _, _, _, _ => none
  | k + 1, x1, y0, x6, x21, x22, x23 => (if x23 < x22 then (if 0 ≤ x23 then (if x23 < (x21.length : Int) then (if 0 ≤ (x1.size : Int) then (if (x1.size : Int) < (y0.length : Int) then (if 0 ≤ (rdI x21 x23) then (if (rdI x21 x23) < ((rdL y0 (x1.size : Int)).length : Int) then (impl_CostOf.l0 k x1 y0 (mn x6 (rdI (rdL y0 (x1.size : Int)) (rdI x21 x23))) x21 x22 (wrap64 (x23 + 1))) else none) else none) else none) else none) else none) else none) else (some x6))
def impl_CostOf.f (k : Nat) (a0_0 : Int) (l0_1 : List Int) (l0_2 : List Int) (l0_3 : List Stp) (a1 : ByteArray) : Option (Int) := ((impl_AutomatonValid.f k a0_0 l0_1 l0_2 l0_3).bind fun t1 => (if t1 = true then ((impl_WordValid.f k a1).bind fun t2 => (if t2 = true then ((impl_toEnd.f k a0_0 l0_1 l0_2 l0_3 a1).bind fun t3 => (impl_CostOf.l0 k a1 t3 1000000 l0_1 (l0_1.length : Int) 0)) else (some (-1)))) else (some (-1))))
def impl_CostOf.en (r : Int) : Res := (.int .i64 r, [])
def impl_CostOf.dec : List AV → List R.Obj → Option (Int × (List Int) × (List Int) × (List Stp) × ByteArray)
  | [.agg [.int .i64 a0_0, .imm (.I .i64 l0_1), .imm (.I .i64 l0_2), .imm (.T l0_3)], .str a1], [] => some (a0_0, l0_1, l0_2, l0_3, a1)
  | _, _ => none
def impl_CostOf.tw : Tw := ⟨40, Int × (List Int) × (List Int) × (List Stp) × ByteArray, Int, impl_CostOf.dec, fun a => [.agg [.int .i64 a.1, .imm (.I .i64 a.2.1), .imm (.I .i64 a.2.2.1), .imm (.T a.2.2.2.1)], .str a.2.2.2.2], fun a => [], fun k a => impl_CostOf.f k a.1 a.2.1 a.2.2.1 a.2.2.2.1 a.2.2.2.2, fun a r => impl_CostOf.en r, false⟩
theorem impl_CostOf.dok : impl_CostOf.tw.DecOk := by
  intro args hc a h
  have h : impl_CostOf.dec args hc = some a := h
  unfold impl_CostOf.dec at h
  split at h
  · cases h; exact ⟨rfl, rfl⟩
  · cases h
noncomputable def impl_CostOf.O (k : Nat) : Oracle := (impl_AutomatonValid.tw.orc k (impl_WordValid.tw.orc k (impl_toEnd.tw.orc k noO)))
def impl_CostOf.fh : FH := ⟨fun i => match i with | 6 => some [(1, 0), (5, 0), (6, 0), (21, 0), (22, 0), (23, 0)] | _ => none, [], false⟩
noncomputable def impl_CostOf.x0 (k : Nat) (x1 : ByteArray) (y0 : List (List Int)) (x6 : Int) (x21 : List Int) (x22 : Int) (x23 : Int) : Option Res := R.exec Try.prog xhn impl_CostOf.O 0 Try.f40 impl_CostOf.fh k (R.point Try.f40 6) ⟨[(1, .str x1), (5, .sl 0 0), (6, .int .i64 x6), (21, .imm (.I .i64 x21)), (22, .int .i64 x22), (23, .int .i64 x23)], [(0, .arr 22 0 (.L y0) false)], 3⟩
set_option maxRecDepth 100000 in
theorem impl_CostOf.e0 (k : Nat) (x1 : ByteArray) (y0 : List (List Int)) (x6 : Int) (x21 : List Int) (x22 : Int) (x23 : Int) : impl_CostOf.x0 (k + 1) x1 y0 x6 x21 x22 x23 = (if x23 < x22 then (if 0 ≤ x23 then (if x23 < (x21.length : Int) then (if 0 ≤ (x1.size : Int) then (if (x1.size : Int) < (y0.length : Int) then (if 0 ≤ (rdI x21 x23) then (if (rdI x21 x23) < ((rdL y0 (x1.size : Int)).length : Int) then (impl_CostOf.x0 k x1 y0 (mn x6 (rdI (rdL y0 (x1.size : Int)) (rdI x21 x23))) x21 x22 (wr64 (x23 + 1))) else none) else none) else none) else none) else none) else none) else (some (impl_CostOf.en x6))) := by kernel_rfl
set_option maxRecDepth 100000 in
theorem impl_CostOf.ef (k : Nat) (a0_0 : Int) (l0_1 : List Int) (l0_2 : List Int) (l0_3 : List Stp) (a1 : ByteArray) : R.start Try.prog xhn impl_CostOf.O 0 Try.f40 impl_CostOf.fh k [.agg [.int .i64 a0_0, .imm (.I .i64 l0_1), .imm (.I .i64 l0_2), .imm (.T l0_3)], .str a1] [] = ((impl_AutomatonValid.f k a0_0 l0_1 l0_2 l0_3).bind fun t1 => (if t1 = true then ((impl_WordValid.f k a1).bind fun t2 => (if t2 = true then ((impl_toEnd.f k a0_0 l0_1 l0_2 l0_3 a1).bind fun t3 => (impl_CostOf.x0 k a1 t3 1000000 l0_1 (l0_1.length : Int) 0)) else (some (impl_CostOf.en (-1))))) else (some (impl_CostOf.en (-1))))) := by kernel_rfl
theorem impl_CostOf.link : ∀ k, (∀ (x1 : ByteArray) (y0 : List (List Int)) (x6 : Int) (x21 : List Int) (x22 : Int) (x23 : Int), impl_CostOf.x0 k x1 y0 x6 x21 x22 x23 = (impl_CostOf.l0 k x1 y0 x6 x21 x22 x23).map (impl_CostOf.en))
  | 0 => fun _ _ _ _ _ _ => by simp only [impl_CostOf.l0, R.map_none]; rfl
  | k + 1 => by
    have ih0 := impl_CostOf.link k
    · intro x1 y0 x6 x21 x22 x23
      rw [impl_CostOf.e0]
      simp only [impl_CostOf.l0, R.map_ite, R.map_bind, R.map_none, R.map_some, R.wr64_eq, ← ih0]
theorem impl_CostOf.sf (k : Nat) (a0_0 : Int) (l0_1 : List Int) (l0_2 : List Int) (l0_3 : List Stp) (a1 : ByteArray) : R.start Try.prog xhn impl_CostOf.O 0 Try.f40 impl_CostOf.fh k [.agg [.int .i64 a0_0, .imm (.I .i64 l0_1), .imm (.I .i64 l0_2), .imm (.T l0_3)], .str a1] [] = (impl_CostOf.f k a0_0 l0_1 l0_2 l0_3 a1).map (impl_CostOf.en) := by
  have ih0 := impl_CostOf.link k
  rw [impl_CostOf.ef]
  simp only [impl_CostOf.f, R.map_ite, R.map_bind, R.map_none, R.map_some, R.wr64_eq, ← ih0]
theorem impl_CostOf.ok (k : Nat) : impl_CostOf.tw.Ok Try.prog k := by
  intro md hmd a r h
  refine fn_ok (H := xhn) (fh := impl_CostOf.fh) (O := impl_CostOf.O) (k := k) Try.func40 (by kernel_rfl) (by kernel_rfl) (fun j _ => (Tw.orc_sound impl_AutomatonValid.dok (impl_AutomatonValid.ok j) (fun _ => rfl) (Tw.orc_sound impl_WordValid.dok (impl_WordValid.ok j) (fun _ => rfl) (Tw.orc_sound impl_toEnd.dok (impl_toEnd.ok j) (fun q => Bool.noConfusion (show false = true from hmd q)) noO_sound)))) (by kernel_rfl) (m := 0) rfl ?_
  refine (impl_CostOf.sf k a.1 a.2.1 a.2.2.1 a.2.2.2.1 a.2.2.2.2).trans ?_
  exact congrArg (Option.map _) h
def impl_CostValid.f (a0 : Int) : Option (Bool) := (if a0 ≥ 0 then (some (decide (a0 ≤ 1000000))) else (some false))
def impl_CostValid.en (r : Bool) : Res := (.lit r, [])
def impl_CostValid.dec : List AV → List R.Obj → Option (Int)
  | [.int .i64 a0], [] => some a0
  | _, _ => none
def impl_CostValid.tw : Tw := ⟨100, Int, Bool, impl_CostValid.dec, fun a => [.int .i64 a], fun a => [], fun k a => impl_CostValid.f a, fun a r => impl_CostValid.en r, true⟩
theorem impl_CostValid.dok : impl_CostValid.tw.DecOk := by
  intro args hc a h
  have h : impl_CostValid.dec args hc = some a := h
  unfold impl_CostValid.dec at h
  split at h
  · cases h; exact ⟨rfl, rfl⟩
  · cases h
noncomputable def impl_CostValid.O (k : Nat) : Oracle := noO
def impl_CostValid.fh : FH := ⟨fun i => match i with | _ => none, [], false⟩
set_option maxRecDepth 100000 in
theorem impl_CostValid.ef (k : Nat) (a0 : Int) : R.start Try.prog xhn impl_CostValid.O 0 Try.f100 impl_CostValid.fh k [.int .i64 a0] [] = (if a0 ≥ 0 then (some (impl_CostValid.en (decide (a0 ≤ 1000000)))) else (some (impl_CostValid.en false))) := by kernel_rfl
theorem impl_CostValid.sf (k : Nat) (a0 : Int) : R.start Try.prog xhn impl_CostValid.O 0 Try.f100 impl_CostValid.fh k [.int .i64 a0] [] = (impl_CostValid.f a0).map (impl_CostValid.en) := by
  rw [impl_CostValid.ef]
  simp only [impl_CostValid.f, R.map_ite, R.map_bind, R.map_none, R.map_some, R.wr64_eq]
theorem impl_CostValid.ok (k : Nat) : impl_CostValid.tw.Ok Try.prog k := by
  intro md hmd a r h
  refine fn_ok (H := xhn) (fh := impl_CostValid.fh) (O := impl_CostValid.O) (k := k) Try.func100 (by kernel_rfl) (by kernel_rfl) (fun j _ => noO_sound) (by kernel_rfl) (m := 0) rfl ?_
  refine (impl_CostValid.sf k a).trans ?_
  exact congrArg (Option.map _) h
def impl_AddCost.f (a0 : Int) (a1 : Int) : Option (Int) := ((impl_CostValid.f a0).bind fun t1 => (if t1 = true then ((impl_CostValid.f a1).bind fun t2 => (if t2 = true then (some (mn (wrap64 (a0 + a1)) 1000000)) else (some (-1)))) else (some (-1))))
def impl_AddCost.en (r : Int) : Res := (.int .i64 r, [])
def impl_AddCost.dec : List AV → List R.Obj → Option (Int × Int)
  | [.int .i64 a0, .int .i64 a1], [] => some (a0, a1)
  | _, _ => none
def impl_AddCost.tw : Tw := ⟨41, Int × Int, Int, impl_AddCost.dec, fun a => [.int .i64 a.1, .int .i64 a.2], fun a => [], fun k a => impl_AddCost.f a.1 a.2, fun a r => impl_AddCost.en r, true⟩
theorem impl_AddCost.dok : impl_AddCost.tw.DecOk := by
  intro args hc a h
  have h : impl_AddCost.dec args hc = some a := h
  unfold impl_AddCost.dec at h
  split at h
  · cases h; exact ⟨rfl, rfl⟩
  · cases h
noncomputable def impl_AddCost.O (k : Nat) : Oracle := (impl_CostValid.tw.orc k noO)
def impl_AddCost.fh : FH := ⟨fun i => match i with | _ => none, [], false⟩
set_option maxRecDepth 100000 in
theorem impl_AddCost.ef (k : Nat) (a0 : Int) (a1 : Int) : R.start Try.prog xhn impl_AddCost.O 0 Try.f41 impl_AddCost.fh k [.int .i64 a0, .int .i64 a1] [] = ((impl_CostValid.f a0).bind fun t1 => (if t1 = true then ((impl_CostValid.f a1).bind fun t2 => (if t2 = true then (some (impl_AddCost.en (mn (wr64 (a0 + a1)) 1000000))) else (some (impl_AddCost.en (-1))))) else (some (impl_AddCost.en (-1))))) := by kernel_rfl
theorem impl_AddCost.sf (k : Nat) (a0 : Int) (a1 : Int) : R.start Try.prog xhn impl_AddCost.O 0 Try.f41 impl_AddCost.fh k [.int .i64 a0, .int .i64 a1] [] = (impl_AddCost.f a0 a1).map (impl_AddCost.en) := by
  rw [impl_AddCost.ef]
  simp only [impl_AddCost.f, R.map_ite, R.map_bind, R.map_none, R.map_some, R.wr64_eq]
theorem impl_AddCost.ok (k : Nat) : impl_AddCost.tw.Ok Try.prog k := by
  intro md hmd a r h
  refine fn_ok (H := xhn) (fh := impl_AddCost.fh) (O := impl_AddCost.O) (k := k) Try.func41 (by kernel_rfl) (by kernel_rfl) (fun j _ => (Tw.orc_sound impl_CostValid.dok (impl_CostValid.ok j) (fun _ => rfl) noO_sound)) (by kernel_rfl) (m := 0) rfl ?_
  refine (impl_AddCost.sf k a.1 a.2).trans ?_
  exact congrArg (Option.map _) h
end Go.Proofs.Ytoeeeafknajkkaa.V
end
