import Derived.Test.YtaaajdlgmllhaaaQFnRunOf5
import Derived.Test.YtaaajdlgmllhaaaQFnRunOf2
import Derived.Test.YtaaajdlgmllhaaaQFnRunOf4
import Derived.Test.YtaaajdlgmllhaaaProg
import Derived.WalkKit
import Derived.ProofKit
import Derived.Lib.Bytealg
section
set_option linter.unusedVariables false
set_option linter.unusedSimpArgs false
namespace Go.Proofs.Ytaaajdlgmllhaaa.V
open Go Go.Proofs.Ytaaajdlgmllhaaa.R Go.RowKit
mutual
def impl_toEnd.l0 : Nat → ByteArray → (List Int) → (List Int) → Int → Int → Int → (List Int) → (List Int) → (List Stp) → Option (List (List Int))
  | 0, _, _, _, _, _, _, _, _, _ => none
  | k + 1, x1, y1, x18, x19, x20, y0_0, y0_1, y0_2, y0_3 => (if x20 < x19 then (if 0 ≤ x20 then (if x20 < (x18.length : Int) then (if 0 ≤ (rdI x18 x20) then (if (rdI x18 x20) < (y1.length : Int) then (impl_toEnd.l0 k x1 (y1.set (rdI x18 x20).toNat 0) x18 x19 (wrap64 (x20 + 1)) y0_0 y0_1 y0_2 y0_3) else none) else none) else none) else none) else (impl_toEnd.l1 k x1 y1 ([y1]) (wrap64 ((x1.size : Int) - 1)) y0_0 y0_1 y0_2 y0_3))
def impl_toEnd.l1 : Nat → ByteArray → (List Int) → (List (List Int)) → Int → Int → (List Int) → (List Int) → (List Stp) → Option (List (List Int))
  | 0, _, _, _, _, _, _, _, _ => none
  | k + 1, x1, y1, y2, x9, y0_0, y0_1, y0_2, y0_3 => (if x9 ≥ 0 then ((slices_Repeat_int_int.f ([1000000]) y0_0).bind fun t2 => (impl_toEnd.l2 k x1 y1 y2 x9 t2 y0_3 (y0_3.length : Int) 0 y0_0 y0_1 y0_2 y0_3)) else (some y2))
def impl_toEnd.l2 : Nat → ByteArray → (List Int) → (List (List Int)) → Int → (List Int) → (List Stp) → Int → Int → Int → (List Int) → (List Int) → (List Stp) → Option (List (List Int))
  | 0, _, _, _, _, _, _, _, _, _, _, _, _ => none
  | k + 1, x1, y1, y2, x9, y3, x42, x43, x44, y0_0, y0_1, y0_2, y0_3 => (if x44 < x43 then (if 0 ≤ x44 then (if x44 < (x42.length : Int) then (if 0 ≤ x9 then (if x9 ≤ (wrap64 (x9 + 1)) then (if (wrap64 (x9 + 1)) ≤ (x1.size : Int) then (if (rdT x42 x44).f1.toList = (x1.extract x9.toNat (wrap64 (x9 + 1)).toNat).toList then (if 0 ≤ (rdT x42 x44).f0 then (if (rdT x42 x44).f0 < (y3.length : Int) then (if 0 ≤ (rdT x42 x44).f2 then (if (rdT x42 x44).f2 < (y1.length : Int) then (impl_toEnd.l2 k x1 y1 y2 x9 (y3.set (rdT x42 x44).f0.toNat (mn (rdI y3 (rdT x42 x44).f0) (wrap64 ((rdT x42 x44).f3 + (rdI y1 (rdT x42 x44).f2))))) x42 x43 (wrap64 (x44 + 1)) y0_0 y0_1 y0_2 y0_3) else none) else none) else none) else none) else (impl_toEnd.l2 k x1 y1 y2 x9 y3 x42 x43 (wrap64 (x44 + 1)) y0_0 y0_1 y0_2 y0_3)) else none) else none) else none) else none) else none) else (if y2.length < 5864062014805 then (impl_toEnd.l1 k x1 y3 (y2 ++ [y3]) (wrap64 (x9 - 1)) y0_0 y0_1 y0_2 y0_3) else none))
end
def impl_toEnd.f (k : Nat) (a0_0 : Int) (l0_1 : List Int) (l0_2 : List Int) (l0_3 : List Stp) (a1 : ByteArray) : Option (List (List Int)) := ((slices_Repeat_int_int.f ([1000000]) a0_0).bind fun t1 => (impl_toEnd.l0 k a1 t1 l0_2 (l0_2.length : Int) 0 a0_0 l0_1 l0_2 l0_3))
def impl_toEnd.en (r : List (List Int)) : Res := (.sl 0 0, [.arr 22 0 (.L r) false])
def impl_toEnd.dec : List AV → List R.Obj → Option (Int × (List Int) × (List Int) × (List Stp) × ByteArray)
  | [.agg [.int .i64 a0_0, .imm (.I .i64 l0_1), .imm (.I .i64 l0_2), .imm (.T l0_3)], .str a1], [] => some (a0_0, l0_1, l0_2, l0_3, a1)
  | _, _ => none
def impl_toEnd.tw : Tw := ⟨82, Int × (List Int) × (List Int) × (List Stp) × ByteArray, List (List Int), impl_toEnd.dec, fun a => [.agg [.int .i64 a.1, .imm (.I .i64 a.2.1), .imm (.I .i64 a.2.2.1), .imm (.T a.2.2.2.1)], .str a.2.2.2.2], fun a => [], fun k a => impl_toEnd.f k a.1 a.2.1 a.2.2.1 a.2.2.2.1 a.2.2.2.2, fun a r => impl_toEnd.en r⟩
theorem impl_toEnd.dok : impl_toEnd.tw.DecOk := by
  intro args hc a h
  have h : impl_toEnd.dec args hc = some a := h
  unfold impl_toEnd.dec at h
  split at h
  · cases h; exact ⟨rfl, rfl⟩
  · cases h
noncomputable def impl_toEnd.O (k : Nat) : Oracle := (slices_Repeat_int_int.tw.orc k noO)
def impl_toEnd.fh : FH := ⟨fun i => match i with | 3 => some [(1, 0), (2, 0), (5, 0), (18, 0), (19, 0), (20, 0)] | 9 => some [(1, 0), (2, 0), (5, 0), (8, 0), (9, 0)] | 13 => some [(1, 0), (2, 0), (5, 0), (8, 0), (9, 0), (10, 0), (42, 0), (43, 0), (44, 0)] | _ => none, [(true, 22)], false⟩
noncomputable def impl_toEnd.x0 (k : Nat) (x1 : ByteArray) (y1 : List Int) (x18 : List Int) (x19 : Int) (x20 : Int) (y0_0 : Int) (y0_1 : List Int) (y0_2 : List Int) (y0_3 : List Stp) : Option Res := R.exec Try.prog xhn impl_toEnd.O 0 Try.f82 impl_toEnd.fh k (R.point Try.f82 3) ⟨[(1, .str x1), (2, .ptr 0 0), (5, .sl 1 0), (18, .imm (.I .i64 x18)), (19, .int .i64 x19), (20, .int .i64 x20)], [(0, .box false [.int .i64 y0_0, .imm (.I .i64 y0_1), .imm (.I .i64 y0_2), .imm (.T y0_3)]), (1, .arr 3 0 (.I .i64 y1) false)], 4⟩
noncomputable def impl_toEnd.x1 (k : Nat) (x1 : ByteArray) (y1 : List Int) (y2 : List (List Int)) (x9 : Int) (y0_0 : Int) (y0_1 : List Int) (y0_2 : List Int) (y0_3 : List Stp) : Option Res := R.exec Try.prog xhn impl_toEnd.O 0 Try.f82 impl_toEnd.fh k (R.point Try.f82 9) ⟨[(1, .str x1), (2, .ptr 0 0), (5, .sl 1 0), (8, .sl 2 0), (9, .int .i64 x9)], [(0, .box false [.int .i64 y0_0, .imm (.I .i64 y0_1), .imm (.I .i64 y0_2), .imm (.T y0_3)]), (1, .arr 3 0 (.I .i64 y1) true), (2, .arr 22 0 (.L y2) false)], 5⟩
noncomputable def impl_toEnd.x2 (k : Nat) (x1 : ByteArray) (y1 : List Int) (y2 : List (List Int)) (x9 : Int) (y3 : List Int) (x42 : List Stp) (x43 : Int) (x44 : Int) (y0_0 : Int) (y0_1 : List Int) (y0_2 : List Int) (y0_3 : List Stp) : Option Res := R.exec Try.prog xhn impl_toEnd.O 0 Try.f82 impl_toEnd.fh k (R.point Try.f82 13) ⟨[(1, .str x1), (2, .ptr 0 0), (5, .sl 1 0), (8, .sl 2 0), (9, .int .i64 x9), (10, .sl 3 0), (42, .imm (.T x42)), (43, .int .i64 x43), (44, .int .i64 x44)], [(0, .box false [.int .i64 y0_0, .imm (.I .i64 y0_1), .imm (.I .i64 y0_2), .imm (.T y0_3)]), (1, .arr 3 0 (.I .i64 y1) true), (2, .arr 22 0 (.L y2) false), (3, .arr 3 0 (.I .i64 y3) false)], 6⟩
set_option maxRecDepth 100000 in
theorem impl_toEnd.e0 (k : Nat) (x1 : ByteArray) (y1 : List Int) (x18 : List Int) (x19 : Int) (x20 : Int) (y0_0 : Int) (y0_1 : List Int) (y0_2 : List Int) (y0_3 : List Stp) : impl_toEnd.x0 (k + 1) x1 y1 x18 x19 x20 y0_0 y0_1 y0_2 y0_3 = (if x20 < x19 then (if 0 ≤ x20 then (if x20 < (x18.length : Int) then (if 0 ≤ (rdI x18 x20) then (if (rdI x18 x20) < (y1.length : Int) then (impl_toEnd.x0 k x1 (y1.set (rdI x18 x20).toNat 0) x18 x19 (wr64 (x20 + 1)) y0_0 y0_1 y0_2 y0_3) else none) else none) else none) else none) else (impl_toEnd.x1 k x1 y1 ([y1]) (wr64 ((x1.size : Int) - 1)) y0_0 y0_1 y0_2 y0_3)) := by kernel_rfl
set_option maxRecDepth 100000 in
theorem impl_toEnd.e1 (k : Nat) (x1 : ByteArray) (y1 : List Int) (y2 : List (List Int)) (x9 : Int) (y0_0 : Int) (y0_1 : List Int) (y0_2 : List Int) (y0_3 : List Stp) : impl_toEnd.x1 (k + 1) x1 y1 y2 x9 y0_0 y0_1 y0_2 y0_3 = (if x9 ≥ 0 then ((slices_Repeat_int_int.f ([1000000]) y0_0).bind fun t2 => (impl_toEnd.x2 k x1 y1 y2 x9 t2 y0_3 (y0_3.length : Int) 0 y0_0 y0_1 y0_2 y0_3)) else (some (impl_toEnd.en y2))) := by kernel_rfl
set_option maxRecDepth 100000 in
theorem impl_toEnd.e2 (k : Nat) (x1 : ByteArray) (y1 : List Int) (y2 : List (List Int)) (x9 : Int) (y3 : List Int) (x42 : List Stp) (x43 : Int) (x44 : Int) (y0_0 : Int) (y0_1 : List Int) (y0_2 : List Int) (y0_3 : List Stp) : impl_toEnd.x2 (k + 1) x1 y1 y2 x9 y3 x42 x43 x44 y0_0 y0_1 y0_2 y0_3 = (if x44 < x43 then (if 0 ≤ x44 then (if x44 < (x42.length : Int) then (if 0 ≤ x9 then (if x9 ≤ (wr64 (x9 + 1)) then (if (wr64 (x9 + 1)) ≤ (x1.size : Int) then (if (rdT x42 x44).f1.toList = (x1.extract x9.toNat (wr64 (x9 + 1)).toNat).toList then (if 0 ≤ (rdT x42 x44).f0 then (if (rdT x42 x44).f0 < (y3.length : Int) then (if 0 ≤ (rdT x42 x44).f2 then (if (rdT x42 x44).f2 < (y1.length : Int) then (impl_toEnd.x2 k x1 y1 y2 x9 (y3.set (rdT x42 x44).f0.toNat (mn (rdI y3 (rdT x42 x44).f0) (wr64 ((rdT x42 x44).f3 + (rdI y1 (rdT x42 x44).f2))))) x42 x43 (wr64 (x44 + 1)) y0_0 y0_1 y0_2 y0_3) else none) else none) else none) else none) else (impl_toEnd.x2 k x1 y1 y2 x9 y3 x42 x43 (wr64 (x44 + 1)) y0_0 y0_1 y0_2 y0_3)) else none) else none) else none) else none) else none) else (if y2.length < 5864062014805 then (impl_toEnd.x1 k x1 y3 (y2 ++ [y3]) (wr64 (x9 - 1)) y0_0 y0_1 y0_2 y0_3) else none)) := by
  refine Eq.trans ?_ (R.icong (fun h0 => (R.icong (fun h1 => (R.icong (fun h2 => (R.icong (fun h3 => (R.icong (fun h4 => (R.icong (fun h5 => (R.icong (fun h6 => (R.icong (fun h7 => (R.icong (fun h8 => (R.icong (fun h9 => (R.icong (fun h10 => (R.idropT (p := 0 ≤ (rdT x42 x44).f0) (z := none) h7 (R.idropT (p := (rdT x42 x44).f0 < (y3.length : Int)) (z := none) h8 rfl))) (fun h10 => rfl))) (fun h9 => rfl))) (fun h8 => rfl))) (fun h7 => rfl))) (fun h6 => rfl))) (fun h5 => rfl))) (fun h4 => rfl))) (fun h3 => rfl))) (fun h2 => rfl))) (fun h1 => rfl))) (fun h0 => rfl))
  kernel_rfl
set_option maxRecDepth 100000 in
theorem impl_toEnd.ef (k : Nat) (a0_0 : Int) (l0_1 : List Int) (l0_2 : List Int) (l0_3 : List Stp) (a1 : ByteArray) : R.start Try.prog xhn impl_toEnd.O 0 Try.f82 impl_toEnd.fh k [.agg [.int .i64 a0_0, .imm (.I .i64 l0_1), .imm (.I .i64 l0_2), .imm (.T l0_3)], .str a1] [] = ((slices_Repeat_int_int.f ([1000000]) a0_0).bind fun t1 => (impl_toEnd.x0 k a1 t1 l0_2 (l0_2.length : Int) 0 a0_0 l0_1 l0_2 l0_3)) := by kernel_rfl
theorem impl_toEnd.link : ∀ k, (∀ (x1 : ByteArray) (y1 : List Int) (x18 : List Int) (x19 : Int) (x20 : Int) (y0_0 : Int) (y0_1 : List Int) (y0_2 : List Int) (y0_3 : List Stp), impl_toEnd.x0 k x1 y1 x18 x19 x20 y0_0 y0_1 y0_2 y0_3 = (impl_toEnd.l0 k x1 y1 x18 x19 x20 y0_0 y0_1 y0_2 y0_3).map (impl_toEnd.en)) ∧ (∀ (x1 : ByteArray) (y1 : List Int) (y2 : List (List Int)) (x9 : Int) (y0_0 : Int) (y0_1 : List Int) (y0_2 : List Int) (y0_3 : List Stp), impl_toEnd.x1 k x1 y1 y2 x9 y0_0 y0_1 y0_2 y0_3 = (impl_toEnd.l1 k x1 y1 y2 x9 y0_0 y0_1 y0_2 y0_3).map (impl_toEnd.en)) ∧ (∀ (x1 : ByteArray) (y1 : List Int) (y2 : List (List Int)) (x9 : Int) (y3 : List Int) (x42 : List Stp) (x43 : Int) (x44 : Int) (y0_0 : Int) (y0_1 : List Int) (y0_2 : List Int) (y0_3 : List Stp), impl_toEnd.x2 k x1 y1 y2 x9 y3 x42 x43 x44 y0_0 y0_1 y0_2 y0_3 = (impl_toEnd.l2 k x1 y1 y2 x9 y3 x42 x43 x44 y0_0 y0_1 y0_2 y0_3).map (impl_toEnd.en))
  | 0 => ⟨fun _ _ _ _ _ _ _ _ _ => by simp only [impl_toEnd.l0, R.map_none]; rfl, fun _ _ _ _ _ _ _ _ => by simp only [impl_toEnd.l1, R.map_none]; rfl, fun _ _ _ _ _ _ _ _ _ _ _ _ => by simp only [impl_toEnd.l2, R.map_none]; rfl⟩
  | k + 1 => by
    obtain ⟨ih0, ih1, ih2⟩ := impl_toEnd.link k
    refine ⟨?_, ?_, ?_⟩
    · intro x1 y1 x18 x19 x20 y0_0 y0_1 y0_2 y0_3
      rw [impl_toEnd.e0]
      simp only [impl_toEnd.l0, R.map_ite, R.map_bind, R.map_none, R.map_some, R.wr64_eq, ← ih0, ← ih1, ← ih2]
    · intro x1 y1 y2 x9 y0_0 y0_1 y0_2 y0_3
      rw [impl_toEnd.e1]
      simp only [impl_toEnd.l1, R.map_ite, R.map_bind, R.map_none, R.map_some, R.wr64_eq, ← ih0, ← ih1, ← ih2]
    · intro x1 y1 y2 x9 y3 x42 x43 x44 y0_0 y0_1 y0_2 y0_3
      rw [impl_toEnd.e2]
      simp only [impl_toEnd.l2, R.map_ite, R.map_bind, R.map_none, R.map_some, R.wr64_eq, ← ih0, ← ih1, ← ih2]
theorem impl_toEnd.sf (k : Nat) (a0_0 : Int) (l0_1 : List Int) (l0_2 : List Int) (l0_3 : List Stp) (a1 : ByteArray) : R.start Try.prog xhn impl_toEnd.O 0 Try.f82 impl_toEnd.fh k [.agg [.int .i64 a0_0, .imm (.I .i64 l0_1), .imm (.I .i64 l0_2), .imm (.T l0_3)], .str a1] [] = (impl_toEnd.f k a0_0 l0_1 l0_2 l0_3 a1).map (impl_toEnd.en) := by
  obtain ⟨ih0, ih1, ih2⟩ := impl_toEnd.link k
  rw [impl_toEnd.ef]
  simp only [impl_toEnd.f, R.map_ite, R.map_bind, R.map_none, R.map_some, R.wr64_eq, ← ih0, ← ih1, ← ih2]
theorem impl_toEnd.ok (k : Nat) : impl_toEnd.tw.Ok Try.prog k := by
  intro a r h
  refine fn_ok (H := xhn) (fh := impl_toEnd.fh) (O := impl_toEnd.O) (k := k) Try.func82 (by kernel_rfl) (by kernel_rfl) (fun j _ => (Tw.orc_sound slices_Repeat_int_int.dok (slices_Repeat_int_int.ok j) noO_sound)) (by kernel_rfl) (m := 0) rfl ?_
  refine (impl_toEnd.sf k a.1 a.2.1 a.2.2.1 a.2.2.2.1 a.2.2.2.2).trans ?_
  exact congrArg (Option.map _) h
def impl_CostOf.l0 : Nat → ByteArray → (List (List Int)) → Int → (List Int) → Int → Int → Option (Int)
  | 0, _, _, _, _, _, _ => none
  | k + 1, x1, y0, x6, x21, x22, x23 => (if x23 < x22 then (if 0 ≤ x23 then (if x23 < (x21.length : Int) then (if 0 ≤ (x1.size : Int) then (if (x1.size : Int) < (y0.length : Int) then (if 0 ≤ (rdI x21 x23) then (if (rdI x21 x23) < ((rdL y0 (x1.size : Int)).length : Int) then (impl_CostOf.l0 k x1 y0 (mn x6 (rdI (rdL y0 (x1.size : Int)) (rdI x21 x23))) x21 x22 (wrap64 (x23 + 1))) else none) else none) else none) else none) else none) else none) else (some x6))
def impl_CostOf.f (k : Nat) (a0_0 : Int) (l0_1 : List Int) (l0_2 : List Int) (l0_3 : List Stp) (a1 : ByteArray) : Option (Int) := ((impl_AutomatonValid.f k a0_0 l0_1 l0_2 l0_3).bind fun t1 => (if t1 = true then ((impl_WordValid.f k a1).bind fun t2 => (if t2 = true then ((impl_toEnd.f k a0_0 l0_1 l0_2 l0_3 a1).bind fun t3 => (impl_CostOf.l0 k a1 t3 1000000 l0_1 (l0_1.length : Int) 0)) else (some (-1)))) else (some (-1))))
def impl_CostOf.en (r : Int) : Res := (.int .i64 r, [])
def impl_CostOf.dec : List AV → List R.Obj → Option (Int × (List Int) × (List Int) × (List Stp) × ByteArray)
  | [.agg [.int .i64 a0_0, .imm (.I .i64 l0_1), .imm (.I .i64 l0_2), .imm (.T l0_3)], .str a1], [] => some (a0_0, l0_1, l0_2, l0_3, a1)
  | _, _ => none
def impl_CostOf.tw : Tw := ⟨31, Int × (List Int) × (List Int) × (List Stp) × ByteArray, Int, impl_CostOf.dec, fun a => [.agg [.int .i64 a.1, .imm (.I .i64 a.2.1), .imm (.I .i64 a.2.2.1), .imm (.T a.2.2.2.1)], .str a.2.2.2.2], fun a => [], fun k a => impl_CostOf.f k a.1 a.2.1 a.2.2.1 a.2.2.2.1 a.2.2.2.2, fun a r => impl_CostOf.en r⟩
theorem impl_CostOf.dok : impl_CostOf.tw.DecOk := by
  intro args hc a h
  have h : impl_CostOf.dec args hc = some a := h
  unfold impl_CostOf.dec at h
  split at h
  · cases h; exact ⟨rfl, rfl⟩
  · cases h
noncomputable def impl_CostOf.O (k : Nat) : Oracle := (impl_AutomatonValid.tw.orc k (impl_WordValid.tw.orc k (impl_toEnd.tw.orc k noO)))
def impl_CostOf.fh : FH := ⟨fun i => match i with | 6 => some [(1, 0), (5, 0), (6, 0), (21, 0), (22, 0), (23, 0)] | _ => none, [], false⟩
noncomputable def impl_CostOf.x0 (k : Nat) (x1 : ByteArray) (y0 : List (List Int)) (x6 : Int) (x21 : List Int) (x22 : Int) (x23 : Int) : Option Res := R.exec Try.prog xhn impl_CostOf.O 0 Try.f31 impl_CostOf.fh k (R.point Try.f31 6) ⟨[(1, .str x1), (5, .sl 0 0), (6, .int .i64 x6), (21, .imm (.I .i64 x21)), (22, .int .i64 x22), (23, .int .i64 x23)], [(0, .arr 22 0 (.L y0) false)], 3⟩
set_option maxRecDepth 100000 in
theorem impl_CostOf.e0 (k : Nat) (x1 : ByteArray) (y0 : List (List Int)) (x6 : Int) (x21 : List Int) (x22 : Int) (x23 : Int) : impl_CostOf.x0 (k + 1) x1 y0 x6 x21 x22 x23 = (if x23 < x22 then (if 0 ≤ x23 then (if x23 < (x21.length : Int) then (if 0 ≤ (x1.size : Int) then (if (x1.size : Int) < (y0.length : Int) then (if 0 ≤ (rdI x21 x23) then (if (rdI x21 x23) < ((rdL y0 (x1.size : Int)).length : Int) then (impl_CostOf.x0 k x1 y0 (mn x6 (rdI (rdL y0 (x1.size : Int)) (rdI x21 x23))) x21 x22 (wr64 (x23 + 1))) else none) else none) else none) else none) else none) else none) else (some (impl_CostOf.en x6))) := by kernel_rfl
set_option maxRecDepth 100000 in
theorem impl_CostOf.ef (k : Nat) (a0_0 : Int) (l0_1 : List Int) (l0_2 : List Int) (l0_3 : List Stp) (a1 : ByteArray) : R.start Try.prog xhn impl_CostOf.O 0 Try.f31 impl_CostOf.fh k [.agg [.int .i64 a0_0, .imm (.I .i64 l0_1), .imm (.I .i64 l0_2), .imm (.T l0_3)], .str a1] [] = ((impl_AutomatonValid.f k a0_0 l0_1 l0_2 l0_3).bind fun t1 => (if t1 = true then ((impl_WordValid.f k a1).bind fun t2 => (if t2 = true then ((impl_toEnd.f k a0_0 l0_1 l0_2 l0_3 a1).bind fun t3 => (impl_CostOf.x0 k a1 t3 1000000 l0_1 (l0_1.length : Int) 0)) else (some (impl_CostOf.en (-1))))) else (some (impl_CostOf.en (-1))))) := by kernel_rfl
theorem impl_CostOf.link : ∀ k, (∀ (x1 : ByteArray) (y0 : List (List Int)) (x6 : Int) (x21 : List Int) (x22 : Int) (x23 : Int), impl_CostOf.x0 k x1 y0 x6 x21 x22 x23 = (impl_CostOf.l0 k x1 y0 x6 x21 x22 x23).map (impl_CostOf.en))
  | 0 => fun _ _ _ _ _ _ => by simp only [impl_CostOf.l0, R.map_none]; rfl
  | k + 1 => by
    have ih0 := impl_CostOf.link k
    · intro x1 y0 x6 x21 x22 x23
      rw [impl_CostOf.e0]
      simp only [impl_CostOf.l0, R.map_ite, R.map_bind, R.map_none, R.map_some, R.wr64_eq, ← ih0]
theorem impl_CostOf.sf (k : Nat) (a0_0 : Int) (l0_1 : List Int) (l0_2 : List Int) (l0_3 : List Stp) (a1 : ByteArray) : R.start Try.prog xhn impl_CostOf.O 0 Try.f31 impl_CostOf.fh k [.agg [.int .i64 a0_0, .imm (.I .i64 l0_1), .imm (.I .i64 l0_2), .imm (.T l0_3)], .str a1] [] = (impl_CostOf.f k a0_0 l0_1 l0_2 l0_3 a1).map (impl_CostOf.en) := by
  have ih0 := impl_CostOf.link k
  rw [impl_CostOf.ef]
  simp only [impl_CostOf.f, R.map_ite, R.map_bind, R.map_none, R.map_some, R.wr64_eq, ← ih0]
theorem impl_CostOf.ok (k : Nat) : impl_CostOf.tw.Ok Try.prog k := by
  intro a r h
  refine fn_ok (H := xhn) (fh := impl_CostOf.fh) (O := impl_CostOf.O) (k := k) Try.func31 (by kernel_rfl) (by kernel_rfl) (fun j _ => (Tw.orc_sound impl_AutomatonValid.dok (impl_AutomatonValid.ok j) (Tw.orc_sound impl_WordValid.dok (impl_WordValid.ok j) (Tw.orc_sound impl_toEnd.dok (impl_toEnd.ok j) noO_sound)))) (by kernel_rfl) (m := 0) rfl ?_
  refine (impl_CostOf.sf k a.1 a.2.1 a.2.2.1 a.2.2.2.1 a.2.2.2.2).trans ?_
  exact congrArg (Option.map _) h
mutual
def impl_RunOf.l0 : Nat → ByteArray → Int → (List (List Int)) → (List Int) → Int → Int → Int → (List Int) → (List Int) → (List Stp) → Option ((List Int) × Bool)
  | 0, _, _, _, _, _, _, _, _, _, _ => none
  | k + 1, x1, x6, y1, x28, x29, x30, y0_0, y0_1, y0_2, y0_3 => (if x30 < x29 then (if 0 ≤ x30 then (if x30 < (x28.length : Int) then (if 0 ≤ (x1.size : Int) then (if (x1.size : Int) < (y1.length : Int) then (if 0 ≤ (rdI x28 x30) then (if (rdI x28 x30) < ((rdL y1 (x1.size : Int)).length : Int) then (if (rdI (rdL y1 (x1.size : Int)) (rdI x28 x30)) = x6 then (if ([] : List Int).length < 17592186044416 then (impl_RunOf.l1 k x1 x6 y1 (([] : List Int) ++ [(rdI x28 x30)]) (x1.size : Int) 0 y0_0 y0_1 y0_2 y0_3) else none) else (impl_RunOf.l0 k x1 x6 y1 x28 x29 (wrap64 (x30 + 1)) y0_0 y0_1 y0_2 y0_3)) else none) else none) else none) else none) else none) else none) else (impl_RunOf.l1 k x1 x6 y1 ([] : List Int) (x1.size : Int) 0 y0_0 y0_1 y0_2 y0_3))
def impl_RunOf.l1 : Nat → ByteArray → Int → (List (List Int)) → (List Int) → Int → Int → Int → (List Int) → (List Int) → (List Stp) → Option ((List Int) × Bool)
  | 0, _, _, _, _, _, _, _, _, _, _ => none
  | k + 1, x1, x6, y1, y2, x50, x51, y0_0, y0_1, y0_2, y0_3 => (if x51 < x50 then (impl_RunOf.l2 k x1 x6 y1 y2 x51 x50 x51 y0_3 (y0_3.length : Int) 0 y0_0 y0_1 y0_2 y0_3) else (some (y2, true)))
def impl_RunOf.l2 : Nat → ByteArray → Int → (List (List Int)) → (List Int) → Int → Int → Int → (List Stp) → Int → Int → Int → (List Int) → (List Int) → (List Stp) → Option ((List Int) × Bool)
  | 0, _, _, _, _, _, _, _, _, _, _, _, _, _, _ => none
  | k + 1, x1, x6, y1, y2, x11, x50, x51, x55, x56, x57, y0_0, y0_1, y0_2, y0_3 => (if x57 < x56 then (if 0 ≤ x57 then (if x57 < (x55.length : Int) then (if 0 ≤ x11 then (if x11 < (y2.length : Int) then (if (rdT x55 x57).f0 = (rdI y2 x11) then (if x11 ≤ (wrap64 (x11 + 1)) then (if (wrap64 (x11 + 1)) ≤ (x1.size : Int) then (if (rdT x55 x57).f1.toList = (x1.extract x11.toNat (wrap64 (x11 + 1)).toNat).toList then (if 0 ≤ (wrap64 ((wrap64 ((x1.size : Int) - x11)) - 1)) then (if (wrap64 ((wrap64 ((x1.size : Int) - x11)) - 1)) < (y1.length : Int) then (if 0 ≤ (rdT x55 x57).f2 then (if (rdT x55 x57).f2 < ((rdL y1 (wrap64 ((wrap64 ((x1.size : Int) - x11)) - 1))).length : Int) then (if (wrap64 ((rdT x55 x57).f3 + (rdI (rdL y1 (wrap64 ((wrap64 ((x1.size : Int) - x11)) - 1))) (rdT x55 x57).f2))) = x6 then (if y2.length < 17592186044416 then (impl_RunOf.l1 k x1 (wrap64 (x6 - (rdT x55 x57).f3)) y1 (y2 ++ [(rdT x55 x57).f2]) x50 (wrap64 (x51 + 1)) y0_0 y0_1 y0_2 y0_3) else none) else (impl_RunOf.l2 k x1 x6 y1 y2 x11 x50 x51 x55 x56 (wrap64 (x57 + 1)) y0_0 y0_1 y0_2 y0_3)) else none) else none) else none) else none) else (impl_RunOf.l2 k x1 x6 y1 y2 x11 x50 x51 x55 x56 (wrap64 (x57 + 1)) y0_0 y0_1 y0_2 y0_3)) else none) else none) else (impl_RunOf.l2 k x1 x6 y1 y2 x11 x50 x51 x55 x56 (wrap64 (x57 + 1)) y0_0 y0_1 y0_2 y0_3)) else none) else none) else none) else none) else (impl_RunOf.l1 k x1 x6 y1 y2 x50 (wrap64 (x51 + 1)) y0_0 y0_1 y0_2 y0_3))
end
def impl_RunOf.f (k : Nat) (a0_0 : Int) (l0_1 : List Int) (l0_2 : List Int) (l0_3 : List Stp) (a1 : ByteArray) : Option ((List Int) × Bool) := ((impl_CostOf.f k a0_0 l0_1 l0_2 l0_3 a1).bind fun t1 => (if t1 < 0 then (some (([] : List Int), false)) else (if t1 ≥ 1000000 then (some (([] : List Int), false)) else ((impl_toEnd.f k a0_0 l0_1 l0_2 l0_3 a1).bind fun t2 => (impl_RunOf.l0 k a1 t1 t2 l0_1 (l0_1.length : Int) 0 a0_0 l0_1 l0_2 l0_3)))))
def impl_RunOf.en (r : (List Int) × Bool) : Res := (.tup [.sl 0 0, .lit r.2], [.arr 3 0 (.I .i64 r.1) false])
def impl_RunOf.dec : List AV → List R.Obj → Option (Int × (List Int) × (List Int) × (List Stp) × ByteArray)
  | [.agg [.int .i64 a0_0, .imm (.I .i64 l0_1), .imm (.I .i64 l0_2), .imm (.T l0_3)], .str a1], [] => some (a0_0, l0_1, l0_2, l0_3, a1)
  | _, _ => none
def impl_RunOf.tw : Tw := ⟨16, Int × (List Int) × (List Int) × (List Stp) × ByteArray, (List Int) × Bool, impl_RunOf.dec, fun a => [.agg [.int .i64 a.1, .imm (.I .i64 a.2.1), .imm (.I .i64 a.2.2.1), .imm (.T a.2.2.2.1)], .str a.2.2.2.2], fun a => [], fun k a => impl_RunOf.f k a.1 a.2.1 a.2.2.1 a.2.2.2.1 a.2.2.2.2, fun a r => impl_RunOf.en r⟩
theorem impl_RunOf.dok : impl_RunOf.tw.DecOk := by
  intro args hc a h
  have h : impl_RunOf.dec args hc = some a := h
  unfold impl_RunOf.dec at h
  split at h
  · cases h; exact ⟨rfl, rfl⟩
  · cases h
noncomputable def impl_RunOf.O (k : Nat) : Oracle := (impl_CostOf.tw.orc k (impl_toEnd.tw.orc k noO))
def impl_RunOf.fh : FH := ⟨fun i => match i with | 7 => some [(1, 0), (2, 0), (6, 0), (7, 0), (8, 0), (28, 0), (29, 0), (30, 0)] | 13 => some [(1, 0), (2, 0), (6, 0), (7, 0), (8, 0), (50, 0), (51, 0)] | 16 => some [(1, 0), (2, 0), (6, 0), (7, 0), (8, 0), (11, 0), (50, 0), (51, 0), (55, 0), (56, 0), (57, 0)] | _ => none, [(true, 3)], false⟩
noncomputable def impl_RunOf.x0 (k : Nat) (x1 : ByteArray) (x6 : Int) (y1 : List (List Int)) (x28 : List Int) (x29 : Int) (x30 : Int) (y0_0 : Int) (y0_1 : List Int) (y0_2 : List Int) (y0_3 : List Stp) : Option Res := R.exec Try.prog xhn impl_RunOf.O 0 Try.f16 impl_RunOf.fh k (R.point Try.f16 7) ⟨[(1, .str x1), (2, .ptr 0 0), (6, .int .i64 x6), (7, .sl 1 0), (8, .sl 2 0), (28, .imm (.I .i64 x28)), (29, .int .i64 x29), (30, .int .i64 x30)], [(0, .box false [.int .i64 y0_0, .imm (.I .i64 y0_1), .imm (.I .i64 y0_2), .imm (.T y0_3)]), (1, .arr 22 0 (.L y1) false), (2, .arr 3 0 (.I .i64 ([] : List Int)) false)], 5⟩
noncomputable def impl_RunOf.x1 (k : Nat) (x1 : ByteArray) (x6 : Int) (y1 : List (List Int)) (y2 : List Int) (x50 : Int) (x51 : Int) (y0_0 : Int) (y0_1 : List Int) (y0_2 : List Int) (y0_3 : List Stp) : Option Res := R.exec Try.prog xhn impl_RunOf.O 0 Try.f16 impl_RunOf.fh k (R.point Try.f16 13) ⟨[(1, .str x1), (2, .ptr 0 0), (6, .int .i64 x6), (7, .sl 1 0), (8, .sl 2 0), (50, .int .i64 x50), (51, .int .i64 x51)], [(0, .box false [.int .i64 y0_0, .imm (.I .i64 y0_1), .imm (.I .i64 y0_2), .imm (.T y0_3)]), (1, .arr 22 0 (.L y1) false), (2, .arr 3 0 (.I .i64 y2) false)], 5⟩
noncomputable def impl_RunOf.x2 (k : Nat) (x1 : ByteArray) (x6 : Int) (y1 : List (List Int)) (y2 : List Int) (x11 : Int) (x50 : Int) (x51 : Int) (x55 : List Stp) (x56 : Int) (x57 : Int) (y0_0 : Int) (y0_1 : List Int) (y0_2 : List Int) (y0_3 : List Stp) : Option Res := R.exec Try.prog xhn impl_RunOf.O 0 Try.f16 impl_RunOf.fh k (R.point Try.f16 16) ⟨[(1, .str x1), (2, .ptr 0 0), (6, .int .i64 x6), (7, .sl 1 0), (8, .sl 2 0), (11, .int .i64 x11), (50, .int .i64 x50), (51, .int .i64 x51), (55, .imm (.T x55)), (56, .int .i64 x56), (57, .int .i64 x57)], [(0, .box false [.int .i64 y0_0, .imm (.I .i64 y0_1), .imm (.I .i64 y0_2), .imm (.T y0_3)]), (1, .arr 22 0 (.L y1) false), (2, .arr 3 0 (.I .i64 y2) false)], 5⟩
set_option maxRecDepth 100000 in
theorem impl_RunOf.e0 (k : Nat) (x1 : ByteArray) (x6 : Int) (y1 : List (List Int)) (x28 : List Int) (x29 : Int) (x30 : Int) (y0_0 : Int) (y0_1 : List Int) (y0_2 : List Int) (y0_3 : List Stp) : impl_RunOf.x0 (k + 1) x1 x6 y1 x28 x29 x30 y0_0 y0_1 y0_2 y0_3 = (if x30 < x29 then (if 0 ≤ x30 then (if x30 < (x28.length : Int) then (if 0 ≤ (x1.size : Int) then (if (x1.size : Int) < (y1.length : Int) then (if 0 ≤ (rdI x28 x30) then (if (rdI x28 x30) < ((rdL y1 (x1.size : Int)).length : Int) then (if (rdI (rdL y1 (x1.size : Int)) (rdI x28 x30)) = x6 then (if ([] : List Int).length < 17592186044416 then (impl_RunOf.x1 k x1 x6 y1 (([] : List Int) ++ [(rdI x28 x30)]) (x1.size : Int) 0 y0_0 y0_1 y0_2 y0_3) else none) else (impl_RunOf.x0 k x1 x6 y1 x28 x29 (wr64 (x30 + 1)) y0_0 y0_1 y0_2 y0_3)) else none) else none) else none) else none) else none) else none) else (impl_RunOf.x1 k x1 x6 y1 ([] : List Int) (x1.size : Int) 0 y0_0 y0_1 y0_2 y0_3)) := by kernel_rfl
set_option maxRecDepth 100000 in
theorem impl_RunOf.e1 (k : Nat) (x1 : ByteArray) (x6 : Int) (y1 : List (List Int)) (y2 : List Int) (x50 : Int) (x51 : Int) (y0_0 : Int) (y0_1 : List Int) (y0_2 : List Int) (y0_3 : List Stp) : impl_RunOf.x1 (k + 1) x1 x6 y1 y2 x50 x51 y0_0 y0_1 y0_2 y0_3 = (if x51 < x50 then (impl_RunOf.x2 k x1 x6 y1 y2 x51 x50 x51 y0_3 (y0_3.length : Int) 0 y0_0 y0_1 y0_2 y0_3) else (some (impl_RunOf.en (y2, true)))) := by kernel_rfl
set_option maxRecDepth 100000 in
theorem impl_RunOf.e2 (k : Nat) (x1 : ByteArray) (x6 : Int) (y1 : List (List Int)) (y2 : List Int) (x11 : Int) (x50 : Int) (x51 : Int) (x55 : List Stp) (x56 : Int) (x57 : Int) (y0_0 : Int) (y0_1 : List Int) (y0_2 : List Int) (y0_3 : List Stp) : impl_RunOf.x2 (k + 1) x1 x6 y1 y2 x11 x50 x51 x55 x56 x57 y0_0 y0_1 y0_2 y0_3 = (if x57 < x56 then (if 0 ≤ x57 then (if x57 < (x55.length : Int) then (if 0 ≤ x11 then (if x11 < (y2.length : Int) then (if (rdT x55 x57).f0 = (rdI y2 x11) then (if x11 ≤ (wr64 (x11 + 1)) then (if (wr64 (x11 + 1)) ≤ (x1.size : Int) then (if (rdT x55 x57).f1.toList = (x1.extract x11.toNat (wr64 (x11 + 1)).toNat).toList then (if 0 ≤ (wr64 ((wr64 ((x1.size : Int) - x11)) - 1)) then (if (wr64 ((wr64 ((x1.size : Int) - x11)) - 1)) < (y1.length : Int) then (if 0 ≤ (rdT x55 x57).f2 then (if (rdT x55 x57).f2 < ((rdL y1 (wr64 ((wr64 ((x1.size : Int) - x11)) - 1))).length : Int) then (if (wr64 ((rdT x55 x57).f3 + (rdI (rdL y1 (wr64 ((wr64 ((x1.size : Int) - x11)) - 1))) (rdT x55 x57).f2))) = x6 then (if y2.length < 17592186044416 then (impl_RunOf.x1 k x1 (wr64 (x6 - (rdT x55 x57).f3)) y1 (y2 ++ [(rdT x55 x57).f2]) x50 (wr64 (x51 + 1)) y0_0 y0_1 y0_2 y0_3) else none) else (impl_RunOf.x2 k x1 x6 y1 y2 x11 x50 x51 x55 x56 (wr64 (x57 + 1)) y0_0 y0_1 y0_2 y0_3)) else none) else none) else none) else none) else (impl_RunOf.x2 k x1 x6 y1 y2 x11 x50 x51 x55 x56 (wr64 (x57 + 1)) y0_0 y0_1 y0_2 y0_3)) else none) else none) else (impl_RunOf.x2 k x1 x6 y1 y2 x11 x50 x51 x55 x56 (wr64 (x57 + 1)) y0_0 y0_1 y0_2 y0_3)) else none) else none) else none) else none) else (impl_RunOf.x1 k x1 x6 y1 y2 x50 (wr64 (x51 + 1)) y0_0 y0_1 y0_2 y0_3)) := by
  refine Eq.trans ?_ (R.icong (fun h0 => (R.icong (fun h1 => (R.icong (fun h2 => (R.icong (fun h3 => (R.icong (fun h4 => (R.icong (fun h5 => (R.idropT (p := 0 ≤ x11) (z := none) h3 rfl)) (fun h5 => rfl))) (fun h4 => rfl))) (fun h3 => rfl))) (fun h2 => rfl))) (fun h1 => rfl))) (fun h0 => rfl))
  kernel_rfl
set_option maxRecDepth 100000 in
theorem impl_RunOf.ef (k : Nat) (a0_0 : Int) (l0_1 : List Int) (l0_2 : List Int) (l0_3 : List Stp) (a1 : ByteArray) : R.start Try.prog xhn impl_RunOf.O 0 Try.f16 impl_RunOf.fh k [.agg [.int .i64 a0_0, .imm (.I .i64 l0_1), .imm (.I .i64 l0_2), .imm (.T l0_3)], .str a1] [] = ((impl_CostOf.f k a0_0 l0_1 l0_2 l0_3 a1).bind fun t1 => (if t1 < 0 then (some (impl_RunOf.en (([] : List Int), false))) else (if t1 ≥ 1000000 then (some (impl_RunOf.en (([] : List Int), false))) else ((impl_toEnd.f k a0_0 l0_1 l0_2 l0_3 a1).bind fun t2 => (impl_RunOf.x0 k a1 t1 t2 l0_1 (l0_1.length : Int) 0 a0_0 l0_1 l0_2 l0_3))))) := by kernel_rfl
theorem impl_RunOf.link : ∀ k, (∀ (x1 : ByteArray) (x6 : Int) (y1 : List (List Int)) (x28 : List Int) (x29 : Int) (x30 : Int) (y0_0 : Int) (y0_1 : List Int) (y0_2 : List Int) (y0_3 : List Stp), impl_RunOf.x0 k x1 x6 y1 x28 x29 x30 y0_0 y0_1 y0_2 y0_3 = (impl_RunOf.l0 k x1 x6 y1 x28 x29 x30 y0_0 y0_1 y0_2 y0_3).map (impl_RunOf.en)) ∧ (∀ (x1 : ByteArray) (x6 : Int) (y1 : List (List Int)) (y2 : List Int) (x50 : Int) (x51 : Int) (y0_0 : Int) (y0_1 : List Int) (y0_2 : List Int) (y0_3 : List Stp), impl_RunOf.x1 k x1 x6 y1 y2 x50 x51 y0_0 y0_1 y0_2 y0_3 = (impl_RunOf.l1 k x1 x6 y1 y2 x50 x51 y0_0 y0_1 y0_2 y0_3).map (impl_RunOf.en)) ∧ (∀ (x1 : ByteArray) (x6 : Int) (y1 : List (List Int)) (y2 : List Int) (x11 : Int) (x50 : Int) (x51 : Int) (x55 : List Stp) (x56 : Int) (x57 : Int) (y0_0 : Int) (y0_1 : List Int) (y0_2 : List Int) (y0_3 : List Stp), impl_RunOf.x2 k x1 x6 y1 y2 x11 x50 x51 x55 x56 x57 y0_0 y0_1 y0_2 y0_3 = (impl_RunOf.l2 k x1 x6 y1 y2 x11 x50 x51 x55 x56 x57 y0_0 y0_1 y0_2 y0_3).map (impl_RunOf.en))
  | 0 => ⟨fun _ _ _ _ _ _ _ _ _ _ => by simp only [impl_RunOf.l0, R.map_none]; rfl, fun _ _ _ _ _ _ _ _ _ _ => by simp only [impl_RunOf.l1, R.map_none]; rfl, fun _ _ _ _ _ _ _ _ _ _ _ _ _ _ => by simp only [impl_RunOf.l2, R.map_none]; rfl⟩
  | k + 1 => by
    obtain ⟨ih0, ih1, ih2⟩ := impl_RunOf.link k
    refine ⟨?_, ?_, ?_⟩
    · intro x1 x6 y1 x28 x29 x30 y0_0 y0_1 y0_2 y0_3
      rw [impl_RunOf.e0]
      simp only [impl_RunOf.l0, R.map_ite, R.map_bind, R.map_none, R.map_some, R.wr64_eq, ← ih0, ← ih1, ← ih2]
    · intro x1 x6 y1 y2 x50 x51 y0_0 y0_1 y0_2 y0_3
      rw [impl_RunOf.e1]
      simp only [impl_RunOf.l1, R.map_ite, R.map_bind, R.map_none, R.map_some, R.wr64_eq, ← ih0, ← ih1, ← ih2]
    · intro x1 x6 y1 y2 x11 x50 x51 x55 x56 x57 y0_0 y0_1 y0_2 y0_3
      rw [impl_RunOf.e2]
      simp only [impl_RunOf.l2, R.map_ite, R.map_bind, R.map_none, R.map_some, R.wr64_eq, ← ih0, ← ih1, ← ih2]
theorem impl_RunOf.sf (k : Nat) (a0_0 : Int) (l0_1 : List Int) (l0_2 : List Int) (l0_3 : List Stp) (a1 : ByteArray) : R.start Try.prog xhn impl_RunOf.O 0 Try.f16 impl_RunOf.fh k [.agg [.int .i64 a0_0, .imm (.I .i64 l0_1), .imm (.I .i64 l0_2), .imm (.T l0_3)], .str a1] [] = (impl_RunOf.f k a0_0 l0_1 l0_2 l0_3 a1).map (impl_RunOf.en) := by
  obtain ⟨ih0, ih1, ih2⟩ := impl_RunOf.link k
  rw [impl_RunOf.ef]
  simp only [impl_RunOf.f, R.map_ite, R.map_bind, R.map_none, R.map_some, R.wr64_eq, ← ih0, ← ih1, ← ih2]
theorem impl_RunOf.ok (k : Nat) : impl_RunOf.tw.Ok Try.prog k := by
  intro a r h
  refine fn_ok (H := xhn) (fh := impl_RunOf.fh) (O := impl_RunOf.O) (k := k) Try.func16 (by kernel_rfl) (by kernel_rfl) (fun j _ => (Tw.orc_sound impl_CostOf.dok (impl_CostOf.ok j) (Tw.orc_sound impl_toEnd.dok (impl_toEnd.ok j) noO_sound))) (by kernel_rfl) (m := 0) rfl ?_
  refine (impl_RunOf.sf k a.1 a.2.1 a.2.2.1 a.2.2.2.1 a.2.2.2.2).trans ?_
  exact congrArg (Option.map _) h
def spec_WordValid.l0 : Nat → ByteArray → Int → Int → Option (Bool)
  | 0, _, _, _ => none
  | k + 1, x0, x5, x6 => (if x6 < x5 then (if 0 ≤ x6 then (if x6 < (x0.size : Int) then (if (btI x0 x6) = 97 then (spec_WordValid.l0 k x0 x5 (wrap64 (x6 + 1))) else (if (btI x0 x6) = 98 then (spec_WordValid.l0 k x0 x5 (wrap64 (x6 + 1))) else (some false))) else none) else none) else (some (decide ((x0.size : Int) ≤ 1000))))
def spec_WordValid.f (k : Nat) (a0 : ByteArray) : Option (Bool) := (spec_WordValid.l0 k a0 (a0.size : Int) 0)
def spec_WordValid.en (r : Bool) : Res := (.lit r, [])
def spec_WordValid.dec : List AV → List R.Obj → Option (ByteArray)
  | [.str a0], [] => some a0
  | _, _ => none
def spec_WordValid.tw : Tw := ⟨141, ByteArray, Bool, spec_WordValid.dec, fun a => [.str a], fun a => [], fun k a => spec_WordValid.f k a, fun a r => spec_WordValid.en r⟩
theorem spec_WordValid.dok : spec_WordValid.tw.DecOk := by
  intro args hc a h
  have h : spec_WordValid.dec args hc = some a := h
  unfold spec_WordValid.dec at h
  split at h
  · cases h; exact ⟨rfl, rfl⟩
  · cases h
noncomputable def spec_WordValid.O (k : Nat) : Oracle := noO
def spec_WordValid.fh : FH := ⟨fun i => match i with | 2 => some [(0, 0), (5, 0), (6, 0)] | _ => none, [], false⟩
noncomputable def spec_WordValid.x0 (k : Nat) (x0 : ByteArray) (x5 : Int) (x6 : Int) : Option Res := R.exec Try.prog xhn spec_WordValid.O 0 Try.f141 spec_WordValid.fh k (R.point Try.f141 2) ⟨[(0, .str x0), (5, .int .i64 x5), (6, .int .i64 x6)], [], 2⟩
set_option maxRecDepth 100000 in
theorem spec_WordValid.e0 (k : Nat) (x0 : ByteArray) (x5 : Int) (x6 : Int) : spec_WordValid.x0 (k + 1) x0 x5 x6 = (if x6 < x5 then (if 0 ≤ x6 then (if x6 < (x0.size : Int) then (if (btI x0 x6) = 97 then (spec_WordValid.x0 k x0 x5 (wr64 (x6 + 1))) else (if (btI x0 x6) = 98 then (spec_WordValid.x0 k x0 x5 (wr64 (x6 + 1))) else (some (spec_WordValid.en false)))) else none) else none) else (some (spec_WordValid.en (decide ((x0.size : Int) ≤ 1000))))) := by
  refine Eq.trans ?_ (R.icong (fun h0 => (R.icong (fun h1 => (R.icong (fun h2 => (R.icong (fun h3 => rfl) (fun h3 => (R.idropT (p := 0 ≤ x6) (z := none) h1 (R.idropT (p := x6 < (x0.size : Int)) (z := none) h2 rfl))))) (fun h2 => rfl))) (fun h1 => rfl))) (fun h0 => rfl))
  kernel_rfl
set_option maxRecDepth 100000 in
theorem spec_WordValid.ef (k : Nat) (a0 : ByteArray) : R.start Try.prog xhn spec_WordValid.O 0 Try.f141 spec_WordValid.fh k [.str a0] [] = (spec_WordValid.x0 k a0 (a0.size : Int) 0) := by kernel_rfl
theorem spec_WordValid.link : ∀ k, (∀ (x0 : ByteArray) (x5 : Int) (x6 : Int), spec_WordValid.x0 k x0 x5 x6 = (spec_WordValid.l0 k x0 x5 x6).map (spec_WordValid.en))
  | 0 => fun _ _ _ => by simp only [spec_WordValid.l0, R.map_none]; rfl
  | k + 1 => by
    have ih0 := spec_WordValid.link k
    · intro x0 x5 x6
      rw [spec_WordValid.e0]
      simp only [spec_WordValid.l0, R.map_ite, R.map_bind, R.map_none, R.map_some, R.wr64_eq, ← ih0]
theorem spec_WordValid.sf (k : Nat) (a0 : ByteArray) : R.start Try.prog xhn spec_WordValid.O 0 Try.f141 spec_WordValid.fh k [.str a0] [] = (spec_WordValid.f k a0).map (spec_WordValid.en) := by
  have ih0 := spec_WordValid.link k
  rw [spec_WordValid.ef]
  simp only [spec_WordValid.f, R.map_ite, R.map_bind, R.map_none, R.map_some, R.wr64_eq, ← ih0]
theorem spec_WordValid.ok (k : Nat) : spec_WordValid.tw.Ok Try.prog k := by
  intro a r h
  refine fn_ok (H := xhn) (fh := spec_WordValid.fh) (O := spec_WordValid.O) (k := k) Try.func141 (by kernel_rfl) (by kernel_rfl) (fun j _ => noO_sound) (by kernel_rfl) (m := 0) rfl ?_
  refine (spec_WordValid.sf k a).trans ?_
  exact congrArg (Option.map _) h
def spec_l4Asked.f (k : Nat) (a0_0 : Int) (l0_1 : List Int) (l0_2 : List Int) (l0_3 : List Stp) (a1 : ByteArray) : Option (Bool) := ((spec_AutomatonValid.f k a0_0 l0_1 l0_2 l0_3).bind fun t1 => (if t1 = true then ((spec_WordValid.f k a1).bind fun t2 => (some t2)) else (some false)))
def spec_l4Asked.en (r : Bool) : Res := (.lit r, [])
def spec_l4Asked.dec : List AV → List R.Obj → Option (Int × (List Int) × (List Int) × (List Stp) × ByteArray)
  | [.agg [.int .i64 a0_0, .imm (.I .i64 l0_1), .imm (.I .i64 l0_2), .imm (.T l0_3)], .str a1], [] => some (a0_0, l0_1, l0_2, l0_3, a1)
  | _, _ => none
def spec_l4Asked.tw : Tw := ⟨77, Int × (List Int) × (List Int) × (List Stp) × ByteArray, Bool, spec_l4Asked.dec, fun a => [.agg [.int .i64 a.1, .imm (.I .i64 a.2.1), .imm (.I .i64 a.2.2.1), .imm (.T a.2.2.2.1)], .str a.2.2.2.2], fun a => [], fun k a => spec_l4Asked.f k a.1 a.2.1 a.2.2.1 a.2.2.2.1 a.2.2.2.2, fun a r => spec_l4Asked.en r⟩
theorem spec_l4Asked.dok : spec_l4Asked.tw.DecOk := by
  intro args hc a h
  have h : spec_l4Asked.dec args hc = some a := h
  unfold spec_l4Asked.dec at h
  split at h
  · cases h; exact ⟨rfl, rfl⟩
  · cases h
noncomputable def spec_l4Asked.O (k : Nat) : Oracle := (spec_AutomatonValid.tw.orc k (spec_WordValid.tw.orc k noO))
def spec_l4Asked.fh : FH := ⟨fun i => match i with | _ => none, [], false⟩
set_option maxRecDepth 100000 in
theorem spec_l4Asked.ef (k : Nat) (a0_0 : Int) (l0_1 : List Int) (l0_2 : List Int) (l0_3 : List Stp) (a1 : ByteArray) : R.start Try.prog xhn spec_l4Asked.O 0 Try.f77 spec_l4Asked.fh k [.agg [.int .i64 a0_0, .imm (.I .i64 l0_1), .imm (.I .i64 l0_2), .imm (.T l0_3)], .str a1] [] = ((spec_AutomatonValid.f k a0_0 l0_1 l0_2 l0_3).bind fun t1 => (if t1 = true then ((spec_WordValid.f k a1).bind fun t2 => (some (spec_l4Asked.en t2))) else (some (spec_l4Asked.en false)))) := by kernel_rfl
theorem spec_l4Asked.sf (k : Nat) (a0_0 : Int) (l0_1 : List Int) (l0_2 : List Int) (l0_3 : List Stp) (a1 : ByteArray) : R.start Try.prog xhn spec_l4Asked.O 0 Try.f77 spec_l4Asked.fh k [.agg [.int .i64 a0_0, .imm (.I .i64 l0_1), .imm (.I .i64 l0_2), .imm (.T l0_3)], .str a1] [] = (spec_l4Asked.f k a0_0 l0_1 l0_2 l0_3 a1).map (spec_l4Asked.en) := by
  rw [spec_l4Asked.ef]
  simp only [spec_l4Asked.f, R.map_ite, R.map_bind, R.map_none, R.map_some, R.wr64_eq]
theorem spec_l4Asked.ok (k : Nat) : spec_l4Asked.tw.Ok Try.prog k := by
  intro a r h
  refine fn_ok (H := xhn) (fh := spec_l4Asked.fh) (O := spec_l4Asked.O) (k := k) Try.func77 (by kernel_rfl) (by kernel_rfl) (fun j _ => (Tw.orc_sound spec_AutomatonValid.dok (spec_AutomatonValid.ok j) (Tw.orc_sound spec_WordValid.dok (spec_WordValid.ok j) noO_sound))) (by kernel_rfl) (m := 0) rfl ?_
  refine (spec_l4Asked.sf k a.1 a.2.1 a.2.2.1 a.2.2.2.1 a.2.2.2.2).trans ?_
  exact congrArg (Option.map _) h
def spec_l2Unit.l0 : Nat → Int → Int → Int → Int → (List Int) → Option (Int × (List Int))
  | 0, _, _, _, _, _ => none
  | k + 1, x0, x9, x10, y1_0, y3 => (if x10 < x9 then (if x0 = 0 then none else (if (wrap64 (x10.tdiv x0)) = (x10.tmod x0) then (if y3.length < 17592186044416 then (spec_l2Unit.l0 k x0 x9 (wrap64 (x10 + 1)) y1_0 (y3 ++ [0])) else none) else (if y3.length < 17592186044416 then (spec_l2Unit.l0 k x0 x9 (wrap64 (x10 + 1)) y1_0 (y3 ++ [1000000])) else none))) else (some (y1_0, y3)))
def spec_l2Unit.f (k : Nat) (a0 : Int) : Option (Int × (List Int)) := (spec_l2Unit.l0 k a0 (wrap64 (a0 * a0)) 0 a0 ([] : List Int))
def spec_l2Unit.en (r : Int × (List Int)) : Res := (.agg [.int .i64 r.1, .sl 0 0], [.arr 3 0 (.I .i64 r.2) false])
def spec_l2Unit.dec : List AV → List R.Obj → Option (Int)
  | [.int .i64 a0], [] => some a0
  | _, _ => none
def spec_l2Unit.tw : Tw := ⟨160, Int, Int × (List Int), spec_l2Unit.dec, fun a => [.int .i64 a], fun a => [], fun k a => spec_l2Unit.f k a, fun a r => spec_l2Unit.en r⟩
theorem spec_l2Unit.dok : spec_l2Unit.tw.DecOk := by
  intro args hc a h
  have h : spec_l2Unit.dec args hc = some a := h
  unfold spec_l2Unit.dec at h
  split at h
  · cases h; exact ⟨rfl, rfl⟩
  · cases h
noncomputable def spec_l2Unit.O (k : Nat) : Oracle := noO
def spec_l2Unit.fh : FH := ⟨fun i => match i with | 3 => some [(0, 0), (2, 0), (3, 0), (9, 0), (10, 0)] | _ => none, [(true, 3)], false⟩
noncomputable def spec_l2Unit.x0 (k : Nat) (x0 : Int) (x9 : Int) (x10 : Int) (y1_0 : Int) (y3 : List Int) : Option Res := R.exec Try.prog xhn spec_l2Unit.O 0 Try.f160 spec_l2Unit.fh k (R.point Try.f160 3) ⟨[(0, .int .i64 x0), (2, .ptr 0 0), (3, .ptr 1 0), (9, .int .i64 x9), (10, .int .i64 x10)], [(0, .box false [.int .i64 0, .sl 2 0]), (1, .box false [.int .i64 y1_0, .sl 3 0]), (2, .arr 3 0 (.I .i64 ([] : List Int)) false), (3, .arr 3 0 (.I .i64 y3) false)], 6⟩
set_option maxRecDepth 100000 in
theorem spec_l2Unit.e0 (k : Nat) (x0 : Int) (x9 : Int) (x10 : Int) (y1_0 : Int) (y3 : List Int) : spec_l2Unit.x0 (k + 1) x0 x9 x10 y1_0 y3 = (if x10 < x9 then (if x0 = 0 then none else (if (wr64 (x10.tdiv x0)) = (x10.tmod x0) then (if y3.length < 17592186044416 then (spec_l2Unit.x0 k x0 x9 (wr64 (x10 + 1)) y1_0 (y3 ++ [0])) else none) else (if y3.length < 17592186044416 then (spec_l2Unit.x0 k x0 x9 (wr64 (x10 + 1)) y1_0 (y3 ++ [1000000])) else none))) else (some (spec_l2Unit.en (y1_0, y3)))) := by
  refine Eq.trans ?_ (R.icong (fun h0 => (R.icong (fun h1 => rfl) (fun h1 => (R.idropF (p := x0 = 0) (z := none) h1 rfl)))) (fun h0 => rfl))
  kernel_rfl
set_option maxRecDepth 100000 in
theorem spec_l2Unit.ef (k : Nat) (a0 : Int) : R.start Try.prog xhn spec_l2Unit.O 0 Try.f160 spec_l2Unit.fh k [.int .i64 a0] [] = (spec_l2Unit.x0 k a0 (wr64 (a0 * a0)) 0 a0 ([] : List Int)) := by kernel_rfl
theorem spec_l2Unit.link : ∀ k, (∀ (x0 : Int) (x9 : Int) (x10 : Int) (y1_0 : Int) (y3 : List Int), spec_l2Unit.x0 k x0 x9 x10 y1_0 y3 = (spec_l2Unit.l0 k x0 x9 x10 y1_0 y3).map (spec_l2Unit.en))
  | 0 => fun _ _ _ _ _ => by simp only [spec_l2Unit.l0, R.map_none]; rfl
  | k + 1 => by
    have ih0 := spec_l2Unit.link k
    · intro x0 x9 x10 y1_0 y3
      rw [spec_l2Unit.e0]
      simp only [spec_l2Unit.l0, R.map_ite, R.map_bind, R.map_none, R.map_some, R.wr64_eq, ← ih0]
theorem spec_l2Unit.sf (k : Nat) (a0 : Int) : R.start Try.prog xhn spec_l2Unit.O 0 Try.f160 spec_l2Unit.fh k [.int .i64 a0] [] = (spec_l2Unit.f k a0).map (spec_l2Unit.en) := by
  have ih0 := spec_l2Unit.link k
  rw [spec_l2Unit.ef]
  simp only [spec_l2Unit.f, R.map_ite, R.map_bind, R.map_none, R.map_some, R.wr64_eq, ← ih0]
theorem spec_l2Unit.ok (k : Nat) : spec_l2Unit.tw.Ok Try.prog k := by
  intro a r h
  refine fn_ok (H := xhn) (fh := spec_l2Unit.fh) (O := spec_l2Unit.O) (k := k) Try.func160 (by kernel_rfl) (by kernel_rfl) (fun j _ => noO_sound) (by kernel_rfl) (m := 0) rfl ?_
  refine (spec_l2Unit.sf k a).trans ?_
  exact congrArg (Option.map _) h
mutual
def spec_l3Matrix.l0 : Nat → ByteArray → Int → Int → Int → (List Int) → (List Int) → (List Stp) → Int → (List Int) → Option (Int × (List Int))
  | 0, _, _, _, _, _, _, _, _, _ => none
  | k + 1, x1, x15, x16, y0_0, y0_1, y0_2, y0_3, y2_0, y4 => (if x16 < x15 then (if y4.length < 17592186044416 then (spec_l3Matrix.l0 k x1 x15 (wrap64 (x16 + 1)) y0_0 y0_1 y0_2 y0_3 y2_0 (y4 ++ [1000000])) else none) else (spec_l3Matrix.l1 k x1 y0_3 (y0_3.length : Int) 0 y0_0 y0_1 y0_2 y0_3 y2_0 y4))
def spec_l3Matrix.l1 : Nat → ByteArray → (List Stp) → Int → Int → Int → (List Int) → (List Int) → (List Stp) → Int → (List Int) → Option (Int × (List Int))
  | 0, _, _, _, _, _, _, _, _, _, _ => none
  | k + 1, x1, x25, x26, x27, y0_0, y0_1, y0_2, y0_3, y2_0, y4 => (if x27 < x26 then (if 0 ≤ x27 then (if x27 < (x25.length : Int) then (if (rdT x25 x27).f1.toList = x1.toList then (if 0 ≤ (wrap64 ((wrap64 ((rdT x25 x27).f0 * y0_0)) + (rdT x25 x27).f2)) then (if (wrap64 ((wrap64 ((rdT x25 x27).f0 * y0_0)) + (rdT x25 x27).f2)) < (y4.length : Int) then (spec_l3Matrix.l1 k x1 x25 x26 (wrap64 (x27 + 1)) y0_0 y0_1 y0_2 y0_3 y2_0 (y4.set (wrap64 ((wrap64 ((rdT x25 x27).f0 * y0_0)) + (rdT x25 x27).f2)).toNat (rdT x25 x27).f3)) else none) else none) else (spec_l3Matrix.l1 k x1 x25 x26 (wrap64 (x27 + 1)) y0_0 y0_1 y0_2 y0_3 y2_0 y4)) else none) else none) else (some (y2_0, y4)))
end
def spec_l3Matrix.f (k : Nat) (a0_0 : Int) (l0_1 : List Int) (l0_2 : List Int) (l0_3 : List Stp) (a1 : ByteArray) : Option (Int × (List Int)) := (spec_l3Matrix.l0 k a1 (wrap64 (a0_0 * a0_0)) 0 a0_0 l0_1 l0_2 l0_3 a0_0 ([] : List Int))
def spec_l3Matrix.en (r : Int × (List Int)) : Res := (.agg [.int .i64 r.1, .sl 0 0], [.arr 3 0 (.I .i64 r.2) false])
def spec_l3Matrix.dec : List AV → List R.Obj → Option (Int × (List Int) × (List Int) × (List Stp) × ByteArray)
  | [.agg [.int .i64 a0_0, .imm (.I .i64 l0_1), .imm (.I .i64 l0_2), .imm (.T l0_3)], .str a1], [] => some (a0_0, l0_1, l0_2, l0_3, a1)
  | _, _ => none
def spec_l3Matrix.tw : Tw := ⟨161, Int × (List Int) × (List Int) × (List Stp) × ByteArray, Int × (List Int), spec_l3Matrix.dec, fun a => [.agg [.int .i64 a.1, .imm (.I .i64 a.2.1), .imm (.I .i64 a.2.2.1), .imm (.T a.2.2.2.1)], .str a.2.2.2.2], fun a => [], fun k a => spec_l3Matrix.f k a.1 a.2.1 a.2.2.1 a.2.2.2.1 a.2.2.2.2, fun a r => spec_l3Matrix.en r⟩
theorem spec_l3Matrix.dok : spec_l3Matrix.tw.DecOk := by
  intro args hc a h
  have h : spec_l3Matrix.dec args hc = some a := h
  unfold spec_l3Matrix.dec at h
  split at h
  · cases h; exact ⟨rfl, rfl⟩
  · cases h
noncomputable def spec_l3Matrix.O (k : Nat) : Oracle := noO
def spec_l3Matrix.fh : FH := ⟨fun i => match i with | 3 => some [(1, 0), (2, 0), (4, 0), (5, 0), (15, 0), (16, 0)] | 7 => some [(1, 0), (2, 0), (4, 0), (5, 0), (25, 0), (26, 0), (27, 0)] | _ => none, [(true, 3)], false⟩
noncomputable def spec_l3Matrix.x0 (k : Nat) (x1 : ByteArray) (x15 : Int) (x16 : Int) (y0_0 : Int) (y0_1 : List Int) (y0_2 : List Int) (y0_3 : List Stp) (y2_0 : Int) (y4 : List Int) : Option Res := R.exec Try.prog xhn spec_l3Matrix.O 0 Try.f161 spec_l3Matrix.fh k (R.point Try.f161 3) ⟨[(1, .str x1), (2, .ptr 0 0), (4, .ptr 1 0), (5, .ptr 2 0), (15, .int .i64 x15), (16, .int .i64 x16)], [(0, .box false [.int .i64 y0_0, .imm (.I .i64 y0_1), .imm (.I .i64 y0_2), .imm (.T y0_3)]), (1, .box false [.int .i64 0, .sl 3 0]), (2, .box false [.int .i64 y2_0, .sl 4 0]), (3, .arr 3 0 (.I .i64 ([] : List Int)) false), (4, .arr 3 0 (.I .i64 y4) false)], 7⟩
noncomputable def spec_l3Matrix.x1 (k : Nat) (x1 : ByteArray) (x25 : List Stp) (x26 : Int) (x27 : Int) (y0_0 : Int) (y0_1 : List Int) (y0_2 : List Int) (y0_3 : List Stp) (y2_0 : Int) (y4 : List Int) : Option Res := R.exec Try.prog xhn spec_l3Matrix.O 0 Try.f161 spec_l3Matrix.fh k (R.point Try.f161 7) ⟨[(1, .str x1), (2, .ptr 0 0), (4, .ptr 1 0), (5, .ptr 2 0), (25, .imm (.T x25)), (26, .int .i64 x26), (27, .int .i64 x27)], [(0, .box false [.int .i64 y0_0, .imm (.I .i64 y0_1), .imm (.I .i64 y0_2), .imm (.T y0_3)]), (1, .box false [.int .i64 0, .sl 3 0]), (2, .box false [.int .i64 y2_0, .sl 4 0]), (3, .arr 3 0 (.I .i64 ([] : List Int)) false), (4, .arr 3 0 (.I .i64 y4) false)], 7⟩
set_option maxRecDepth 100000 in
theorem spec_l3Matrix.e0 (k : Nat) (x1 : ByteArray) (x15 : Int) (x16 : Int) (y0_0 : Int) (y0_1 : List Int) (y0_2 : List Int) (y0_3 : List Stp) (y2_0 : Int) (y4 : List Int) : spec_l3Matrix.x0 (k + 1) x1 x15 x16 y0_0 y0_1 y0_2 y0_3 y2_0 y4 = (if x16 < x15 then (if y4.length < 17592186044416 then (spec_l3Matrix.x0 k x1 x15 (wr64 (x16 + 1)) y0_0 y0_1 y0_2 y0_3 y2_0 (y4 ++ [1000000])) else none) else (spec_l3Matrix.x1 k x1 y0_3 (y0_3.length : Int) 0 y0_0 y0_1 y0_2 y0_3 y2_0 y4)) := by kernel_rfl
set_option maxRecDepth 100000 in
theorem spec_l3Matrix.e1 (k : Nat) (x1 : ByteArray) (x25 : List Stp) (x26 : Int) (x27 : Int) (y0_0 : Int) (y0_1 : List Int) (y0_2 : List Int) (y0_3 : List Stp) (y2_0 : Int) (y4 : List Int) : spec_l3Matrix.x1 (k + 1) x1 x25 x26 x27 y0_0 y0_1 y0_2 y0_3 y2_0 y4 = (if x27 < x26 then (if 0 ≤ x27 then (if x27 < (x25.length : Int) then (if (rdT x25 x27).f1.toList = x1.toList then (if 0 ≤ (wr64 ((wr64 ((rdT x25 x27).f0 * y0_0)) + (rdT x25 x27).f2)) then (if (wr64 ((wr64 ((rdT x25 x27).f0 * y0_0)) + (rdT x25 x27).f2)) < (y4.length : Int) then (spec_l3Matrix.x1 k x1 x25 x26 (wr64 (x27 + 1)) y0_0 y0_1 y0_2 y0_3 y2_0 (y4.set (wr64 ((wr64 ((rdT x25 x27).f0 * y0_0)) + (rdT x25 x27).f2)).toNat (rdT x25 x27).f3)) else none) else none) else (spec_l3Matrix.x1 k x1 x25 x26 (wr64 (x27 + 1)) y0_0 y0_1 y0_2 y0_3 y2_0 y4)) else none) else none) else (some (spec_l3Matrix.en (y2_0, y4)))) := by kernel_rfl
set_option maxRecDepth 100000 in
theorem spec_l3Matrix.ef (k : Nat) (a0_0 : Int) (l0_1 : List Int) (l0_2 : List Int) (l0_3 : List Stp) (a1 : ByteArray) : R.start Try.prog xhn spec_l3Matrix.O 0 Try.f161 spec_l3Matrix.fh k [.agg [.int .i64 a0_0, .imm (.I .i64 l0_1), .imm (.I .i64 l0_2), .imm (.T l0_3)], .str a1] [] = (spec_l3Matrix.x0 k a1 (wr64 (a0_0 * a0_0)) 0 a0_0 l0_1 l0_2 l0_3 a0_0 ([] : List Int)) := by kernel_rfl
theorem spec_l3Matrix.link : ∀ k, (∀ (x1 : ByteArray) (x15 : Int) (x16 : Int) (y0_0 : Int) (y0_1 : List Int) (y0_2 : List Int) (y0_3 : List Stp) (y2_0 : Int) (y4 : List Int), spec_l3Matrix.x0 k x1 x15 x16 y0_0 y0_1 y0_2 y0_3 y2_0 y4 = (spec_l3Matrix.l0 k x1 x15 x16 y0_0 y0_1 y0_2 y0_3 y2_0 y4).map (spec_l3Matrix.en)) ∧ (∀ (x1 : ByteArray) (x25 : List Stp) (x26 : Int) (x27 : Int) (y0_0 : Int) (y0_1 : List Int) (y0_2 : List Int) (y0_3 : List Stp) (y2_0 : Int) (y4 : List Int), spec_l3Matrix.x1 k x1 x25 x26 x27 y0_0 y0_1 y0_2 y0_3 y2_0 y4 = (spec_l3Matrix.l1 k x1 x25 x26 x27 y0_0 y0_1 y0_2 y0_3 y2_0 y4).map (spec_l3Matrix.en))
  | 0 => ⟨fun _ _ _ _ _ _ _ _ _ => by simp only [spec_l3Matrix.l0, R.map_none]; rfl, fun _ _ _ _ _ _ _ _ _ _ => by simp only [spec_l3Matrix.l1, R.map_none]; rfl⟩
  | k + 1 => by
    obtain ⟨ih0, ih1⟩ := spec_l3Matrix.link k
    refine ⟨?_, ?_⟩
    · intro x1 x15 x16 y0_0 y0_1 y0_2 y0_3 y2_0 y4
      rw [spec_l3Matrix.e0]
      simp only [spec_l3Matrix.l0, R.map_ite, R.map_bind, R.map_none, R.map_some, R.wr64_eq, ← ih0, ← ih1]
    · intro x1 x25 x26 x27 y0_0 y0_1 y0_2 y0_3 y2_0 y4
      rw [spec_l3Matrix.e1]
      simp only [spec_l3Matrix.l1, R.map_ite, R.map_bind, R.map_none, R.map_some, R.wr64_eq, ← ih0, ← ih1]
theorem spec_l3Matrix.sf (k : Nat) (a0_0 : Int) (l0_1 : List Int) (l0_2 : List Int) (l0_3 : List Stp) (a1 : ByteArray) : R.start Try.prog xhn spec_l3Matrix.O 0 Try.f161 spec_l3Matrix.fh k [.agg [.int .i64 a0_0, .imm (.I .i64 l0_1), .imm (.I .i64 l0_2), .imm (.T l0_3)], .str a1] [] = (spec_l3Matrix.f k a0_0 l0_1 l0_2 l0_3 a1).map (spec_l3Matrix.en) := by
  obtain ⟨ih0, ih1⟩ := spec_l3Matrix.link k
  rw [spec_l3Matrix.ef]
  simp only [spec_l3Matrix.f, R.map_ite, R.map_bind, R.map_none, R.map_some, R.wr64_eq, ← ih0, ← ih1]
theorem spec_l3Matrix.ok (k : Nat) : spec_l3Matrix.tw.Ok Try.prog k := by
  intro a r h
  refine fn_ok (H := xhn) (fh := spec_l3Matrix.fh) (O := spec_l3Matrix.O) (k := k) Try.func161 (by kernel_rfl) (by kernel_rfl) (fun j _ => noO_sound) (by kernel_rfl) (m := 0) rfl ?_
  refine (spec_l3Matrix.sf k a.1 a.2.1 a.2.2.1 a.2.2.2.1 a.2.2.2.2).trans ?_
  exact congrArg (Option.map _) h
def spec_l1Add.f (a0 : Int) (a1 : Int) : Option (Int) := (some (mn (wrap64 (a0 + a1)) 1000000))
def spec_l1Add.en (r : Int) : Res := (.int .i64 r, [])
def spec_l1Add.dec : List AV → List R.Obj → Option (Int × Int)
  | [.int .i64 a0, .int .i64 a1], [] => some (a0, a1)
  | _, _ => none
def spec_l1Add.tw : Tw := ⟨187, Int × Int, Int, spec_l1Add.dec, fun a => [.int .i64 a.1, .int .i64 a.2], fun a => [], fun k a => spec_l1Add.f a.1 a.2, fun a r => spec_l1Add.en r⟩
theorem spec_l1Add.dok : spec_l1Add.tw.DecOk := by
  intro args hc a h
  have h : spec_l1Add.dec args hc = some a := h
  unfold spec_l1Add.dec at h
  split at h
  · cases h; exact ⟨rfl, rfl⟩
  · cases h
noncomputable def spec_l1Add.O (k : Nat) : Oracle := noO
def spec_l1Add.fh : FH := ⟨fun i => match i with | _ => none, [], false⟩
set_option maxRecDepth 100000 in
theorem spec_l1Add.ef (k : Nat) (a0 : Int) (a1 : Int) : R.start Try.prog xhn spec_l1Add.O 0 Try.f187 spec_l1Add.fh k [.int .i64 a0, .int .i64 a1] [] = (some (spec_l1Add.en (mn (wr64 (a0 + a1)) 1000000))) := by kernel_rfl
theorem spec_l1Add.sf (k : Nat) (a0 : Int) (a1 : Int) : R.start Try.prog xhn spec_l1Add.O 0 Try.f187 spec_l1Add.fh k [.int .i64 a0, .int .i64 a1] [] = (spec_l1Add.f a0 a1).map (spec_l1Add.en) := by
  rw [spec_l1Add.ef]
  simp only [spec_l1Add.f, R.map_ite, R.map_bind, R.map_none, R.map_some, R.wr64_eq]
theorem spec_l1Add.ok (k : Nat) : spec_l1Add.tw.Ok Try.prog k := by
  intro a r h
  refine fn_ok (H := xhn) (fh := spec_l1Add.fh) (O := spec_l1Add.O) (k := k) Try.func187 (by kernel_rfl) (by kernel_rfl) (fun j _ => noO_sound) (by kernel_rfl) (m := 0) rfl ?_
  refine (spec_l1Add.sf k a.1 a.2).trans ?_
  exact congrArg (Option.map _) h
mutual
def spec_l2Mul.l0 : Nat → Int → Int → Int → (List Int) → Int → (List Int) → Int → (List Int) → Option (Int × (List Int))
  | 0, _, _, _, _, _, _, _, _ => none
  | k + 1, x18, x19, y0_0, y0_1, y1_0, y1_1, y3_0, y5 => (if x19 < x18 then (if y0_0 = 0 then none else (spec_l2Mul.l1 k (wrap64 (x19.tdiv y0_0)) (x19.tmod y0_0) 1000000 x18 x19 y0_0 0 y0_0 y0_1 y1_0 y1_1 y3_0 y5)) else (some (y3_0, y5)))
def spec_l2Mul.l1 : Nat → Int → Int → Int → Int → Int → Int → Int → Int → (List Int) → Int → (List Int) → Int → (List Int) → Option (Int × (List Int))
  | 0, _, _, _, _, _, _, _, _, _, _, _, _, _ => none
  | k + 1, x7, x8, x9, x18, x19, x31, x32, y0_0, y0_1, y1_0, y1_1, y3_0, y5 => (if x32 < x31 then (if 0 ≤ (wrap64 ((wrap64 (x7 * y0_0)) + x32)) then (if (wrap64 ((wrap64 (x7 * y0_0)) + x32)) < (y0_1.length : Int) then (if 0 ≤ (wrap64 ((wrap64 (x32 * y0_0)) + x8)) then (if (wrap64 ((wrap64 (x32 * y0_0)) + x8)) < (y1_1.length : Int) then ((spec_l1Add.f (rdI y0_1 (wrap64 ((wrap64 (x7 * y0_0)) + x32))) (rdI y1_1 (wrap64 ((wrap64 (x32 * y0_0)) + x8)))).bind fun t1 => (spec_l2Mul.l1 k x7 x8 (mn x9 t1) x18 x19 x31 (wrap64 (x32 + 1)) y0_0 y0_1 y1_0 y1_1 y3_0 y5)) else none) else none) else none) else none) else (if y5.length < 17592186044416 then (spec_l2Mul.l0 k x18 (wrap64 (x19 + 1)) y0_0 y0_1 y1_0 y1_1 y3_0 (y5 ++ [x9])) else none))
end
def spec_l2Mul.f (k : Nat) (a0_0 : Int) (l0_1 : List Int) (a1_0 : Int) (l1_1 : List Int) : Option (Int × (List Int)) := (spec_l2Mul.l0 k (wrap64 (a0_0 * a0_0)) 0 a0_0 l0_1 a1_0 l1_1 a0_0 ([] : List Int))
def spec_l2Mul.en (r : Int × (List Int)) : Res := (.agg [.int .i64 r.1, .sl 0 0], [.arr 3 0 (.I .i64 r.2) false])
def spec_l2Mul.dec : List AV → List R.Obj → Option (Int × (List Int) × Int × (List Int))
  | [.agg [.int .i64 a0_0, .imm (.I .i64 l0_1)], .agg [.int .i64 a1_0, .imm (.I .i64 l1_1)]], [] => some (a0_0, l0_1, a1_0, l1_1)
  | _, _ => none
def spec_l2Mul.tw : Tw := ⟨162, Int × (List Int) × Int × (List Int), Int × (List Int), spec_l2Mul.dec, fun a => [.agg [.int .i64 a.1, .imm (.I .i64 a.2.1)], .agg [.int .i64 a.2.2.1, .imm (.I .i64 a.2.2.2)]], fun a => [], fun k a => spec_l2Mul.f k a.1 a.2.1 a.2.2.1 a.2.2.2, fun a r => spec_l2Mul.en r⟩
theorem spec_l2Mul.dok : spec_l2Mul.tw.DecOk := by
  intro args hc a h
  have h : spec_l2Mul.dec args hc = some a := h
  unfold spec_l2Mul.dec at h
  split at h
  · cases h; exact ⟨rfl, rfl⟩
  · cases h
noncomputable def spec_l2Mul.O (k : Nat) : Oracle := (spec_l1Add.tw.orc k noO)
def spec_l2Mul.fh : FH := ⟨fun i => match i with | 3 => some [(2, 0), (3, 0), (4, 0), (5, 0), (18, 0), (19, 0)] | 8 => some [(2, 0), (3, 0), (4, 0), (5, 0), (7, 0), (8, 0), (9, 0), (18, 0), (19, 0), (31, 0), (32, 0)] | _ => none, [(true, 3)], false⟩
noncomputable def spec_l2Mul.x0 (k : Nat) (x18 : Int) (x19 : Int) (y0_0 : Int) (y0_1 : List Int) (y1_0 : Int) (y1_1 : List Int) (y3_0 : Int) (y5 : List Int) : Option Res := R.exec Try.prog xhn spec_l2Mul.O 0 Try.f162 spec_l2Mul.fh k (R.point Try.f162 3) ⟨[(2, .ptr 0 0), (3, .ptr 1 0), (4, .ptr 2 0), (5, .ptr 3 0), (18, .int .i64 x18), (19, .int .i64 x19)], [(0, .box false [.int .i64 y0_0, .imm (.I .i64 y0_1)]), (1, .box false [.int .i64 y1_0, .imm (.I .i64 y1_1)]), (2, .box false [.int .i64 0, .sl 4 0]), (3, .box false [.int .i64 y3_0, .sl 5 0]), (4, .arr 3 0 (.I .i64 ([] : List Int)) false), (5, .arr 3 0 (.I .i64 y5) false)], 8⟩
noncomputable def spec_l2Mul.x1 (k : Nat) (x7 : Int) (x8 : Int) (x9 : Int) (x18 : Int) (x19 : Int) (x31 : Int) (x32 : Int) (y0_0 : Int) (y0_1 : List Int) (y1_0 : Int) (y1_1 : List Int) (y3_0 : Int) (y5 : List Int) : Option Res := R.exec Try.prog xhn spec_l2Mul.O 0 Try.f162 spec_l2Mul.fh k (R.point Try.f162 8) ⟨[(2, .ptr 0 0), (3, .ptr 1 0), (4, .ptr 2 0), (5, .ptr 3 0), (7, .int .i64 x7), (8, .int .i64 x8), (9, .int .i64 x9), (18, .int .i64 x18), (19, .int .i64 x19), (31, .int .i64 x31), (32, .int .i64 x32)], [(0, .box false [.int .i64 y0_0, .imm (.I .i64 y0_1)]), (1, .box false [.int .i64 y1_0, .imm (.I .i64 y1_1)]), (2, .box false [.int .i64 0, .sl 4 0]), (3, .box false [.int .i64 y3_0, .sl 5 0]), (4, .arr 3 0 (.I .i64 ([] : List Int)) false), (5, .arr 3 0 (.I .i64 y5) false)], 8⟩
set_option maxRecDepth 100000 in
theorem spec_l2Mul.e0 (k : Nat) (x18 : Int) (x19 : Int) (y0_0 : Int) (y0_1 : List Int) (y1_0 : Int) (y1_1 : List Int) (y3_0 : Int) (y5 : List Int) : spec_l2Mul.x0 (k + 1) x18 x19 y0_0 y0_1 y1_0 y1_1 y3_0 y5 = (if x19 < x18 then (if y0_0 = 0 then none else (spec_l2Mul.x1 k (wr64 (x19.tdiv y0_0)) (x19.tmod y0_0) 1000000 x18 x19 y0_0 0 y0_0 y0_1 y1_0 y1_1 y3_0 y5)) else (some (spec_l2Mul.en (y3_0, y5)))) := by
  refine Eq.trans ?_ (R.icong (fun h0 => (R.icong (fun h1 => rfl) (fun h1 => (R.idropF (p := y0_0 = 0) (z := none) h1 rfl)))) (fun h0 => rfl))
  kernel_rfl
set_option maxRecDepth 100000 in
theorem spec_l2Mul.e1 (k : Nat) (x7 : Int) (x8 : Int) (x9 : Int) (x18 : Int) (x19 : Int) (x31 : Int) (x32 : Int) (y0_0 : Int) (y0_1 : List Int) (y1_0 : Int) (y1_1 : List Int) (y3_0 : Int) (y5 : List Int) : spec_l2Mul.x1 (k + 1) x7 x8 x9 x18 x19 x31 x32 y0_0 y0_1 y1_0 y1_1 y3_0 y5 = (if x32 < x31 then (if 0 ≤ (wr64 ((wr64 (x7 * y0_0)) + x32)) then (if (wr64 ((wr64 (x7 * y0_0)) + x32)) < (y0_1.length : Int) then (if 0 ≤ (wr64 ((wr64 (x32 * y0_0)) + x8)) then (if (wr64 ((wr64 (x32 * y0_0)) + x8)) < (y1_1.length : Int) then ((spec_l1Add.f (rdI y0_1 (wr64 ((wr64 (x7 * y0_0)) + x32))) (rdI y1_1 (wr64 ((wr64 (x32 * y0_0)) + x8)))).bind fun t1 => (spec_l2Mul.x1 k x7 x8 (mn x9 t1) x18 x19 x31 (wr64 (x32 + 1)) y0_0 y0_1 y1_0 y1_1 y3_0 y5)) else none) else none) else none) else none) else (if y5.length < 17592186044416 then (spec_l2Mul.x0 k x18 (wr64 (x19 + 1)) y0_0 y0_1 y1_0 y1_1 y3_0 (y5 ++ [x9])) else none)) := by kernel_rfl
set_option maxRecDepth 100000 in
theorem spec_l2Mul.ef (k : Nat) (a0_0 : Int) (l0_1 : List Int) (a1_0 : Int) (l1_1 : List Int) : R.start Try.prog xhn spec_l2Mul.O 0 Try.f162 spec_l2Mul.fh k [.agg [.int .i64 a0_0, .imm (.I .i64 l0_1)], .agg [.int .i64 a1_0, .imm (.I .i64 l1_1)]] [] = (spec_l2Mul.x0 k (wr64 (a0_0 * a0_0)) 0 a0_0 l0_1 a1_0 l1_1 a0_0 ([] : List Int)) := by kernel_rfl
theorem spec_l2Mul.link : ∀ k, (∀ (x18 : Int) (x19 : Int) (y0_0 : Int) (y0_1 : List Int) (y1_0 : Int) (y1_1 : List Int) (y3_0 : Int) (y5 : List Int), spec_l2Mul.x0 k x18 x19 y0_0 y0_1 y1_0 y1_1 y3_0 y5 = (spec_l2Mul.l0 k x18 x19 y0_0 y0_1 y1_0 y1_1 y3_0 y5).map (spec_l2Mul.en)) ∧ (∀ (x7 : Int) (x8 : Int) (x9 : Int) (x18 : Int) (x19 : Int) (x31 : Int) (x32 : Int) (y0_0 : Int) (y0_1 : List Int) (y1_0 : Int) (y1_1 : List Int) (y3_0 : Int) (y5 : List Int), spec_l2Mul.x1 k x7 x8 x9 x18 x19 x31 x32 y0_0 y0_1 y1_0 y1_1 y3_0 y5 = (spec_l2Mul.l1 k x7 x8 x9 x18 x19 x31 x32 y0_0 y0_1 y1_0 y1_1 y3_0 y5).map (spec_l2Mul.en))
  | 0 => ⟨fun _ _ _ _ _ _ _ _ => by simp only [spec_l2Mul.l0, R.map_none]; rfl, fun _ _ _ _ _ _ _ _ _ _ _ _ _ => by simp only [spec_l2Mul.l1, R.map_none]; rfl⟩
  | k + 1 => by
    obtain ⟨ih0, ih1⟩ := spec_l2Mul.link k
    refine ⟨?_, ?_⟩
    · intro x18 x19 y0_0 y0_1 y1_0 y1_1 y3_0 y5
      rw [spec_l2Mul.e0]
      simp only [spec_l2Mul.l0, R.map_ite, R.map_bind, R.map_none, R.map_some, R.wr64_eq, ← ih0, ← ih1]
    · intro x7 x8 x9 x18 x19 x31 x32 y0_0 y0_1 y1_0 y1_1 y3_0 y5
      rw [spec_l2Mul.e1]
      simp only [spec_l2Mul.l1, R.map_ite, R.map_bind, R.map_none, R.map_some, R.wr64_eq, ← ih0, ← ih1]
theorem spec_l2Mul.sf (k : Nat) (a0_0 : Int) (l0_1 : List Int) (a1_0 : Int) (l1_1 : List Int) : R.start Try.prog xhn spec_l2Mul.O 0 Try.f162 spec_l2Mul.fh k [.agg [.int .i64 a0_0, .imm (.I .i64 l0_1)], .agg [.int .i64 a1_0, .imm (.I .i64 l1_1)]] [] = (spec_l2Mul.f k a0_0 l0_1 a1_0 l1_1).map (spec_l2Mul.en) := by
  obtain ⟨ih0, ih1⟩ := spec_l2Mul.link k
  rw [spec_l2Mul.ef]
  simp only [spec_l2Mul.f, R.map_ite, R.map_bind, R.map_none, R.map_some, R.wr64_eq, ← ih0, ← ih1]
theorem spec_l2Mul.ok (k : Nat) : spec_l2Mul.tw.Ok Try.prog k := by
  intro a r h
  refine fn_ok (H := xhn) (fh := spec_l2Mul.fh) (O := spec_l2Mul.O) (k := k) Try.func162 (by kernel_rfl) (by kernel_rfl) (fun j _ => (Tw.orc_sound spec_l1Add.dok (spec_l1Add.ok j) noO_sound)) (by kernel_rfl) (m := 0) rfl ?_
  refine (spec_l2Mul.sf k a.1 a.2.1 a.2.2.1 a.2.2.2).trans ?_
  exact congrArg (Option.map _) h
def spec_l4Matrix.l0 : Nat → ByteArray → Int → Int → Int → (List Int) → Int → (List Int) → Int → (List Int) → Option (Int × (List Int))
  | 0, _, _, _, _, _, _, _, _, _ => none
  | k + 1, x1, x17, x18, y1_0, y5, y2_0, y6, y3_0, y7 => (if x18 < x17 then (if 0 ≤ x18 then (if x18 < (x1.size : Int) then (if (btI x1 x18) = 97 then ((spec_l2Mul.f k y1_0 y5 y2_0 y6).bind fun t4 => (spec_l4Matrix.l0 k x1 x17 (wrap64 (x18 + 1)) t4.1 t4.2 y2_0 y6 y3_0 y7)) else ((spec_l2Mul.f k y1_0 y5 y3_0 y7).bind fun t5 => (spec_l4Matrix.l0 k x1 x17 (wrap64 (x18 + 1)) t5.1 t5.2 y2_0 y6 y3_0 y7))) else none) else none) else (some (y1_0, y5)))
def spec_l4Matrix.f (k : Nat) (a0_0 : Int) (l0_1 : List Int) (l0_2 : List Int) (l0_3 : List Stp) (a1 : ByteArray) : Option (Int × (List Int)) := ((spec_l2Unit.f k a0_0).bind fun t1 => ((spec_l3Matrix.f k a0_0 l0_1 l0_2 l0_3 (⟨#[97]⟩ : ByteArray)).bind fun t2 => ((spec_l3Matrix.f k a0_0 l0_1 l0_2 l0_3 (⟨#[98]⟩ : ByteArray)).bind fun t3 => (spec_l4Matrix.l0 k a1 (a1.size : Int) 0 t1.1 t1.2 t2.1 t2.2 t3.1 t3.2))))
def spec_l4Matrix.en (r : Int × (List Int)) : Res := (.agg [.int .i64 r.1, .sl 0 0], [.arr 3 0 (.I .i64 r.2) false])
def spec_l4Matrix.dec : List AV → List R.Obj → Option (Int × (List Int) × (List Int) × (List Stp) × ByteArray)
  | [.agg [.int .i64 a0_0, .imm (.I .i64 l0_1), .imm (.I .i64 l0_2), .imm (.T l0_3)], .str a1], [] => some (a0_0, l0_1, l0_2, l0_3, a1)
  | _, _ => none
def spec_l4Matrix.tw : Tw := ⟨105, Int × (List Int) × (List Int) × (List Stp) × ByteArray, Int × (List Int), spec_l4Matrix.dec, fun a => [.agg [.int .i64 a.1, .imm (.I .i64 a.2.1), .imm (.I .i64 a.2.2.1), .imm (.T a.2.2.2.1)], .str a.2.2.2.2], fun a => [], fun k a => spec_l4Matrix.f k a.1 a.2.1 a.2.2.1 a.2.2.2.1 a.2.2.2.2, fun a r => spec_l4Matrix.en r⟩
theorem spec_l4Matrix.dok : spec_l4Matrix.tw.DecOk := by
  intro args hc a h
  have h : spec_l4Matrix.dec args hc = some a := h
  unfold spec_l4Matrix.dec at h
  split at h
  · cases h; exact ⟨rfl, rfl⟩
  · cases h
noncomputable def spec_l4Matrix.O (k : Nat) : Oracle := (spec_l2Unit.tw.orc k (spec_l3Matrix.tw.orc k (spec_l2Mul.tw.orc k noO)))
def spec_l4Matrix.fh : FH := ⟨fun i => match i with | 4 => some [(1, 0), (4, 0), (5, 0), (6, 0), (7, 0), (17, 0), (18, 0)] | _ => none, [(true, 3)], false⟩
noncomputable def spec_l4Matrix.x0 (k : Nat) (x1 : ByteArray) (x17 : Int) (x18 : Int) (y1_0 : Int) (y5 : List Int) (y2_0 : Int) (y6 : List Int) (y3_0 : Int) (y7 : List Int) : Option Res := R.exec Try.prog xhn spec_l4Matrix.O 0 Try.f105 spec_l4Matrix.fh k (R.point Try.f105 4) ⟨[(1, .str x1), (4, .ptr 0 0), (5, .ptr 1 0), (6, .ptr 2 0), (7, .ptr 3 0), (17, .int .i64 x17), (18, .int .i64 x18)], [(0, .box false [.int .i64 0, .sl 4 0]), (1, .box false [.int .i64 y1_0, .sl 5 0]), (2, .box false [.int .i64 y2_0, .sl 6 0]), (3, .box false [.int .i64 y3_0, .sl 7 0]), (4, .arr 3 0 (.I .i64 ([] : List Int)) false), (5, .arr 3 0 (.I .i64 y5) false), (6, .arr 3 0 (.I .i64 y6) false), (7, .arr 3 0 (.I .i64 y7) false)], 10⟩
set_option maxRecDepth 100000 in
theorem spec_l4Matrix.e0 (k : Nat) (x1 : ByteArray) (x17 : Int) (x18 : Int) (y1_0 : Int) (y5 : List Int) (y2_0 : Int) (y6 : List Int) (y3_0 : Int) (y7 : List Int) : spec_l4Matrix.x0 (k + 1) x1 x17 x18 y1_0 y5 y2_0 y6 y3_0 y7 = (if x18 < x17 then (if 0 ≤ x18 then (if x18 < (x1.size : Int) then (if (btI x1 x18) = 97 then ((spec_l2Mul.f k y1_0 y5 y2_0 y6).bind fun t4 => (spec_l4Matrix.x0 k x1 x17 (wr64 (x18 + 1)) t4.1 t4.2 y2_0 y6 y3_0 y7)) else ((spec_l2Mul.f k y1_0 y5 y3_0 y7).bind fun t5 => (spec_l4Matrix.x0 k x1 x17 (wr64 (x18 + 1)) t5.1 t5.2 y2_0 y6 y3_0 y7))) else none) else none) else (some (spec_l4Matrix.en (y1_0, y5)))) := by kernel_rfl
set_option maxRecDepth 100000 in
theorem spec_l4Matrix.ef (k : Nat) (a0_0 : Int) (l0_1 : List Int) (l0_2 : List Int) (l0_3 : List Stp) (a1 : ByteArray) : R.start Try.prog xhn spec_l4Matrix.O 0 Try.f105 spec_l4Matrix.fh k [.agg [.int .i64 a0_0, .imm (.I .i64 l0_1), .imm (.I .i64 l0_2), .imm (.T l0_3)], .str a1] [] = ((spec_l2Unit.f k a0_0).bind fun t1 => ((spec_l3Matrix.f k a0_0 l0_1 l0_2 l0_3 (⟨#[97]⟩ : ByteArray)).bind fun t2 => ((spec_l3Matrix.f k a0_0 l0_1 l0_2 l0_3 (⟨#[98]⟩ : ByteArray)).bind fun t3 => (spec_l4Matrix.x0 k a1 (a1.size : Int) 0 t1.1 t1.2 t2.1 t2.2 t3.1 t3.2)))) := by kernel_rfl
theorem spec_l4Matrix.link : ∀ k, (∀ (x1 : ByteArray) (x17 : Int) (x18 : Int) (y1_0 : Int) (y5 : List Int) (y2_0 : Int) (y6 : List Int) (y3_0 : Int) (y7 : List Int), spec_l4Matrix.x0 k x1 x17 x18 y1_0 y5 y2_0 y6 y3_0 y7 = (spec_l4Matrix.l0 k x1 x17 x18 y1_0 y5 y2_0 y6 y3_0 y7).map (spec_l4Matrix.en))
  | 0 => fun _ _ _ _ _ _ _ _ _ => by simp only [spec_l4Matrix.l0, R.map_none]; rfl
  | k + 1 => by
    have ih0 := spec_l4Matrix.link k
    · intro x1 x17 x18 y1_0 y5 y2_0 y6 y3_0 y7
      rw [spec_l4Matrix.e0]
      simp only [spec_l4Matrix.l0, R.map_ite, R.map_bind, R.map_none, R.map_some, R.wr64_eq, ← ih0]
theorem spec_l4Matrix.sf (k : Nat) (a0_0 : Int) (l0_1 : List Int) (l0_2 : List Int) (l0_3 : List Stp) (a1 : ByteArray) : R.start Try.prog xhn spec_l4Matrix.O 0 Try.f105 spec_l4Matrix.fh k [.agg [.int .i64 a0_0, .imm (.I .i64 l0_1), .imm (.I .i64 l0_2), .imm (.T l0_3)], .str a1] [] = (spec_l4Matrix.f k a0_0 l0_1 l0_2 l0_3 a1).map (spec_l4Matrix.en) := by
  have ih0 := spec_l4Matrix.link k
  rw [spec_l4Matrix.ef]
  simp only [spec_l4Matrix.f, R.map_ite, R.map_bind, R.map_none, R.map_some, R.wr64_eq, ← ih0]
theorem spec_l4Matrix.ok (k : Nat) : spec_l4Matrix.tw.Ok Try.prog k := by
  intro a r h
  refine fn_ok (H := xhn) (fh := spec_l4Matrix.fh) (O := spec_l4Matrix.O) (k := k) Try.func105 (by kernel_rfl) (by kernel_rfl) (fun j _ => (Tw.orc_sound spec_l2Unit.dok (spec_l2Unit.ok j) (Tw.orc_sound spec_l3Matrix.dok (spec_l3Matrix.ok j) (Tw.orc_sound spec_l2Mul.dok (spec_l2Mul.ok j) noO_sound)))) (by kernel_rfl) (m := 0) rfl ?_
  refine (spec_l4Matrix.sf k a.1 a.2.1 a.2.2.1 a.2.2.2.1 a.2.2.2.2).trans ?_
  exact congrArg (Option.map _) h
mutual
def spec_l4Least.l0 : Nat → Int → (List Int) → Int → Int → Int → (List Int) → (List Int) → (List Stp) → Int → (List Int) → Option (Int)
  | 0, _, _, _, _, _, _, _, _, _, _ => none
  | k + 1, x5, x11, x12, x13, y0_0, y0_1, y0_2, y0_3, y1_0, y1_1 => (if x13 < x12 then (if 0 ≤ x13 then (if x13 < (x11.length : Int) then (spec_l4Least.l1 k x5 (rdI x11 x13) x11 x12 x13 y0_2 (y0_2.length : Int) 0 y0_0 y0_1 y0_2 y0_3 y1_0 y1_1) else none) else none) else (some x5))
def spec_l4Least.l1 : Nat → Int → Int → (List Int) → Int → Int → (List Int) → Int → Int → Int → (List Int) → (List Int) → (List Stp) → Int → (List Int) → Option (Int)
  | 0, _, _, _, _, _, _, _, _, _, _, _, _, _, _ => none
  | k + 1, x5, x7, x11, x12, x13, x18, x19, x20, y0_0, y0_1, y0_2, y0_3, y1_0, y1_1 => (if x20 < x19 then (if 0 ≤ x20 then (if x20 < (x18.length : Int) then (if 0 ≤ (wrap64 ((wrap64 (x7 * y0_0)) + (rdI x18 x20))) then (if (wrap64 ((wrap64 (x7 * y0_0)) + (rdI x18 x20))) < (y1_1.length : Int) then (spec_l4Least.l1 k (mn x5 (rdI y1_1 (wrap64 ((wrap64 (x7 * y0_0)) + (rdI x18 x20))))) x7 x11 x12 x13 x18 x19 (wrap64 (x20 + 1)) y0_0 y0_1 y0_2 y0_3 y1_0 y1_1) else none) else none) else none) else none) else (spec_l4Least.l0 k x5 x11 x12 (wrap64 (x13 + 1)) y0_0 y0_1 y0_2 y0_3 y1_0 y1_1))
end
def spec_l4Least.f (k : Nat) (a0_0 : Int) (l0_1 : List Int) (l0_2 : List Int) (l0_3 : List Stp) (a1_0 : Int) (l1_1 : List Int) : Option (Int) := (spec_l4Least.l0 k 1000000 l0_1 (l0_1.length : Int) 0 a0_0 l0_1 l0_2 l0_3 a1_0 l1_1)
def spec_l4Least.en (r : Int) : Res := (.int .i64 r, [])
def spec_l4Least.dec : List AV → List R.Obj → Option (Int × (List Int) × (List Int) × (List Stp) × Int × (List Int))
  | [.agg [.int .i64 a0_0, .imm (.I .i64 l0_1), .imm (.I .i64 l0_2), .imm (.T l0_3)], .agg [.int .i64 a1_0, .imm (.I .i64 l1_1)]], [] => some (a0_0, l0_1, l0_2, l0_3, a1_0, l1_1)
  | _, _ => none
def spec_l4Least.tw : Tw := ⟨142, Int × (List Int) × (List Int) × (List Stp) × Int × (List Int), Int, spec_l4Least.dec, fun a => [.agg [.int .i64 a.1, .imm (.I .i64 a.2.1), .imm (.I .i64 a.2.2.1), .imm (.T a.2.2.2.1)], .agg [.int .i64 a.2.2.2.2.1, .imm (.I .i64 a.2.2.2.2.2)]], fun a => [], fun k a => spec_l4Least.f k a.1 a.2.1 a.2.2.1 a.2.2.2.1 a.2.2.2.2.1 a.2.2.2.2.2, fun a r => spec_l4Least.en r⟩
theorem spec_l4Least.dok : spec_l4Least.tw.DecOk := by
  intro args hc a h
  have h : spec_l4Least.dec args hc = some a := h
  unfold spec_l4Least.dec at h
  split at h
  · cases h; exact ⟨rfl, rfl⟩
  · cases h
noncomputable def spec_l4Least.O (k : Nat) : Oracle := noO
def spec_l4Least.fh : FH := ⟨fun i => match i with | 3 => some [(2, 0), (3, 0), (5, 0), (11, 0), (12, 0), (13, 0)] | 6 => some [(2, 0), (3, 0), (5, 0), (7, 0), (11, 0), (12, 0), (13, 0), (18, 0), (19, 0), (20, 0)] | _ => none, [], false⟩
noncomputable def spec_l4Least.x0 (k : Nat) (x5 : Int) (x11 : List Int) (x12 : Int) (x13 : Int) (y0_0 : Int) (y0_1 : List Int) (y0_2 : List Int) (y0_3 : List Stp) (y1_0 : Int) (y1_1 : List Int) : Option Res := R.exec Try.prog xhn spec_l4Least.O 0 Try.f142 spec_l4Least.fh k (R.point Try.f142 3) ⟨[(2, .ptr 0 0), (3, .ptr 1 0), (5, .int .i64 x5), (11, .imm (.I .i64 x11)), (12, .int .i64 x12), (13, .int .i64 x13)], [(0, .box false [.int .i64 y0_0, .imm (.I .i64 y0_1), .imm (.I .i64 y0_2), .imm (.T y0_3)]), (1, .box false [.int .i64 y1_0, .imm (.I .i64 y1_1)])], 4⟩
noncomputable def spec_l4Least.x1 (k : Nat) (x5 : Int) (x7 : Int) (x11 : List Int) (x12 : Int) (x13 : Int) (x18 : List Int) (x19 : Int) (x20 : Int) (y0_0 : Int) (y0_1 : List Int) (y0_2 : List Int) (y0_3 : List Stp) (y1_0 : Int) (y1_1 : List Int) : Option Res := R.exec Try.prog xhn spec_l4Least.O 0 Try.f142 spec_l4Least.fh k (R.point Try.f142 6) ⟨[(2, .ptr 0 0), (3, .ptr 1 0), (5, .int .i64 x5), (7, .int .i64 x7), (11, .imm (.I .i64 x11)), (12, .int .i64 x12), (13, .int .i64 x13), (18, .imm (.I .i64 x18)), (19, .int .i64 x19), (20, .int .i64 x20)], [(0, .box false [.int .i64 y0_0, .imm (.I .i64 y0_1), .imm (.I .i64 y0_2), .imm (.T y0_3)]), (1, .box false [.int .i64 y1_0, .imm (.I .i64 y1_1)])], 4⟩
set_option maxRecDepth 100000 in
theorem spec_l4Least.e0 (k : Nat) (x5 : Int) (x11 : List Int) (x12 : Int) (x13 : Int) (y0_0 : Int) (y0_1 : List Int) (y0_2 : List Int) (y0_3 : List Stp) (y1_0 : Int) (y1_1 : List Int) : spec_l4Least.x0 (k + 1) x5 x11 x12 x13 y0_0 y0_1 y0_2 y0_3 y1_0 y1_1 = (if x13 < x12 then (if 0 ≤ x13 then (if x13 < (x11.length : Int) then (spec_l4Least.x1 k x5 (rdI x11 x13) x11 x12 x13 y0_2 (y0_2.length : Int) 0 y0_0 y0_1 y0_2 y0_3 y1_0 y1_1) else none) else none) else (some (spec_l4Least.en x5))) := by kernel_rfl
set_option maxRecDepth 100000 in
theorem spec_l4Least.e1 (k : Nat) (x5 : Int) (x7 : Int) (x11 : List Int) (x12 : Int) (x13 : Int) (x18 : List Int) (x19 : Int) (x20 : Int) (y0_0 : Int) (y0_1 : List Int) (y0_2 : List Int) (y0_3 : List Stp) (y1_0 : Int) (y1_1 : List Int) : spec_l4Least.x1 (k + 1) x5 x7 x11 x12 x13 x18 x19 x20 y0_0 y0_1 y0_2 y0_3 y1_0 y1_1 = (if x20 < x19 then (if 0 ≤ x20 then (if x20 < (x18.length : Int) then (if 0 ≤ (wr64 ((wr64 (x7 * y0_0)) + (rdI x18 x20))) then (if (wr64 ((wr64 (x7 * y0_0)) + (rdI x18 x20))) < (y1_1.length : Int) then (spec_l4Least.x1 k (mn x5 (rdI y1_1 (wr64 ((wr64 (x7 * y0_0)) + (rdI x18 x20))))) x7 x11 x12 x13 x18 x19 (wr64 (x20 + 1)) y0_0 y0_1 y0_2 y0_3 y1_0 y1_1) else none) else none) else none) else none) else (spec_l4Least.x0 k x5 x11 x12 (wr64 (x13 + 1)) y0_0 y0_1 y0_2 y0_3 y1_0 y1_1)) := by kernel_rfl
set_option maxRecDepth 100000 in
theorem spec_l4Least.ef (k : Nat) (a0_0 : Int) (l0_1 : List Int) (l0_2 : List Int) (l0_3 : List Stp) (a1_0 : Int) (l1_1 : List Int) : R.start Try.prog xhn spec_l4Least.O 0 Try.f142 spec_l4Least.fh k [.agg [.int .i64 a0_0, .imm (.I .i64 l0_1), .imm (.I .i64 l0_2), .imm (.T l0_3)], .agg [.int .i64 a1_0, .imm (.I .i64 l1_1)]] [] = (spec_l4Least.x0 k 1000000 l0_1 (l0_1.length : Int) 0 a0_0 l0_1 l0_2 l0_3 a1_0 l1_1) := by kernel_rfl
theorem spec_l4Least.link : ∀ k, (∀ (x5 : Int) (x11 : List Int) (x12 : Int) (x13 : Int) (y0_0 : Int) (y0_1 : List Int) (y0_2 : List Int) (y0_3 : List Stp) (y1_0 : Int) (y1_1 : List Int), spec_l4Least.x0 k x5 x11 x12 x13 y0_0 y0_1 y0_2 y0_3 y1_0 y1_1 = (spec_l4Least.l0 k x5 x11 x12 x13 y0_0 y0_1 y0_2 y0_3 y1_0 y1_1).map (spec_l4Least.en)) ∧ (∀ (x5 : Int) (x7 : Int) (x11 : List Int) (x12 : Int) (x13 : Int) (x18 : List Int) (x19 : Int) (x20 : Int) (y0_0 : Int) (y0_1 : List Int) (y0_2 : List Int) (y0_3 : List Stp) (y1_0 : Int) (y1_1 : List Int), spec_l4Least.x1 k x5 x7 x11 x12 x13 x18 x19 x20 y0_0 y0_1 y0_2 y0_3 y1_0 y1_1 = (spec_l4Least.l1 k x5 x7 x11 x12 x13 x18 x19 x20 y0_0 y0_1 y0_2 y0_3 y1_0 y1_1).map (spec_l4Least.en))
  | 0 => ⟨fun _ _ _ _ _ _ _ _ _ _ => by simp only [spec_l4Least.l0, R.map_none]; rfl, fun _ _ _ _ _ _ _ _ _ _ _ _ _ _ => by simp only [spec_l4Least.l1, R.map_none]; rfl⟩
  | k + 1 => by
    obtain ⟨ih0, ih1⟩ := spec_l4Least.link k
    refine ⟨?_, ?_⟩
    · intro x5 x11 x12 x13 y0_0 y0_1 y0_2 y0_3 y1_0 y1_1
      rw [spec_l4Least.e0]
      simp only [spec_l4Least.l0, R.map_ite, R.map_bind, R.map_none, R.map_some, R.wr64_eq, ← ih0, ← ih1]
    · intro x5 x7 x11 x12 x13 x18 x19 x20 y0_0 y0_1 y0_2 y0_3 y1_0 y1_1
      rw [spec_l4Least.e1]
      simp only [spec_l4Least.l1, R.map_ite, R.map_bind, R.map_none, R.map_some, R.wr64_eq, ← ih0, ← ih1]
theorem spec_l4Least.sf (k : Nat) (a0_0 : Int) (l0_1 : List Int) (l0_2 : List Int) (l0_3 : List Stp) (a1_0 : Int) (l1_1 : List Int) : R.start Try.prog xhn spec_l4Least.O 0 Try.f142 spec_l4Least.fh k [.agg [.int .i64 a0_0, .imm (.I .i64 l0_1), .imm (.I .i64 l0_2), .imm (.T l0_3)], .agg [.int .i64 a1_0, .imm (.I .i64 l1_1)]] [] = (spec_l4Least.f k a0_0 l0_1 l0_2 l0_3 a1_0 l1_1).map (spec_l4Least.en) := by
  obtain ⟨ih0, ih1⟩ := spec_l4Least.link k
  rw [spec_l4Least.ef]
  simp only [spec_l4Least.f, R.map_ite, R.map_bind, R.map_none, R.map_some, R.wr64_eq, ← ih0, ← ih1]
theorem spec_l4Least.ok (k : Nat) : spec_l4Least.tw.Ok Try.prog k := by
  intro a r h
  refine fn_ok (H := xhn) (fh := spec_l4Least.fh) (O := spec_l4Least.O) (k := k) Try.func142 (by kernel_rfl) (by kernel_rfl) (fun j _ => noO_sound) (by kernel_rfl) (m := 0) rfl ?_
  refine (spec_l4Least.sf k a.1 a.2.1 a.2.2.1 a.2.2.2.1 a.2.2.2.2.1 a.2.2.2.2.2).trans ?_
  exact congrArg (Option.map _) h
def spec_l4Cost.f (k : Nat) (a0_0 : Int) (l0_1 : List Int) (l0_2 : List Int) (l0_3 : List Stp) (a1 : ByteArray) : Option (Int) := ((spec_l4Matrix.f k a0_0 l0_1 l0_2 l0_3 a1).bind fun t1 => ((spec_l4Least.f k a0_0 l0_1 l0_2 l0_3 t1.1 t1.2).bind fun t2 => (some t2)))
def spec_l4Cost.en (r : Int) : Res := (.int .i64 r, [])
def spec_l4Cost.dec : List AV → List R.Obj → Option (Int × (List Int) × (List Int) × (List Stp) × ByteArray)
  | [.agg [.int .i64 a0_0, .imm (.I .i64 l0_1), .imm (.I .i64 l0_2), .imm (.T l0_3)], .str a1], [] => some (a0_0, l0_1, l0_2, l0_3, a1)
  | _, _ => none
def spec_l4Cost.tw : Tw := ⟨78, Int × (List Int) × (List Int) × (List Stp) × ByteArray, Int, spec_l4Cost.dec, fun a => [.agg [.int .i64 a.1, .imm (.I .i64 a.2.1), .imm (.I .i64 a.2.2.1), .imm (.T a.2.2.2.1)], .str a.2.2.2.2], fun a => [], fun k a => spec_l4Cost.f k a.1 a.2.1 a.2.2.1 a.2.2.2.1 a.2.2.2.2, fun a r => spec_l4Cost.en r⟩
theorem spec_l4Cost.dok : spec_l4Cost.tw.DecOk := by
  intro args hc a h
  have h : spec_l4Cost.dec args hc = some a := h
  unfold spec_l4Cost.dec at h
  split at h
  · cases h; exact ⟨rfl, rfl⟩
  · cases h
noncomputable def spec_l4Cost.O (k : Nat) : Oracle := (spec_l4Matrix.tw.orc k (spec_l4Least.tw.orc k noO))
def spec_l4Cost.fh : FH := ⟨fun i => match i with | _ => none, [], false⟩
set_option maxRecDepth 100000 in
theorem spec_l4Cost.ef (k : Nat) (a0_0 : Int) (l0_1 : List Int) (l0_2 : List Int) (l0_3 : List Stp) (a1 : ByteArray) : R.start Try.prog xhn spec_l4Cost.O 0 Try.f78 spec_l4Cost.fh k [.agg [.int .i64 a0_0, .imm (.I .i64 l0_1), .imm (.I .i64 l0_2), .imm (.T l0_3)], .str a1] [] = ((spec_l4Matrix.f k a0_0 l0_1 l0_2 l0_3 a1).bind fun t1 => ((spec_l4Least.f k a0_0 l0_1 l0_2 l0_3 t1.1 t1.2).bind fun t2 => (some (spec_l4Cost.en t2)))) := by kernel_rfl
theorem spec_l4Cost.sf (k : Nat) (a0_0 : Int) (l0_1 : List Int) (l0_2 : List Int) (l0_3 : List Stp) (a1 : ByteArray) : R.start Try.prog xhn spec_l4Cost.O 0 Try.f78 spec_l4Cost.fh k [.agg [.int .i64 a0_0, .imm (.I .i64 l0_1), .imm (.I .i64 l0_2), .imm (.T l0_3)], .str a1] [] = (spec_l4Cost.f k a0_0 l0_1 l0_2 l0_3 a1).map (spec_l4Cost.en) := by
  rw [spec_l4Cost.ef]
  simp only [spec_l4Cost.f, R.map_ite, R.map_bind, R.map_none, R.map_some, R.wr64_eq]
theorem spec_l4Cost.ok (k : Nat) : spec_l4Cost.tw.Ok Try.prog k := by
  intro a r h
  refine fn_ok (H := xhn) (fh := spec_l4Cost.fh) (O := spec_l4Cost.O) (k := k) Try.func78 (by kernel_rfl) (by kernel_rfl) (fun j _ => (Tw.orc_sound spec_l4Matrix.dok (spec_l4Matrix.ok j) (Tw.orc_sound spec_l4Least.dok (spec_l4Least.ok j) noO_sound))) (by kernel_rfl) (m := 0) rfl ?_
  refine (spec_l4Cost.sf k a.1 a.2.1 a.2.2.1 a.2.2.2.1 a.2.2.2.2).trans ?_
  exact congrArg (Option.map _) h
mutual
def spec_l4Rest.l0 : Nat → (List Int) → Int → Int → Int → (List Int) → (List Int) → (List Stp) → Int → (List Int) → Option (List Int)
  | 0, _, _, _, _, _, _, _, _, _ => none
  | k + 1, y1, x16, x17, y0_0, y0_1, y0_2, y0_3, y2_0, y3 => (if x17 < x16 then (spec_l4Rest.l1 k y1 x17 1000000 x16 x17 y0_2 (y0_2.length : Int) 0 y0_0 y0_1 y0_2 y0_3 y2_0 y3) else (some y1))
def spec_l4Rest.l1 : Nat → (List Int) → Int → Int → Int → Int → (List Int) → Int → Int → Int → (List Int) → (List Int) → (List Stp) → Int → (List Int) → Option (List Int)
  | 0, _, _, _, _, _, _, _, _, _, _, _, _, _, _ => none
  | k + 1, y1, x7, x8, x16, x17, x21, x22, x23, y0_0, y0_1, y0_2, y0_3, y2_0, y3 => (if x23 < x22 then (if 0 ≤ x23 then (if x23 < (x21.length : Int) then (if 0 ≤ (wrap64 ((wrap64 (x7 * y0_0)) + (rdI x21 x23))) then (if (wrap64 ((wrap64 (x7 * y0_0)) + (rdI x21 x23))) < (y3.length : Int) then (spec_l4Rest.l1 k y1 x7 (mn x8 (rdI y3 (wrap64 ((wrap64 (x7 * y0_0)) + (rdI x21 x23))))) x16 x17 x21 x22 (wrap64 (x23 + 1)) y0_0 y0_1 y0_2 y0_3 y2_0 y3) else none) else none) else none) else none) else (if y1.length < 17592186044416 then (spec_l4Rest.l0 k (y1 ++ [x8]) x16 (wrap64 (x17 + 1)) y0_0 y0_1 y0_2 y0_3 y2_0 y3) else none))
end
def spec_l4Rest.f (k : Nat) (a0_0 : Int) (l0_1 : List Int) (l0_2 : List Int) (l0_3 : List Stp) (a1 : ByteArray) : Option (List Int) := ((spec_l4Matrix.f k a0_0 l0_1 l0_2 l0_3 a1).bind fun t1 => (spec_l4Rest.l0 k ([] : List Int) a0_0 0 a0_0 l0_1 l0_2 l0_3 t1.1 t1.2))
def spec_l4Rest.en (r : List Int) : Res := (.sl 0 0, [.arr 3 0 (.I .i64 r) false])
def spec_l4Rest.dec : List AV → List R.Obj → Option (Int × (List Int) × (List Int) × (List Stp) × ByteArray)
  | [.agg [.int .i64 a0_0, .imm (.I .i64 l0_1), .imm (.I .i64 l0_2), .imm (.T l0_3)], .str a1], [] => some (a0_0, l0_1, l0_2, l0_3, a1)
  | _, _ => none
def spec_l4Rest.tw : Tw := ⟨79, Int × (List Int) × (List Int) × (List Stp) × ByteArray, List Int, spec_l4Rest.dec, fun a => [.agg [.int .i64 a.1, .imm (.I .i64 a.2.1), .imm (.I .i64 a.2.2.1), .imm (.T a.2.2.2.1)], .str a.2.2.2.2], fun a => [], fun k a => spec_l4Rest.f k a.1 a.2.1 a.2.2.1 a.2.2.2.1 a.2.2.2.2, fun a r => spec_l4Rest.en r⟩
theorem spec_l4Rest.dok : spec_l4Rest.tw.DecOk := by
  intro args hc a h
  have h : spec_l4Rest.dec args hc = some a := h
  unfold spec_l4Rest.dec at h
  split at h
  · cases h; exact ⟨rfl, rfl⟩
  · cases h
noncomputable def spec_l4Rest.O (k : Nat) : Oracle := (spec_l4Matrix.tw.orc k noO)
def spec_l4Rest.fh : FH := ⟨fun i => match i with | 4 => some [(2, 0), (5, 0), (6, 0), (16, 0), (17, 0)] | 8 => some [(2, 0), (5, 0), (6, 0), (7, 0), (8, 0), (16, 0), (17, 0), (21, 0), (22, 0), (23, 0)] | _ => none, [(true, 3)], false⟩
noncomputable def spec_l4Rest.x0 (k : Nat) (y1 : List Int) (x16 : Int) (x17 : Int) (y0_0 : Int) (y0_1 : List Int) (y0_2 : List Int) (y0_3 : List Stp) (y2_0 : Int) (y3 : List Int) : Option Res := R.exec Try.prog xhn spec_l4Rest.O 0 Try.f79 spec_l4Rest.fh k (R.point Try.f79 4) ⟨[(2, .ptr 0 0), (5, .sl 1 0), (6, .ptr 2 0), (16, .int .i64 x16), (17, .int .i64 x17)], [(0, .box false [.int .i64 y0_0, .imm (.I .i64 y0_1), .imm (.I .i64 y0_2), .imm (.T y0_3)]), (1, .arr 3 0 (.I .i64 y1) false), (2, .box false [.int .i64 y2_0, .sl 3 0]), (3, .arr 3 0 (.I .i64 y3) false)], 6⟩
noncomputable def spec_l4Rest.x1 (k : Nat) (y1 : List Int) (x7 : Int) (x8 : Int) (x16 : Int) (x17 : Int) (x21 : List Int) (x22 : Int) (x23 : Int) (y0_0 : Int) (y0_1 : List Int) (y0_2 : List Int) (y0_3 : List Stp) (y2_0 : Int) (y3 : List Int) : Option Res := R.exec Try.prog xhn spec_l4Rest.O 0 Try.f79 spec_l4Rest.fh k (R.point Try.f79 8) ⟨[(2, .ptr 0 0), (5, .sl 1 0), (6, .ptr 2 0), (7, .int .i64 x7), (8, .int .i64 x8), (16, .int .i64 x16), (17, .int .i64 x17), (21, .imm (.I .i64 x21)), (22, .int .i64 x22), (23, .int .i64 x23)], [(0, .box false [.int .i64 y0_0, .imm (.I .i64 y0_1), .imm (.I .i64 y0_2), .imm (.T y0_3)]), (1, .arr 3 0 (.I .i64 y1) false), (2, .box false [.int .i64 y2_0, .sl 3 0]), (3, .arr 3 0 (.I .i64 y3) false)], 6⟩
set_option maxRecDepth 100000 in
theorem spec_l4Rest.e0 (k : Nat) (y1 : List Int) (x16 : Int) (x17 : Int) (y0_0 : Int) (y0_1 : List Int) (y0_2 : List Int) (y0_3 : List Stp) (y2_0 : Int) (y3 : List Int) : spec_l4Rest.x0 (k + 1) y1 x16 x17 y0_0 y0_1 y0_2 y0_3 y2_0 y3 = (if x17 < x16 then (spec_l4Rest.x1 k y1 x17 1000000 x16 x17 y0_2 (y0_2.length : Int) 0 y0_0 y0_1 y0_2 y0_3 y2_0 y3) else (some (spec_l4Rest.en y1))) := by kernel_rfl
set_option maxRecDepth 100000 in
theorem spec_l4Rest.e1 (k : Nat) (y1 : List Int) (x7 : Int) (x8 : Int) (x16 : Int) (x17 : Int) (x21 : List Int) (x22 : Int) (x23 : Int) (y0_0 : Int) (y0_1 : List Int) (y0_2 : List Int) (y0_3 : List Stp) (y2_0 : Int) (y3 : List Int) : spec_l4Rest.x1 (k + 1) y1 x7 x8 x16 x17 x21 x22 x23 y0_0 y0_1 y0_2 y0_3 y2_0 y3 = (if x23 < x22 then (if 0 ≤ x23 then (if x23 < (x21.length : Int) then (if 0 ≤ (wr64 ((wr64 (x7 * y0_0)) + (rdI x21 x23))) then (if (wr64 ((wr64 (x7 * y0_0)) + (rdI x21 x23))) < (y3.length : Int) then (spec_l4Rest.x1 k y1 x7 (mn x8 (rdI y3 (wr64 ((wr64 (x7 * y0_0)) + (rdI x21 x23))))) x16 x17 x21 x22 (wr64 (x23 + 1)) y0_0 y0_1 y0_2 y0_3 y2_0 y3) else none) else none) else none) else none) else (if y1.length < 17592186044416 then (spec_l4Rest.x0 k (y1 ++ [x8]) x16 (wr64 (x17 + 1)) y0_0 y0_1 y0_2 y0_3 y2_0 y3) else none)) := by kernel_rfl
set_option maxRecDepth 100000 in
theorem spec_l4Rest.ef (k : Nat) (a0_0 : Int) (l0_1 : List Int) (l0_2 : List Int) (l0_3 : List Stp) (a1 : ByteArray) : R.start Try.prog xhn spec_l4Rest.O 0 Try.f79 spec_l4Rest.fh k [.agg [.int .i64 a0_0, .imm (.I .i64 l0_1), .imm (.I .i64 l0_2), .imm (.T l0_3)], .str a1] [] = ((spec_l4Matrix.f k a0_0 l0_1 l0_2 l0_3 a1).bind fun t1 => (spec_l4Rest.x0 k ([] : List Int) a0_0 0 a0_0 l0_1 l0_2 l0_3 t1.1 t1.2)) := by kernel_rfl
theorem spec_l4Rest.link : ∀ k, (∀ (y1 : List Int) (x16 : Int) (x17 : Int) (y0_0 : Int) (y0_1 : List Int) (y0_2 : List Int) (y0_3 : List Stp) (y2_0 : Int) (y3 : List Int), spec_l4Rest.x0 k y1 x16 x17 y0_0 y0_1 y0_2 y0_3 y2_0 y3 = (spec_l4Rest.l0 k y1 x16 x17 y0_0 y0_1 y0_2 y0_3 y2_0 y3).map (spec_l4Rest.en)) ∧ (∀ (y1 : List Int) (x7 : Int) (x8 : Int) (x16 : Int) (x17 : Int) (x21 : List Int) (x22 : Int) (x23 : Int) (y0_0 : Int) (y0_1 : List Int) (y0_2 : List Int) (y0_3 : List Stp) (y2_0 : Int) (y3 : List Int), spec_l4Rest.x1 k y1 x7 x8 x16 x17 x21 x22 x23 y0_0 y0_1 y0_2 y0_3 y2_0 y3 = (spec_l4Rest.l1 k y1 x7 x8 x16 x17 x21 x22 x23 y0_0 y0_1 y0_2 y0_3 y2_0 y3).map (spec_l4Rest.en))
  | 0 => ⟨fun _ _ _ _ _ _ _ _ _ => by simp only [spec_l4Rest.l0, R.map_none]; rfl, fun _ _ _ _ _ _ _ _ _ _ _ _ _ _ => by simp only [spec_l4Rest.l1, R.map_none]; rfl⟩
  | k + 1 => by
    obtain ⟨ih0, ih1⟩ := spec_l4Rest.link k
    refine ⟨?_, ?_⟩
    · intro y1 x16 x17 y0_0 y0_1 y0_2 y0_3 y2_0 y3
      rw [spec_l4Rest.e0]
      simp only [spec_l4Rest.l0, R.map_ite, R.map_bind, R.map_none, R.map_some, R.wr64_eq, ← ih0, ← ih1]
    · intro y1 x7 x8 x16 x17 x21 x22 x23 y0_0 y0_1 y0_2 y0_3 y2_0 y3
      rw [spec_l4Rest.e1]
      simp only [spec_l4Rest.l1, R.map_ite, R.map_bind, R.map_none, R.map_some, R.wr64_eq, ← ih0, ← ih1]
theorem spec_l4Rest.sf (k : Nat) (a0_0 : Int) (l0_1 : List Int) (l0_2 : List Int) (l0_3 : List Stp) (a1 : ByteArray) : R.start Try.prog xhn spec_l4Rest.O 0 Try.f79 spec_l4Rest.fh k [.agg [.int .i64 a0_0, .imm (.I .i64 l0_1), .imm (.I .i64 l0_2), .imm (.T l0_3)], .str a1] [] = (spec_l4Rest.f k a0_0 l0_1 l0_2 l0_3 a1).map (spec_l4Rest.en) := by
  obtain ⟨ih0, ih1⟩ := spec_l4Rest.link k
  rw [spec_l4Rest.ef]
  simp only [spec_l4Rest.f, R.map_ite, R.map_bind, R.map_none, R.map_some, R.wr64_eq, ← ih0, ← ih1]
theorem spec_l4Rest.ok (k : Nat) : spec_l4Rest.tw.Ok Try.prog k := by
  intro a r h
  refine fn_ok (H := xhn) (fh := spec_l4Rest.fh) (O := spec_l4Rest.O) (k := k) Try.func79 (by kernel_rfl) (by kernel_rfl) (fun j _ => (Tw.orc_sound spec_l4Matrix.dok (spec_l4Matrix.ok j) noO_sound)) (by kernel_rfl) (m := 0) rfl ?_
  refine (spec_l4Rest.sf k a.1 a.2.1 a.2.2.1 a.2.2.2.1 a.2.2.2.2).trans ?_
  exact congrArg (Option.map _) h
mutual
def spec_RunOf.l0 : Nat → ByteArray → (List Int) → (List Int) → Int → Int → Int → (List Int) → (List Int) → (List Stp) → Option ((List Int) × Bool)
  | 0, _, _, _, _, _, _, _, _, _ => none
  | k + 1, x1, y2, x31, x32, x33, y0_0, y0_1, y0_2, y0_3 => (if x33 < x32 then (if 0 ≤ x33 then (if x33 < (x31.length : Int) then (if 0 ≤ (rdI x31 x33) then (if (rdI x31 x33) < (y2.length : Int) then ((spec_l4Cost.f k y0_0 y0_1 y0_2 y0_3 x1).bind fun t4 => (if (rdI y2 (rdI x31 x33)) = t4 then (if ([] : List Int).length < 17592186044416 then (spec_RunOf.l1 k x1 (([] : List Int) ++ [(rdI x31 x33)]) y2 (x1.size : Int) 0 y0_0 y0_1 y0_2 y0_3) else none) else (spec_RunOf.l0 k x1 y2 x31 x32 (wrap64 (x33 + 1)) y0_0 y0_1 y0_2 y0_3))) else none) else none) else none) else none) else (spec_RunOf.l1 k x1 ([] : List Int) y2 (x1.size : Int) 0 y0_0 y0_1 y0_2 y0_3))
def spec_RunOf.l1 : Nat → ByteArray → (List Int) → (List Int) → Int → Int → Int → (List Int) → (List Int) → (List Stp) → Option ((List Int) × Bool)
  | 0, _, _, _, _, _, _, _, _, _ => none
  | k + 1, x1, y1, y2, x51, x52, y0_0, y0_1, y0_2, y0_3 => (if x52 < x51 then (if 0 ≤ (wrap64 ((y1.length : Int) - 1)) then (if (wrap64 ((y1.length : Int) - 1)) < (y1.length : Int) then (if 0 ≤ (rdI y1 (wrap64 ((y1.length : Int) - 1))) then (if (rdI y1 (wrap64 ((y1.length : Int) - 1))) < (y2.length : Int) then (if 0 ≤ (wrap64 (x52 + 1)) then (if (wrap64 (x52 + 1)) ≤ (x1.size : Int) then (if (x1.size : Int) ≤ (x1.size : Int) then ((spec_l4Rest.f k y0_0 y0_1 y0_2 y0_3 (x1.extract (wrap64 (x52 + 1)).toNat x1.size)).bind fun t5 => (spec_RunOf.l2 k x1 y1 t5 x52 (rdI y1 (wrap64 ((y1.length : Int) - 1))) (rdI y2 (rdI y1 (wrap64 ((y1.length : Int) - 1)))) x51 x52 y0_3 (y0_3.length : Int) 0 y0_0 y0_1 y0_2 y0_3)) else none) else none) else none) else none) else none) else none) else none) else (some (y1, true)))
def spec_RunOf.l2 : Nat → ByteArray → (List Int) → (List Int) → Int → Int → Int → Int → Int → (List Stp) → Int → Int → Int → (List Int) → (List Int) → (List Stp) → Option ((List Int) × Bool)
  | 0, _, _, _, _, _, _, _, _, _, _, _, _, _, _, _ => none
  | k + 1, x1, y1, y2, x10, x11, x12, x51, x52, x72, x73, x74, y0_0, y0_1, y0_2, y0_3 => (if x74 < x73 then (if 0 ≤ x74 then (if x74 < (x72.length : Int) then (if (rdT x72 x74).f0 = x11 then (if 0 ≤ x10 then (if x10 ≤ (wrap64 (x10 + 1)) then (if (wrap64 (x10 + 1)) ≤ (x1.size : Int) then (if (rdT x72 x74).f1.toList = (x1.extract x10.toNat (wrap64 (x10 + 1)).toNat).toList then (if 0 ≤ (rdT x72 x74).f2 then (if (rdT x72 x74).f2 < (y2.length : Int) then (if (rdI y2 (rdT x72 x74).f2) < 1000000 then (if (wrap64 ((rdT x72 x74).f3 + (rdI y2 (rdT x72 x74).f2))) = x12 then (if y1.length < 17592186044416 then (spec_RunOf.l1 k x1 (y1 ++ [(rdT x72 x74).f2]) y2 x51 (wrap64 (x52 + 1)) y0_0 y0_1 y0_2 y0_3) else none) else (spec_RunOf.l2 k x1 y1 y2 x10 x11 x12 x51 x52 x72 x73 (wrap64 (x74 + 1)) y0_0 y0_1 y0_2 y0_3)) else (spec_RunOf.l2 k x1 y1 y2 x10 x11 x12 x51 x52 x72 x73 (wrap64 (x74 + 1)) y0_0 y0_1 y0_2 y0_3)) else none) else none) else (spec_RunOf.l2 k x1 y1 y2 x10 x11 x12 x51 x52 x72 x73 (wrap64 (x74 + 1)) y0_0 y0_1 y0_2 y0_3)) else none) else none) else none) else (spec_RunOf.l2 k x1 y1 y2 x10 x11 x12 x51 x52 x72 x73 (wrap64 (x74 + 1)) y0_0 y0_1 y0_2 y0_3)) else none) else none) else (spec_RunOf.l1 k x1 y1 y2 x51 (wrap64 (x52 + 1)) y0_0 y0_1 y0_2 y0_3))
end
def spec_RunOf.f (k : Nat) (a0_0 : Int) (l0_1 : List Int) (l0_2 : List Int) (l0_3 : List Stp) (a1 : ByteArray) : Option ((List Int) × Bool) := ((spec_l4Asked.f k a0_0 l0_1 l0_2 l0_3 a1).bind fun t1 => (if t1 = true then ((spec_l4Cost.f k a0_0 l0_1 l0_2 l0_3 a1).bind fun t2 => (if t2 = 1000000 then (some (([] : List Int), false)) else ((spec_l4Rest.f k a0_0 l0_1 l0_2 l0_3 a1).bind fun t3 => (spec_RunOf.l0 k a1 t3 l0_1 (l0_1.length : Int) 0 a0_0 l0_1 l0_2 l0_3)))) else (some (([] : List Int), false))))
def spec_RunOf.en (r : (List Int) × Bool) : Res := (.tup [.sl 0 0, .lit r.2], [.arr 3 0 (.I .i64 r.1) false])
def spec_RunOf.dec : List AV → List R.Obj → Option (Int × (List Int) × (List Int) × (List Stp) × ByteArray)
  | [.agg [.int .i64 a0_0, .imm (.I .i64 l0_1), .imm (.I .i64 l0_2), .imm (.T l0_3)], .str a1], [] => some (a0_0, l0_1, l0_2, l0_3, a1)
  | _, _ => none
def spec_RunOf.tw : Tw := ⟨14, Int × (List Int) × (List Int) × (List Stp) × ByteArray, (List Int) × Bool, spec_RunOf.dec, fun a => [.agg [.int .i64 a.1, .imm (.I .i64 a.2.1), .imm (.I .i64 a.2.2.1), .imm (.T a.2.2.2.1)], .str a.2.2.2.2], fun a => [], fun k a => spec_RunOf.f k a.1 a.2.1 a.2.2.1 a.2.2.2.1 a.2.2.2.2, fun a r => spec_RunOf.en r⟩
theorem spec_RunOf.dok : spec_RunOf.tw.DecOk := by
  intro args hc a h
  have h : spec_RunOf.dec args hc = some a := h
  unfold spec_RunOf.dec at h
  split at h
  · cases h; exact ⟨rfl, rfl⟩
  · cases h
noncomputable def spec_RunOf.O (k : Nat) : Oracle := (spec_l4Asked.tw.orc k (spec_l4Cost.tw.orc k (spec_l4Rest.tw.orc k noO)))
def spec_RunOf.fh : FH := ⟨fun i => match i with | 6 => some [(1, 0), (2, 0), (6, 0), (7, 0), (31, 0), (32, 0), (33, 0)] | 12 => some [(1, 0), (2, 0), (6, 0), (7, 0), (51, 0), (52, 0)] | 18 => some [(1, 0), (2, 0), (6, 0), (7, 0), (10, 0), (11, 0), (12, 0), (51, 0), (52, 0), (72, 0), (73, 0), (74, 0)] | _ => none, [(true, 3)], false⟩
noncomputable def spec_RunOf.x0 (k : Nat) (x1 : ByteArray) (y2 : List Int) (x31 : List Int) (x32 : Int) (x33 : Int) (y0_0 : Int) (y0_1 : List Int) (y0_2 : List Int) (y0_3 : List Stp) : Option Res := R.exec Try.prog xhn spec_RunOf.O 0 Try.f14 spec_RunOf.fh k (R.point Try.f14 6) ⟨[(1, .str x1), (2, .ptr 0 0), (6, .sl 1 0), (7, .sl 2 0), (31, .imm (.I .i64 x31)), (32, .int .i64 x32), (33, .int .i64 x33)], [(0, .box false [.int .i64 y0_0, .imm (.I .i64 y0_1), .imm (.I .i64 y0_2), .imm (.T y0_3)]), (1, .arr 3 0 (.I .i64 ([] : List Int)) false), (2, .arr 3 0 (.I .i64 y2) false)], 5⟩
noncomputable def spec_RunOf.x1 (k : Nat) (x1 : ByteArray) (y1 : List Int) (y2 : List Int) (x51 : Int) (x52 : Int) (y0_0 : Int) (y0_1 : List Int) (y0_2 : List Int) (y0_3 : List Stp) : Option Res := R.exec Try.prog xhn spec_RunOf.O 0 Try.f14 spec_RunOf.fh k (R.point Try.f14 12) ⟨[(1, .str x1), (2, .ptr 0 0), (6, .sl 1 0), (7, .sl 2 0), (51, .int .i64 x51), (52, .int .i64 x52)], [(0, .box false [.int .i64 y0_0, .imm (.I .i64 y0_1), .imm (.I .i64 y0_2), .imm (.T y0_3)]), (1, .arr 3 0 (.I .i64 y1) false), (2, .arr 3 0 (.I .i64 y2) false)], 5⟩
noncomputable def spec_RunOf.x2 (k : Nat) (x1 : ByteArray) (y1 : List Int) (y2 : List Int) (x10 : Int) (x11 : Int) (x12 : Int) (x51 : Int) (x52 : Int) (x72 : List Stp) (x73 : Int) (x74 : Int) (y0_0 : Int) (y0_1 : List Int) (y0_2 : List Int) (y0_3 : List Stp) : Option Res := R.exec Try.prog xhn spec_RunOf.O 0 Try.f14 spec_RunOf.fh k (R.point Try.f14 18) ⟨[(1, .str x1), (2, .ptr 0 0), (6, .sl 1 0), (7, .sl 2 0), (10, .int .i64 x10), (11, .int .i64 x11), (12, .int .i64 x12), (51, .int .i64 x51), (52, .int .i64 x52), (72, .imm (.T x72)), (73, .int .i64 x73), (74, .int .i64 x74)], [(0, .box false [.int .i64 y0_0, .imm (.I .i64 y0_1), .imm (.I .i64 y0_2), .imm (.T y0_3)]), (1, .arr 3 0 (.I .i64 y1) false), (2, .arr 3 0 (.I .i64 y2) false)], 5⟩
set_option maxRecDepth 100000 in
theorem spec_RunOf.e0 (k : Nat) (x1 : ByteArray) (y2 : List Int) (x31 : List Int) (x32 : Int) (x33 : Int) (y0_0 : Int) (y0_1 : List Int) (y0_2 : List Int) (y0_3 : List Stp) : spec_RunOf.x0 (k + 1) x1 y2 x31 x32 x33 y0_0 y0_1 y0_2 y0_3 = (if x33 < x32 then (if 0 ≤ x33 then (if x33 < (x31.length : Int) then (if 0 ≤ (rdI x31 x33) then (if (rdI x31 x33) < (y2.length : Int) then ((spec_l4Cost.f k y0_0 y0_1 y0_2 y0_3 x1).bind fun t4 => (if (rdI y2 (rdI x31 x33)) = t4 then (if ([] : List Int).length < 17592186044416 then (spec_RunOf.x1 k x1 (([] : List Int) ++ [(rdI x31 x33)]) y2 (x1.size : Int) 0 y0_0 y0_1 y0_2 y0_3) else none) else (spec_RunOf.x0 k x1 y2 x31 x32 (wr64 (x33 + 1)) y0_0 y0_1 y0_2 y0_3))) else none) else none) else none) else none) else (spec_RunOf.x1 k x1 ([] : List Int) y2 (x1.size : Int) 0 y0_0 y0_1 y0_2 y0_3)) := by kernel_rfl
set_option maxRecDepth 100000 in
theorem spec_RunOf.e1 (k : Nat) (x1 : ByteArray) (y1 : List Int) (y2 : List Int) (x51 : Int) (x52 : Int) (y0_0 : Int) (y0_1 : List Int) (y0_2 : List Int) (y0_3 : List Stp) : spec_RunOf.x1 (k + 1) x1 y1 y2 x51 x52 y0_0 y0_1 y0_2 y0_3 = (if x52 < x51 then (if 0 ≤ (wr64 ((y1.length : Int) - 1)) then (if (wr64 ((y1.length : Int) - 1)) < (y1.length : Int) then (if 0 ≤ (rdI y1 (wr64 ((y1.length : Int) - 1))) then (if (rdI y1 (wr64 ((y1.length : Int) - 1))) < (y2.length : Int) then (if 0 ≤ (wr64 (x52 + 1)) then (if (wr64 (x52 + 1)) ≤ (x1.size : Int) then (if (x1.size : Int) ≤ (x1.size : Int) then ((spec_l4Rest.f k y0_0 y0_1 y0_2 y0_3 (x1.extract (wr64 (x52 + 1)).toNat x1.size)).bind fun t5 => (spec_RunOf.x2 k x1 y1 t5 x52 (rdI y1 (wr64 ((y1.length : Int) - 1))) (rdI y2 (rdI y1 (wr64 ((y1.length : Int) - 1)))) x51 x52 y0_3 (y0_3.length : Int) 0 y0_0 y0_1 y0_2 y0_3)) else none) else none) else none) else none) else none) else none) else none) else (some (spec_RunOf.en (y1, true)))) := by kernel_rfl
set_option maxRecDepth 100000 in
theorem spec_RunOf.e2 (k : Nat) (x1 : ByteArray) (y1 : List Int) (y2 : List Int) (x10 : Int) (x11 : Int) (x12 : Int) (x51 : Int) (x52 : Int) (x72 : List Stp) (x73 : Int) (x74 : Int) (y0_0 : Int) (y0_1 : List Int) (y0_2 : List Int) (y0_3 : List Stp) : spec_RunOf.x2 (k + 1) x1 y1 y2 x10 x11 x12 x51 x52 x72 x73 x74 y0_0 y0_1 y0_2 y0_3 = (if x74 < x73 then (if 0 ≤ x74 then (if x74 < (x72.length : Int) then (if (rdT x72 x74).f0 = x11 then (if 0 ≤ x10 then (if x10 ≤ (wr64 (x10 + 1)) then (if (wr64 (x10 + 1)) ≤ (x1.size : Int) then (if (rdT x72 x74).f1.toList = (x1.extract x10.toNat (wr64 (x10 + 1)).toNat).toList then (if 0 ≤ (rdT x72 x74).f2 then (if (rdT x72 x74).f2 < (y2.length : Int) then (if (rdI y2 (rdT x72 x74).f2) < 1000000 then (if (wr64 ((rdT x72 x74).f3 + (rdI y2 (rdT x72 x74).f2))) = x12 then (if y1.length < 17592186044416 then (spec_RunOf.x1 k x1 (y1 ++ [(rdT x72 x74).f2]) y2 x51 (wr64 (x52 + 1)) y0_0 y0_1 y0_2 y0_3) else none) else (spec_RunOf.x2 k x1 y1 y2 x10 x11 x12 x51 x52 x72 x73 (wr64 (x74 + 1)) y0_0 y0_1 y0_2 y0_3)) else (spec_RunOf.x2 k x1 y1 y2 x10 x11 x12 x51 x52 x72 x73 (wr64 (x74 + 1)) y0_0 y0_1 y0_2 y0_3)) else none) else none) else (spec_RunOf.x2 k x1 y1 y2 x10 x11 x12 x51 x52 x72 x73 (wr64 (x74 + 1)) y0_0 y0_1 y0_2 y0_3)) else none) else none) else none) else (spec_RunOf.x2 k x1 y1 y2 x10 x11 x12 x51 x52 x72 x73 (wr64 (x74 + 1)) y0_0 y0_1 y0_2 y0_3)) else none) else none) else (spec_RunOf.x1 k x1 y1 y2 x51 (wr64 (x52 + 1)) y0_0 y0_1 y0_2 y0_3)) := by
  refine Eq.trans ?_ (R.icong (fun h0 => (R.icong (fun h1 => (R.icong (fun h2 => (R.icong (fun h3 => (R.icong (fun h4 => (R.icong (fun h5 => (R.icong (fun h6 => (R.icong (fun h7 => (R.icong (fun h8 => (R.icong (fun h9 => (R.icong (fun h10 => (R.idropT (p := 0 ≤ (rdT x72 x74).f2) (z := none) h8 (R.idropT (p := (rdT x72 x74).f2 < (y2.length : Int)) (z := none) h9 rfl))) (fun h10 => rfl))) (fun h9 => rfl))) (fun h8 => rfl))) (fun h7 => rfl))) (fun h6 => rfl))) (fun h5 => rfl))) (fun h4 => rfl))) (fun h3 => rfl))) (fun h2 => rfl))) (fun h1 => rfl))) (fun h0 => rfl))
  kernel_rfl
set_option maxRecDepth 100000 in
theorem spec_RunOf.ef (k : Nat) (a0_0 : Int) (l0_1 : List Int) (l0_2 : List Int) (l0_3 : List Stp) (a1 : ByteArray) : R.start Try.prog xhn spec_RunOf.O 0 Try.f14 spec_RunOf.fh k [.agg [.int .i64 a0_0, .imm (.I .i64 l0_1), .imm (.I .i64 l0_2), .imm (.T l0_3)], .str a1] [] = ((spec_l4Asked.f k a0_0 l0_1 l0_2 l0_3 a1).bind fun t1 => (if t1 = true then ((spec_l4Cost.f k a0_0 l0_1 l0_2 l0_3 a1).bind fun t2 => (if t2 = 1000000 then (some (spec_RunOf.en (([] : List Int), false))) else ((spec_l4Rest.f k a0_0 l0_1 l0_2 l0_3 a1).bind fun t3 => (spec_RunOf.x0 k a1 t3 l0_1 (l0_1.length : Int) 0 a0_0 l0_1 l0_2 l0_3)))) else (some (spec_RunOf.en (([] : List Int), false))))) := by kernel_rfl
theorem spec_RunOf.link : ∀ k, (∀ (x1 : ByteArray) (y2 : List Int) (x31 : List Int) (x32 : Int) (x33 : Int) (y0_0 : Int) (y0_1 : List Int) (y0_2 : List Int) (y0_3 : List Stp), spec_RunOf.x0 k x1 y2 x31 x32 x33 y0_0 y0_1 y0_2 y0_3 = (spec_RunOf.l0 k x1 y2 x31 x32 x33 y0_0 y0_1 y0_2 y0_3).map (spec_RunOf.en)) ∧ (∀ (x1 : ByteArray) (y1 : List Int) (y2 : List Int) (x51 : Int) (x52 : Int) (y0_0 : Int) (y0_1 : List Int) (y0_2 : List Int) (y0_3 : List Stp), spec_RunOf.x1 k x1 y1 y2 x51 x52 y0_0 y0_1 y0_2 y0_3 = (spec_RunOf.l1 k x1 y1 y2 x51 x52 y0_0 y0_1 y0_2 y0_3).map (spec_RunOf.en)) ∧ (∀ (x1 : ByteArray) (y1 : List Int) (y2 : List Int) (x10 : Int) (x11 : Int) (x12 : Int) (x51 : Int) (x52 : Int) (x72 : List Stp) (x73 : Int) (x74 : Int) (y0_0 : Int) (y0_1 : List Int) (y0_2 : List Int) (y0_3 : List Stp), spec_RunOf.x2 k x1 y1 y2 x10 x11 x12 x51 x52 x72 x73 x74 y0_0 y0_1 y0_2 y0_3 = (spec_RunOf.l2 k x1 y1 y2 x10 x11 x12 x51 x52 x72 x73 x74 y0_0 y0_1 y0_2 y0_3).map (spec_RunOf.en))
  | 0 => ⟨fun _ _ _ _ _ _ _ _ _ => by simp only [spec_RunOf.l0, R.map_none]; rfl, fun _ _ _ _ _ _ _ _ _ => by simp only [spec_RunOf.l1, R.map_none]; rfl, fun _ _ _ _ _ _ _ _ _ _ _ _ _ _ _ => by simp only [spec_RunOf.l2, R.map_none]; rfl⟩
  | k + 1 => by
    obtain ⟨ih0, ih1, ih2⟩ := spec_RunOf.link k
    refine ⟨?_, ?_, ?_⟩
    · intro x1 y2 x31 x32 x33 y0_0 y0_1 y0_2 y0_3
      rw [spec_RunOf.e0]
      simp only [spec_RunOf.l0, R.map_ite, R.map_bind, R.map_none, R.map_some, R.wr64_eq, ← ih0, ← ih1, ← ih2]
    · intro x1 y1 y2 x51 x52 y0_0 y0_1 y0_2 y0_3
      rw [spec_RunOf.e1]
      simp only [spec_RunOf.l1, R.map_ite, R.map_bind, R.map_none, R.map_some, R.wr64_eq, ← ih0, ← ih1, ← ih2]
    · intro x1 y1 y2 x10 x11 x12 x51 x52 x72 x73 x74 y0_0 y0_1 y0_2 y0_3
      rw [spec_RunOf.e2]
      simp only [spec_RunOf.l2, R.map_ite, R.map_bind, R.map_none, R.map_some, R.wr64_eq, ← ih0, ← ih1, ← ih2]
theorem spec_RunOf.sf (k : Nat) (a0_0 : Int) (l0_1 : List Int) (l0_2 : List Int) (l0_3 : List Stp) (a1 : ByteArray) : R.start Try.prog xhn spec_RunOf.O 0 Try.f14 spec_RunOf.fh k [.agg [.int .i64 a0_0, .imm (.I .i64 l0_1), .imm (.I .i64 l0_2), .imm (.T l0_3)], .str a1] [] = (spec_RunOf.f k a0_0 l0_1 l0_2 l0_3 a1).map (spec_RunOf.en) := by
  obtain ⟨ih0, ih1, ih2⟩ := spec_RunOf.link k
  rw [spec_RunOf.ef]
  simp only [spec_RunOf.f, R.map_ite, R.map_bind, R.map_none, R.map_some, R.wr64_eq, ← ih0, ← ih1, ← ih2]
theorem spec_RunOf.ok (k : Nat) : spec_RunOf.tw.Ok Try.prog k := by
  intro a r h
  refine fn_ok (H := xhn) (fh := spec_RunOf.fh) (O := spec_RunOf.O) (k := k) Try.func14 (by kernel_rfl) (by kernel_rfl) (fun j _ => (Tw.orc_sound spec_l4Asked.dok (spec_l4Asked.ok j) (Tw.orc_sound spec_l4Cost.dok (spec_l4Cost.ok j) (Tw.orc_sound spec_l4Rest.dok (spec_l4Rest.ok j) noO_sound)))) (by kernel_rfl) (m := 0) rfl ?_
  refine (spec_RunOf.sf k a.1 a.2.1 a.2.2.1 a.2.2.2.1 a.2.2.2.2).trans ?_
  exact congrArg (Option.map _) h
def laws_daSame.l0 : Nat → (List Int) → (List Int) → Int → Int → Option (Bool)
  | 0, _, _, _, _ => none
  | k + 1, x0, x1, x10, x11 => (if x11 < x10 then (if 0 ≤ x11 then (if x11 < (x0.length : Int) then (if x11 < (x1.length : Int) then (if (rdI x0 x11) = (rdI x1 x11) then (laws_daSame.l0 k x0 x1 x10 (wrap64 (x11 + 1))) else (some false)) else none) else none) else none) else (some (decide ((x0.length : Int) = (x1.length : Int)))))
def laws_daSame.f (k : Nat) (l0 : List Int) (l1 : List Int) : Option (Bool) := (laws_daSame.l0 k l0 l1 (mn (l0.length : Int) (l1.length : Int)) 0)
def laws_daSame.en (r : Bool) : Res := (.lit r, [])
def laws_daSame.dec : List AV → List R.Obj → Option ((List Int) × (List Int))
  | [.imm (.I .i64 l0), .imm (.I .i64 l1)], [] => some (l0, l1)
  | _, _ => none
def laws_daSame.tw : Tw := ⟨33, (List Int) × (List Int), Bool, laws_daSame.dec, fun a => [.imm (.I .i64 a.1), .imm (.I .i64 a.2)], fun a => [], fun k a => laws_daSame.f k a.1 a.2, fun a r => laws_daSame.en r⟩
theorem laws_daSame.dok : laws_daSame.tw.DecOk := by
  intro args hc a h
  have h : laws_daSame.dec args hc = some a := h
  unfold laws_daSame.dec at h
  split at h
  · cases h; exact ⟨rfl, rfl⟩
  · cases h
noncomputable def laws_daSame.O (k : Nat) : Oracle := noO
def laws_daSame.fh : FH := ⟨fun i => match i with | 2 => some [(0, 0), (1, 0), (10, 0), (11, 0)] | _ => none, [], false⟩
noncomputable def laws_daSame.x0 (k : Nat) (x0 : List Int) (x1 : List Int) (x10 : Int) (x11 : Int) : Option Res := R.exec Try.prog xhn laws_daSame.O 0 Try.f33 laws_daSame.fh k (R.point Try.f33 2) ⟨[(0, .imm (.I .i64 x0)), (1, .imm (.I .i64 x1)), (10, .int .i64 x10), (11, .int .i64 x11)], [], 2⟩
set_option maxRecDepth 100000 in
theorem laws_daSame.e0 (k : Nat) (x0 : List Int) (x1 : List Int) (x10 : Int) (x11 : Int) : laws_daSame.x0 (k + 1) x0 x1 x10 x11 = (if x11 < x10 then (if 0 ≤ x11 then (if x11 < (x0.length : Int) then (if x11 < (x1.length : Int) then (if (rdI x0 x11) = (rdI x1 x11) then (laws_daSame.x0 k x0 x1 x10 (wr64 (x11 + 1))) else (some (laws_daSame.en false))) else none) else none) else none) else (some (laws_daSame.en (decide ((x0.length : Int) = (x1.length : Int)))))) := by
  refine Eq.trans ?_ (R.icong (fun h0 => (R.icong (fun h1 => (R.icong (fun h2 => (R.idropT (p := 0 ≤ x11) (z := none) h1 rfl)) (fun h2 => rfl))) (fun h1 => rfl))) (fun h0 => rfl))
  kernel_rfl
set_option maxRecDepth 100000 in
theorem laws_daSame.ef (k : Nat) (l0 : List Int) (l1 : List Int) : R.start Try.prog xhn laws_daSame.O 0 Try.f33 laws_daSame.fh k [.imm (.I .i64 l0), .imm (.I .i64 l1)] [] = (laws_daSame.x0 k l0 l1 (mn (l0.length : Int) (l1.length : Int)) 0) := by kernel_rfl
theorem laws_daSame.link : ∀ k, (∀ (x0 : List Int) (x1 : List Int) (x10 : Int) (x11 : Int), laws_daSame.x0 k x0 x1 x10 x11 = (laws_daSame.l0 k x0 x1 x10 x11).map (laws_daSame.en))
  | 0 => fun _ _ _ _ => by simp only [laws_daSame.l0, R.map_none]; rfl
  | k + 1 => by
    have ih0 := laws_daSame.link k
    · intro x0 x1 x10 x11
      rw [laws_daSame.e0]
      simp only [laws_daSame.l0, R.map_ite, R.map_bind, R.map_none, R.map_some, R.wr64_eq, ← ih0]
theorem laws_daSame.sf (k : Nat) (l0 : List Int) (l1 : List Int) : R.start Try.prog xhn laws_daSame.O 0 Try.f33 laws_daSame.fh k [.imm (.I .i64 l0), .imm (.I .i64 l1)] [] = (laws_daSame.f k l0 l1).map (laws_daSame.en) := by
  have ih0 := laws_daSame.link k
  rw [laws_daSame.ef]
  simp only [laws_daSame.f, R.map_ite, R.map_bind, R.map_none, R.map_some, R.wr64_eq, ← ih0]
theorem laws_daSame.ok (k : Nat) : laws_daSame.tw.Ok Try.prog k := by
  intro a r h
  refine fn_ok (H := xhn) (fh := laws_daSame.fh) (O := laws_daSame.O) (k := k) Try.func33 (by kernel_rfl) (by kernel_rfl) (fun j _ => noO_sound) (by kernel_rfl) (m := 0) rfl ?_
  refine (laws_daSame.sf k a.1 a.2).trans ?_
  exact congrArg (Option.map _) h
def spec_DrawCostOfRun.l0 : Nat → ByteArray → (List Int) → Int → Int → (List Int) → Int → Int → (List Int) → (List Int) → (List Stp) → Option (Int × (List Int) × (List Int) × (List Stp) × ByteArray × (List Int))
  | 0, _, _, _, _, _, _, _, _, _, _ => none
  | k + 1, x7, y3, x36, x37, y1_0, y1_1, y2_0, y2_1, y2_2, y2_3 => (if x37 < x36 then ((spec_l13Rd_num.f ([0, 1, 2, 0, 4, (-1)]) y1_0 y1_1).bind fun t5 => (if y3.length < 17592186044416 then (spec_DrawCostOfRun.l0 k x7 (y3 ++ [t5.1]) x36 (wrap64 (x37 + 1)) t5.2.1 t5.2.2 y2_0 y2_1 y2_2 y2_3) else none)) else (some (y2_0, y2_1, y2_2, y2_3, x7, y3)))
def spec_DrawCostOfRun.f (k : Nat) (l0 : List Int) : Option (Int × (List Int) × (List Int) × (List Stp) × ByteArray × (List Int)) := ((spec_l13Open.f l0).bind fun t1 => ((spec_l4Some.f k t1.1 t1.2).bind fun t2 => ((spec_RunOf.f k t2.1 t2.2.1 t2.2.2.1 t2.2.2.2.1 t2.2.2.2.2.1).bind fun t3 => (if t3.2 = true then ((spec_l13Rd_pick.f 3 t2.2.2.2.2.2.1 t2.2.2.2.2.2.2).bind fun t4 => (if t4.1 > 0 then (some (t2.1, t2.2.1, t2.2.2.1, t2.2.2.2.1, t2.2.2.2.2.1, t3.1)) else (spec_DrawCostOfRun.l0 k t2.2.2.2.2.1 ([] : List Int) (wrap64 ((t2.2.2.2.2.1.size : Int) + 1)) 0 t4.2.1 t4.2.2 t2.1 t2.2.1 t2.2.2.1 t2.2.2.2.1))) else (spec_DrawCostOfRun.l0 k t2.2.2.2.2.1 ([] : List Int) (wrap64 ((t2.2.2.2.2.1.size : Int) + 1)) 0 t2.2.2.2.2.2.1 t2.2.2.2.2.2.2 t2.1 t2.2.1 t2.2.2.1 t2.2.2.2.1)))))
def spec_DrawCostOfRun.en (r : Int × (List Int) × (List Int) × (List Stp) × ByteArray × (List Int)) : Res := (.tup [.agg [.int .i64 r.1, .imm (.I .i64 r.2.1), .imm (.I .i64 r.2.2.1), .imm (.T r.2.2.2.1)], .str r.2.2.2.2.1, .imm (.I .i64 r.2.2.2.2.2)], [])
def spec_DrawCostOfRun.dec : List AV → List R.Obj → Option (List Int)
  | [.imm (.I .u8 l0)], [] => some l0
  | _, _ => none
def spec_DrawCostOfRun.tw : Tw := ⟨34, List Int, Int × (List Int) × (List Int) × (List Stp) × ByteArray × (List Int), spec_DrawCostOfRun.dec, fun a => [.imm (.I .u8 a)], fun a => [], fun k a => spec_DrawCostOfRun.f k a, fun a r => spec_DrawCostOfRun.en r⟩
theorem spec_DrawCostOfRun.dok : spec_DrawCostOfRun.tw.DecOk := by
  intro args hc a h
  have h : spec_DrawCostOfRun.dec args hc = some a := h
  unfold spec_DrawCostOfRun.dec at h
  split at h
  · cases h; exact ⟨rfl, rfl⟩
  · cases h
noncomputable def spec_DrawCostOfRun.O (k : Nat) : Oracle := (spec_l13Open.tw.orc k (spec_l4Some.tw.orc k (spec_RunOf.tw.orc k (spec_l13Rd_pick.tw.orc k (spec_l13Rd_num.tw.orc k noO)))))
def spec_DrawCostOfRun.fh : FH := ⟨fun i => match i with | 8 => some [(2, 0), (5, 0), (6, 0), (7, 0), (10, 0), (36, 0), (37, 0)] | _ => none, [(false, 3), (false, 3), (false, 92), (false, 3)], false⟩
noncomputable def spec_DrawCostOfRun.x0 (k : Nat) (x7 : ByteArray) (y3 : List Int) (x36 : Int) (x37 : Int) (y1_0 : List Int) (y1_1 : Int) (y2_0 : Int) (y2_1 : List Int) (y2_2 : List Int) (y2_3 : List Stp) : Option Res := R.exec Try.prog xhn spec_DrawCostOfRun.O 0 Try.f34 spec_DrawCostOfRun.fh k (R.point Try.f34 8) ⟨[(2, .ptr 0 0), (5, .ptr 1 0), (6, .ptr 2 0), (7, .str x7), (10, .sl 3 0), (36, .int .i64 x36), (37, .int .i64 x37)], [(0, .box false [.int .i64 0, .sl 4 0, .sl 5 0, .sl 6 0]), (1, .box false [.imm (.I .u8 y1_0), .int .i64 y1_1]), (2, .box false [.int .i64 y2_0, .imm (.I .i64 y2_1), .imm (.I .i64 y2_2), .imm (.T y2_3)]), (3, .arr 3 0 (.I .i64 y3) false), (4, .arr 3 0 (.I .i64 ([] : List Int)) false), (5, .arr 3 0 (.I .i64 ([] : List Int)) false), (6, .arr 92 0 (.T ([] : List Stp)) false)], 9⟩
set_option maxRecDepth 100000 in
theorem spec_DrawCostOfRun.e0 (k : Nat) (x7 : ByteArray) (y3 : List Int) (x36 : Int) (x37 : Int) (y1_0 : List Int) (y1_1 : Int) (y2_0 : Int) (y2_1 : List Int) (y2_2 : List Int) (y2_3 : List Stp) : spec_DrawCostOfRun.x0 (k + 1) x7 y3 x36 x37 y1_0 y1_1 y2_0 y2_1 y2_2 y2_3 = (if x37 < x36 then ((spec_l13Rd_num.f ([0, 1, 2, 0, 4, (-1)]) y1_0 y1_1).bind fun t5 => (if y3.length < 17592186044416 then (spec_DrawCostOfRun.x0 k x7 (y3 ++ [t5.1]) x36 (wr64 (x37 + 1)) t5.2.1 t5.2.2 y2_0 y2_1 y2_2 y2_3) else none)) else (some (spec_DrawCostOfRun.en (y2_0, y2_1, y2_2, y2_3, x7, y3)))) := by kernel_rfl
set_option maxRecDepth 100000 in
theorem spec_DrawCostOfRun.ef (k : Nat) (l0 : List Int) : R.start Try.prog xhn spec_DrawCostOfRun.O 0 Try.f34 spec_DrawCostOfRun.fh k [.imm (.I .u8 l0)] [] = ((spec_l13Open.f l0).bind fun t1 => ((spec_l4Some.f k t1.1 t1.2).bind fun t2 => ((spec_RunOf.f k t2.1 t2.2.1 t2.2.2.1 t2.2.2.2.1 t2.2.2.2.2.1).bind fun t3 => (if t3.2 = true then ((spec_l13Rd_pick.f 3 t2.2.2.2.2.2.1 t2.2.2.2.2.2.2).bind fun t4 => (if t4.1 > 0 then (some (spec_DrawCostOfRun.en (t2.1, t2.2.1, t2.2.2.1, t2.2.2.2.1, t2.2.2.2.2.1, t3.1))) else (spec_DrawCostOfRun.x0 k t2.2.2.2.2.1 ([] : List Int) (wr64 ((t2.2.2.2.2.1.size : Int) + 1)) 0 t4.2.1 t4.2.2 t2.1 t2.2.1 t2.2.2.1 t2.2.2.2.1))) else (spec_DrawCostOfRun.x0 k t2.2.2.2.2.1 ([] : List Int) (wr64 ((t2.2.2.2.2.1.size : Int) + 1)) 0 t2.2.2.2.2.2.1 t2.2.2.2.2.2.2 t2.1 t2.2.1 t2.2.2.1 t2.2.2.2.1))))) := by kernel_rfl
theorem spec_DrawCostOfRun.link : ∀ k, (∀ (x7 : ByteArray) (y3 : List Int) (x36 : Int) (x37 : Int) (y1_0 : List Int) (y1_1 : Int) (y2_0 : Int) (y2_1 : List Int) (y2_2 : List Int) (y2_3 : List Stp), spec_DrawCostOfRun.x0 k x7 y3 x36 x37 y1_0 y1_1 y2_0 y2_1 y2_2 y2_3 = (spec_DrawCostOfRun.l0 k x7 y3 x36 x37 y1_0 y1_1 y2_0 y2_1 y2_2 y2_3).map (spec_DrawCostOfRun.en))
  | 0 => fun _ _ _ _ _ _ _ _ _ _ => by simp only [spec_DrawCostOfRun.l0, R.map_none]; rfl
  | k + 1 => by
    have ih0 := spec_DrawCostOfRun.link k
    · intro x7 y3 x36 x37 y1_0 y1_1 y2_0 y2_1 y2_2 y2_3
      rw [spec_DrawCostOfRun.e0]
      simp only [spec_DrawCostOfRun.l0, R.map_ite, R.map_bind, R.map_none, R.map_some, R.wr64_eq, ← ih0]
theorem spec_DrawCostOfRun.sf (k : Nat) (l0 : List Int) : R.start Try.prog xhn spec_DrawCostOfRun.O 0 Try.f34 spec_DrawCostOfRun.fh k [.imm (.I .u8 l0)] [] = (spec_DrawCostOfRun.f k l0).map (spec_DrawCostOfRun.en) := by
  have ih0 := spec_DrawCostOfRun.link k
  rw [spec_DrawCostOfRun.ef]
  simp only [spec_DrawCostOfRun.f, R.map_ite, R.map_bind, R.map_none, R.map_some, R.wr64_eq, ← ih0]
theorem spec_DrawCostOfRun.ok (k : Nat) : spec_DrawCostOfRun.tw.Ok Try.prog k := by
  intro a r h
  refine fn_ok (H := xhn) (fh := spec_DrawCostOfRun.fh) (O := spec_DrawCostOfRun.O) (k := k) Try.func34 (by kernel_rfl) (by kernel_rfl) (fun j _ => (Tw.orc_sound spec_l13Open.dok (spec_l13Open.ok j) (Tw.orc_sound spec_l4Some.dok (spec_l4Some.ok j) (Tw.orc_sound spec_RunOf.dok (spec_RunOf.ok j) (Tw.orc_sound spec_l13Rd_pick.dok (spec_l13Rd_pick.ok j) (Tw.orc_sound spec_l13Rd_num.dok (spec_l13Rd_num.ok j) noO_sound)))))) (by kernel_rfl) (m := 0) rfl ?_
  refine (spec_DrawCostOfRun.sf k a).trans ?_
  exact congrArg (Option.map _) h
def slices_Index_int_int.l0 : Nat → (List Int) → Int → Int → Int → Option (Int)
  | 0, _, _, _, _ => none
  | k + 1, x0, x1, x7, x8 => (if x8 < x7 then (if 0 ≤ x8 then (if x8 < (x0.length : Int) then (if x1 = (rdI x0 x8) then (some x8) else (slices_Index_int_int.l0 k x0 x1 x7 (wrap64 (x8 + 1)))) else none) else none) else (some (-1)))
def slices_Index_int_int.f (k : Nat) (l0 : List Int) (a1 : Int) : Option (Int) := (slices_Index_int_int.l0 k l0 a1 (l0.length : Int) 0)
def slices_Index_int_int.en (r : Int) : Res := (.int .i64 r, [])
def slices_Index_int_int.dec : List AV → List R.Obj → Option ((List Int) × Int)
  | [.imm (.I .i64 l0), .int .i64 a1], [] => some (l0, a1)
  | _, _ => none
def slices_Index_int_int.tw : Tw := ⟨157, (List Int) × Int, Int, slices_Index_int_int.dec, fun a => [.imm (.I .i64 a.1), .int .i64 a.2], fun a => [], fun k a => slices_Index_int_int.f k a.1 a.2, fun a r => slices_Index_int_int.en r⟩
theorem slices_Index_int_int.dok : slices_Index_int_int.tw.DecOk := by
  intro args hc a h
  have h : slices_Index_int_int.dec args hc = some a := h
  unfold slices_Index_int_int.dec at h
  split at h
  · cases h; exact ⟨rfl, rfl⟩
  · cases h
noncomputable def slices_Index_int_int.O (k : Nat) : Oracle := noO
def slices_Index_int_int.fh : FH := ⟨fun i => match i with | 2 => some [(0, 0), (1, 0), (7, 0), (8, 0)] | _ => none, [], false⟩
noncomputable def slices_Index_int_int.x0 (k : Nat) (x0 : List Int) (x1 : Int) (x7 : Int) (x8 : Int) : Option Res := R.exec Try.prog xhn slices_Index_int_int.O 0 Try.f157 slices_Index_int_int.fh k (R.point Try.f157 2) ⟨[(0, .imm (.I .i64 x0)), (1, .int .i64 x1), (7, .int .i64 x7), (8, .int .i64 x8)], [], 2⟩
set_option maxRecDepth 100000 in
theorem slices_Index_int_int.e0 (k : Nat) (x0 : List Int) (x1 : Int) (x7 : Int) (x8 : Int) : slices_Index_int_int.x0 (k + 1) x0 x1 x7 x8 = (if x8 < x7 then (if 0 ≤ x8 then (if x8 < (x0.length : Int) then (if x1 = (rdI x0 x8) then (some (slices_Index_int_int.en x8)) else (slices_Index_int_int.x0 k x0 x1 x7 (wr64 (x8 + 1)))) else none) else none) else (some (slices_Index_int_int.en (-1)))) := by kernel_rfl
set_option maxRecDepth 100000 in
theorem slices_Index_int_int.ef (k : Nat) (l0 : List Int) (a1 : Int) : R.start Try.prog xhn slices_Index_int_int.O 0 Try.f157 slices_Index_int_int.fh k [.imm (.I .i64 l0), .int .i64 a1] [] = (slices_Index_int_int.x0 k l0 a1 (l0.length : Int) 0) := by kernel_rfl
theorem slices_Index_int_int.link : ∀ k, (∀ (x0 : List Int) (x1 : Int) (x7 : Int) (x8 : Int), slices_Index_int_int.x0 k x0 x1 x7 x8 = (slices_Index_int_int.l0 k x0 x1 x7 x8).map (slices_Index_int_int.en))
  | 0 => fun _ _ _ _ => by simp only [slices_Index_int_int.l0, R.map_none]; rfl
  | k + 1 => by
    have ih0 := slices_Index_int_int.link k
    · intro x0 x1 x7 x8
      rw [slices_Index_int_int.e0]
      simp only [slices_Index_int_int.l0, R.map_ite, R.map_bind, R.map_none, R.map_some, R.wr64_eq, ← ih0]
theorem slices_Index_int_int.sf (k : Nat) (l0 : List Int) (a1 : Int) : R.start Try.prog xhn slices_Index_int_int.O 0 Try.f157 slices_Index_int_int.fh k [.imm (.I .i64 l0), .int .i64 a1] [] = (slices_Index_int_int.f k l0 a1).map (slices_Index_int_int.en) := by
  have ih0 := slices_Index_int_int.link k
  rw [slices_Index_int_int.ef]
  simp only [slices_Index_int_int.f, R.map_ite, R.map_bind, R.map_none, R.map_some, R.wr64_eq, ← ih0]
theorem slices_Index_int_int.ok (k : Nat) : slices_Index_int_int.tw.Ok Try.prog k := by
  intro a r h
  refine fn_ok (H := xhn) (fh := slices_Index_int_int.fh) (O := slices_Index_int_int.O) (k := k) Try.func157 (by kernel_rfl) (by kernel_rfl) (fun j _ => noO_sound) (by kernel_rfl) (m := 0) rfl ?_
  refine (slices_Index_int_int.sf k a.1 a.2).trans ?_
  exact congrArg (Option.map _) h
def slices_Contains_int_int.f (k : Nat) (l0 : List Int) (a1 : Int) : Option (Bool) := ((slices_Index_int_int.f k l0 a1).bind fun t1 => (some (decide (t1 ≥ 0))))
def slices_Contains_int_int.en (r : Bool) : Res := (.lit r, [])
def slices_Contains_int_int.dec : List AV → List R.Obj → Option ((List Int) × Int)
  | [.imm (.I .i64 l0), .int .i64 a1], [] => some (l0, a1)
  | _, _ => none
def slices_Contains_int_int.tw : Tw := ⟨100, (List Int) × Int, Bool, slices_Contains_int_int.dec, fun a => [.imm (.I .i64 a.1), .int .i64 a.2], fun a => [], fun k a => slices_Contains_int_int.f k a.1 a.2, fun a r => slices_Contains_int_int.en r⟩
theorem slices_Contains_int_int.dok : slices_Contains_int_int.tw.DecOk := by
  intro args hc a h
  have h : slices_Contains_int_int.dec args hc = some a := h
  unfold slices_Contains_int_int.dec at h
  split at h
  · cases h; exact ⟨rfl, rfl⟩
  · cases h
noncomputable def slices_Contains_int_int.O (k : Nat) : Oracle := (slices_Index_int_int.tw.orc k noO)
def slices_Contains_int_int.fh : FH := ⟨fun i => match i with | _ => none, [], false⟩
set_option maxRecDepth 100000 in
theorem slices_Contains_int_int.ef (k : Nat) (l0 : List Int) (a1 : Int) : R.start Try.prog xhn slices_Contains_int_int.O 0 Try.f100 slices_Contains_int_int.fh k [.imm (.I .i64 l0), .int .i64 a1] [] = ((slices_Index_int_int.f k l0 a1).bind fun t1 => (some (slices_Contains_int_int.en (decide (t1 ≥ 0))))) := by kernel_rfl
theorem slices_Contains_int_int.sf (k : Nat) (l0 : List Int) (a1 : Int) : R.start Try.prog xhn slices_Contains_int_int.O 0 Try.f100 slices_Contains_int_int.fh k [.imm (.I .i64 l0), .int .i64 a1] [] = (slices_Contains_int_int.f k l0 a1).map (slices_Contains_int_int.en) := by
  rw [slices_Contains_int_int.ef]
  simp only [slices_Contains_int_int.f, R.map_ite, R.map_bind, R.map_none, R.map_some, R.wr64_eq]
theorem slices_Contains_int_int.ok (k : Nat) : slices_Contains_int_int.tw.Ok Try.prog k := by
  intro a r h
  refine fn_ok (H := xhn) (fh := slices_Contains_int_int.fh) (O := slices_Contains_int_int.O) (k := k) Try.func100 (by kernel_rfl) (by kernel_rfl) (fun j _ => (Tw.orc_sound slices_Index_int_int.dok (slices_Index_int_int.ok j) noO_sound)) (by kernel_rfl) (m := 0) rfl ?_
  refine (slices_Contains_int_int.sf k a.1 a.2).trans ?_
  exact congrArg (Option.map _) h
def impl_CostOfRun_1.f (a0_0 : Int) (a0_1 : ByteArray) (a0_2 : Int) (a0_3 : Int) (l4_0 : List Int) (a5_0 : Int) (a6_0 : ByteArray) : Option (Bool) := (if 0 ≤ a5_0 then (if a5_0 < (l4_0.length : Int) then (if a0_0 = (rdI l4_0 a5_0) then (if a5_0 ≤ (wrap64 (a5_0 + 1)) then (if (wrap64 (a5_0 + 1)) ≤ (a6_0.size : Int) then (if a0_1.toList = (a6_0.extract a5_0.toNat (wrap64 (a5_0 + 1)).toNat).toList then (if 0 ≤ (wrap64 (a5_0 + 1)) then (if (wrap64 (a5_0 + 1)) < (l4_0.length : Int) then (some (decide (a0_2 = (rdI l4_0 (wrap64 (a5_0 + 1)))))) else none) else none) else (some false)) else none) else none) else (some false)) else none) else none)
def impl_CostOfRun_1.en (l4_0 : List Int) (a5_0 : Int) (a6_0 : ByteArray) (r : Bool) : Res := (.lit r, [.box true [.imm (.I .i64 l4_0)], .box true [.int .i64 a5_0], .box true [.str a6_0]])
def impl_CostOfRun_1.dec : List AV → List R.Obj → Option (Int × ByteArray × Int × Int × (List Int) × Int × ByteArray)
  | [.agg [.int .i64 a0_0, .str a0_1, .int .i64 a0_2, .int .i64 a0_3], .ptr 0 0, .ptr 1 0, .ptr 2 0], [.box true [.imm (.I .i64 l4_0)], .box true [.int .i64 a5_0], .box true [.str a6_0]] => some (a0_0, a0_1, a0_2, a0_3, l4_0, a5_0, a6_0)
  | _, _ => none
def impl_CostOfRun_1.tw : Tw := ⟨102, Int × ByteArray × Int × Int × (List Int) × Int × ByteArray, Bool, impl_CostOfRun_1.dec, fun a => [.agg [.int .i64 a.1, .str a.2.1, .int .i64 a.2.2.1, .int .i64 a.2.2.2.1], .ptr 0 0, .ptr 1 0, .ptr 2 0], fun a => [.box true [.imm (.I .i64 a.2.2.2.2.1)], .box true [.int .i64 a.2.2.2.2.2.1], .box true [.str a.2.2.2.2.2.2]], fun k a => impl_CostOfRun_1.f a.1 a.2.1 a.2.2.1 a.2.2.2.1 a.2.2.2.2.1 a.2.2.2.2.2.1 a.2.2.2.2.2.2, fun a r => impl_CostOfRun_1.en a.2.2.2.2.1 a.2.2.2.2.2.1 a.2.2.2.2.2.2 r⟩
theorem impl_CostOfRun_1.dok : impl_CostOfRun_1.tw.DecOk := by
  intro args hc a h
  have h : impl_CostOfRun_1.dec args hc = some a := h
  unfold impl_CostOfRun_1.dec at h
  split at h
  · cases h; exact ⟨rfl, rfl⟩
  · cases h
noncomputable def impl_CostOfRun_1.O (k : Nat) : Oracle := noO
def impl_CostOfRun_1.fh : FH := ⟨fun i => match i with | _ => none, [], false⟩
set_option maxRecDepth 100000 in
theorem impl_CostOfRun_1.ef (k : Nat) (a0_0 : Int) (a0_1 : ByteArray) (a0_2 : Int) (a0_3 : Int) (l4_0 : List Int) (a5_0 : Int) (a6_0 : ByteArray) : R.start Try.prog xhn impl_CostOfRun_1.O 3 Try.f102 impl_CostOfRun_1.fh k [.agg [.int .i64 a0_0, .str a0_1, .int .i64 a0_2, .int .i64 a0_3], .ptr 0 0, .ptr 1 0, .ptr 2 0] [.box true [.imm (.I .i64 l4_0)], .box true [.int .i64 a5_0], .box true [.str a6_0]] = (if 0 ≤ a5_0 then (if a5_0 < (l4_0.length : Int) then (if a0_0 = (rdI l4_0 a5_0) then (if a5_0 ≤ (wr64 (a5_0 + 1)) then (if (wr64 (a5_0 + 1)) ≤ (a6_0.size : Int) then (if a0_1.toList = (a6_0.extract a5_0.toNat (wr64 (a5_0 + 1)).toNat).toList then (if 0 ≤ (wr64 (a5_0 + 1)) then (if (wr64 (a5_0 + 1)) < (l4_0.length : Int) then (some (impl_CostOfRun_1.en l4_0 a5_0 a6_0 (decide (a0_2 = (rdI l4_0 (wr64 (a5_0 + 1))))))) else none) else none) else (some (impl_CostOfRun_1.en l4_0 a5_0 a6_0 false))) else none) else none) else (some (impl_CostOfRun_1.en l4_0 a5_0 a6_0 false))) else none) else none) := by
  refine Eq.trans ?_ (R.icong (fun h0 => (R.icong (fun h1 => (R.icong (fun h2 => (R.idropT (p := 0 ≤ a5_0) (z := none) h0 rfl)) (fun h2 => rfl))) (fun h1 => rfl))) (fun h0 => rfl))
  kernel_rfl
theorem impl_CostOfRun_1.sf (k : Nat) (a0_0 : Int) (a0_1 : ByteArray) (a0_2 : Int) (a0_3 : Int) (l4_0 : List Int) (a5_0 : Int) (a6_0 : ByteArray) : R.start Try.prog xhn impl_CostOfRun_1.O 3 Try.f102 impl_CostOfRun_1.fh k [.agg [.int .i64 a0_0, .str a0_1, .int .i64 a0_2, .int .i64 a0_3], .ptr 0 0, .ptr 1 0, .ptr 2 0] [.box true [.imm (.I .i64 l4_0)], .box true [.int .i64 a5_0], .box true [.str a6_0]] = (impl_CostOfRun_1.f a0_0 a0_1 a0_2 a0_3 l4_0 a5_0 a6_0).map (impl_CostOfRun_1.en l4_0 a5_0 a6_0) := by
  rw [impl_CostOfRun_1.ef]
  simp only [impl_CostOfRun_1.f, R.map_ite, R.map_bind, R.map_none, R.map_some, R.wr64_eq]
theorem impl_CostOfRun_1.ok (k : Nat) : impl_CostOfRun_1.tw.Ok Try.prog k := by
  intro a r h
  refine fn_ok (H := xhn) (fh := impl_CostOfRun_1.fh) (O := impl_CostOfRun_1.O) (k := k) Try.func102 (by kernel_rfl) (by kernel_rfl) (fun j _ => noO_sound) (by kernel_rfl) (m := 3) rfl ?_
  refine (impl_CostOfRun_1.sf k a.1 a.2.1 a.2.2.1 a.2.2.2.1 a.2.2.2.2.1 a.2.2.2.2.2.1 a.2.2.2.2.2.2).trans ?_
  exact congrArg (Option.map _) h
def slices_IndexFunc_impl_Step_impl_Step.l0 : Nat → (List Stp) → Int → Int → (List Int) → Int → ByteArray → Option (Int)
  | 0, _, _, _, _, _, _ => none
  | k + 1, x0, x7, x8, y0_0, y1_0, y2_0 => (if x8 < x7 then (if 0 ≤ x8 then (if x8 < (x0.length : Int) then ((impl_CostOfRun_1.f ((rdT x0 x8).f0) ((rdT x0 x8).f1) ((rdT x0 x8).f2) ((rdT x0 x8).f3) y0_0 y1_0 y2_0).bind fun t1 => (if t1 = true then (some x8) else (slices_IndexFunc_impl_Step_impl_Step.l0 k x0 x7 (wrap64 (x8 + 1)) y0_0 y1_0 y2_0))) else none) else none) else (some (-1)))
def slices_IndexFunc_impl_Step_impl_Step.f (k : Nat) (l0 : List Stp) (l2_0 : List Int) (a3_0 : Int) (a4_0 : ByteArray) : Option (Int) := (slices_IndexFunc_impl_Step_impl_Step.l0 k l0 (l0.length : Int) 0 l2_0 a3_0 a4_0)
def slices_IndexFunc_impl_Step_impl_Step.en (l2_0 : List Int) (a3_0 : Int) (a4_0 : ByteArray) (r : Int) : Res := (.int .i64 r, [.box true [.imm (.I .i64 l2_0)], .box true [.int .i64 a3_0], .box true [.str a4_0]])
def slices_IndexFunc_impl_Step_impl_Step.dec : List AV → List R.Obj → Option ((List Stp) × (List Int) × Int × ByteArray)
  | [.imm (.T l0), .clo 102 [.ptr 0 0, .ptr 1 0, .ptr 2 0]], [.box true [.imm (.I .i64 l2_0)], .box true [.int .i64 a3_0], .box true [.str a4_0]] => some (l0, l2_0, a3_0, a4_0)
  | _, _ => none
def slices_IndexFunc_impl_Step_impl_Step.tw : Tw := ⟨101, (List Stp) × (List Int) × Int × ByteArray, Int, slices_IndexFunc_impl_Step_impl_Step.dec, fun a => [.imm (.T a.1), .clo 102 [.ptr 0 0, .ptr 1 0, .ptr 2 0]], fun a => [.box true [.imm (.I .i64 a.2.1)], .box true [.int .i64 a.2.2.1], .box true [.str a.2.2.2]], fun k a => slices_IndexFunc_impl_Step_impl_Step.f k a.1 a.2.1 a.2.2.1 a.2.2.2, fun a r => slices_IndexFunc_impl_Step_impl_Step.en a.2.1 a.2.2.1 a.2.2.2 r⟩
theorem slices_IndexFunc_impl_Step_impl_Step.dok : slices_IndexFunc_impl_Step_impl_Step.tw.DecOk := by
  intro args hc a h
  have h : slices_IndexFunc_impl_Step_impl_Step.dec args hc = some a := h
  unfold slices_IndexFunc_impl_Step_impl_Step.dec at h
  split at h
  · cases h; exact ⟨rfl, rfl⟩
  · cases h
noncomputable def slices_IndexFunc_impl_Step_impl_Step.O (k : Nat) : Oracle := (impl_CostOfRun_1.tw.orc k noO)
def slices_IndexFunc_impl_Step_impl_Step.fh : FH := ⟨fun i => match i with | 2 => some [(0, 0), (1, 0), (7, 0), (8, 0)] | _ => none, [], false⟩
noncomputable def slices_IndexFunc_impl_Step_impl_Step.x0 (k : Nat) (x0 : List Stp) (x7 : Int) (x8 : Int) (y0_0 : List Int) (y1_0 : Int) (y2_0 : ByteArray) : Option Res := R.exec Try.prog xhn slices_IndexFunc_impl_Step_impl_Step.O 3 Try.f101 slices_IndexFunc_impl_Step_impl_Step.fh k (R.point Try.f101 2) ⟨[(0, .imm (.T x0)), (1, .clo 102 [.ptr 0 0, .ptr 1 0, .ptr 2 0]), (7, .int .i64 x7), (8, .int .i64 x8)], [(0, .box true [.imm (.I .i64 y0_0)]), (1, .box true [.int .i64 y1_0]), (2, .box true [.str y2_0])], 5⟩
set_option maxRecDepth 100000 in
theorem slices_IndexFunc_impl_Step_impl_Step.e0 (k : Nat) (x0 : List Stp) (x7 : Int) (x8 : Int) (y0_0 : List Int) (y1_0 : Int) (y2_0 : ByteArray) : slices_IndexFunc_impl_Step_impl_Step.x0 (k + 1) x0 x7 x8 y0_0 y1_0 y2_0 = (if x8 < x7 then (if 0 ≤ x8 then (if x8 < (x0.length : Int) then ((impl_CostOfRun_1.f ((rdT x0 x8).f0) ((rdT x0 x8).f1) ((rdT x0 x8).f2) ((rdT x0 x8).f3) y0_0 y1_0 y2_0).bind fun t1 => (if t1 = true then (some (slices_IndexFunc_impl_Step_impl_Step.en y0_0 y1_0 y2_0 x8)) else (slices_IndexFunc_impl_Step_impl_Step.x0 k x0 x7 (wr64 (x8 + 1)) y0_0 y1_0 y2_0))) else none) else none) else (some (slices_IndexFunc_impl_Step_impl_Step.en y0_0 y1_0 y2_0 (-1)))) := by kernel_rfl
set_option maxRecDepth 100000 in
theorem slices_IndexFunc_impl_Step_impl_Step.ef (k : Nat) (l0 : List Stp) (l2_0 : List Int) (a3_0 : Int) (a4_0 : ByteArray) : R.start Try.prog xhn slices_IndexFunc_impl_Step_impl_Step.O 3 Try.f101 slices_IndexFunc_impl_Step_impl_Step.fh k [.imm (.T l0), .clo 102 [.ptr 0 0, .ptr 1 0, .ptr 2 0]] [.box true [.imm (.I .i64 l2_0)], .box true [.int .i64 a3_0], .box true [.str a4_0]] = (slices_IndexFunc_impl_Step_impl_Step.x0 k l0 (l0.length : Int) 0 l2_0 a3_0 a4_0) := by kernel_rfl
theorem slices_IndexFunc_impl_Step_impl_Step.link : ∀ k, (∀ (x0 : List Stp) (x7 : Int) (x8 : Int) (y0_0 : List Int) (y1_0 : Int) (y2_0 : ByteArray), slices_IndexFunc_impl_Step_impl_Step.x0 k x0 x7 x8 y0_0 y1_0 y2_0 = (slices_IndexFunc_impl_Step_impl_Step.l0 k x0 x7 x8 y0_0 y1_0 y2_0).map (slices_IndexFunc_impl_Step_impl_Step.en y0_0 y1_0 y2_0))
  | 0 => fun _ _ _ _ _ _ => by simp only [slices_IndexFunc_impl_Step_impl_Step.l0, R.map_none]; rfl
  | k + 1 => by
    have ih0 := slices_IndexFunc_impl_Step_impl_Step.link k
    · intro x0 x7 x8 y0_0 y1_0 y2_0
      rw [slices_IndexFunc_impl_Step_impl_Step.e0]
      simp only [slices_IndexFunc_impl_Step_impl_Step.l0, R.map_ite, R.map_bind, R.map_none, R.map_some, R.wr64_eq, ← ih0]
theorem slices_IndexFunc_impl_Step_impl_Step.sf (k : Nat) (l0 : List Stp) (l2_0 : List Int) (a3_0 : Int) (a4_0 : ByteArray) : R.start Try.prog xhn slices_IndexFunc_impl_Step_impl_Step.O 3 Try.f101 slices_IndexFunc_impl_Step_impl_Step.fh k [.imm (.T l0), .clo 102 [.ptr 0 0, .ptr 1 0, .ptr 2 0]] [.box true [.imm (.I .i64 l2_0)], .box true [.int .i64 a3_0], .box true [.str a4_0]] = (slices_IndexFunc_impl_Step_impl_Step.f k l0 l2_0 a3_0 a4_0).map (slices_IndexFunc_impl_Step_impl_Step.en l2_0 a3_0 a4_0) := by
  have ih0 := slices_IndexFunc_impl_Step_impl_Step.link k
  rw [slices_IndexFunc_impl_Step_impl_Step.ef]
  simp only [slices_IndexFunc_impl_Step_impl_Step.f, R.map_ite, R.map_bind, R.map_none, R.map_some, R.wr64_eq, ← ih0]
theorem slices_IndexFunc_impl_Step_impl_Step.ok (k : Nat) : slices_IndexFunc_impl_Step_impl_Step.tw.Ok Try.prog k := by
  intro a r h
  refine fn_ok (H := xhn) (fh := slices_IndexFunc_impl_Step_impl_Step.fh) (O := slices_IndexFunc_impl_Step_impl_Step.O) (k := k) Try.func101 (by kernel_rfl) (by kernel_rfl) (fun j _ => (Tw.orc_sound impl_CostOfRun_1.dok (impl_CostOfRun_1.ok j) noO_sound)) (by kernel_rfl) (m := 3) rfl ?_
  refine (slices_IndexFunc_impl_Step_impl_Step.sf k a.1 a.2.1 a.2.2.1 a.2.2.2).trans ?_
  exact congrArg (Option.map _) h
def impl_CostOfRun.l0 : Nat → Int → Int → Int → Int → (List Int) → (List Int) → (List Stp) → ByteArray → (List Int) → Option (Int)
  | 0, _, _, _, _, _, _, _, _, _ => none
  | k + 1, x7, x47, x48, y0_0, y0_1, y0_2, y0_3, y1_0, y2_0 => (if x48 < x47 then ((slices_IndexFunc_impl_Step_impl_Step.f k y0_3 y2_0 x48 y1_0).bind fun t5 => (if t5 < 0 then (some (-1)) else (if 0 ≤ t5 then (if t5 < (y0_3.length : Int) then (impl_CostOfRun.l0 k (wrap64 (x7 + (rdT y0_3 t5).f3)) x47 (wrap64 (x48 + 1)) y0_0 y0_1 y0_2 y0_3 y1_0 y2_0) else none) else none))) else (some x7))
def impl_CostOfRun.f (k : Nat) (a0_0 : Int) (l0_1 : List Int) (l0_2 : List Int) (l0_3 : List Stp) (a1 : ByteArray) (l2 : List Int) : Option (Int) := ((impl_AutomatonValid.f k a0_0 l0_1 l0_2 l0_3).bind fun t1 => (if t1 = true then ((impl_WordValid.f k a1).bind fun t2 => (if t2 = true then (if (l2.length : Int) = (wrap64 ((a1.size : Int) + 1)) then (if 0 < (l2.length : Int) then ((slices_Contains_int_int.f k l0_1 (rdI l2 0)).bind fun t3 => (if t3 = true then (if 0 ≤ (a1.size : Int) then (if (a1.size : Int) < (l2.length : Int) then ((slices_Contains_int_int.f k l0_2 (rdI l2 (a1.size : Int))).bind fun t4 => (if t4 = true then (impl_CostOfRun.l0 k 0 (a1.size : Int) 0 a0_0 l0_1 l0_2 l0_3 a1 l2) else (some (-1)))) else none) else none) else (some (-1)))) else none) else (some (-1))) else (some (-1)))) else (some (-1))))
def impl_CostOfRun.en (r : Int) : Res := (.int .i64 r, [])
def impl_CostOfRun.dec : List AV → List R.Obj → Option (Int × (List Int) × (List Int) × (List Stp) × ByteArray × (List Int))
  | [.agg [.int .i64 a0_0, .imm (.I .i64 l0_1), .imm (.I .i64 l0_2), .imm (.T l0_3)], .str a1, .imm (.I .i64 l2)], [] => some (a0_0, l0_1, l0_2, l0_3, a1, l2)
  | _, _ => none
def impl_CostOfRun.tw : Tw := ⟨35, Int × (List Int) × (List Int) × (List Stp) × ByteArray × (List Int), Int, impl_CostOfRun.dec, fun a => [.agg [.int .i64 a.1, .imm (.I .i64 a.2.1), .imm (.I .i64 a.2.2.1), .imm (.T a.2.2.2.1)], .str a.2.2.2.2.1, .imm (.I .i64 a.2.2.2.2.2)], fun a => [], fun k a => impl_CostOfRun.f k a.1 a.2.1 a.2.2.1 a.2.2.2.1 a.2.2.2.2.1 a.2.2.2.2.2, fun a r => impl_CostOfRun.en r⟩
theorem impl_CostOfRun.dok : impl_CostOfRun.tw.DecOk := by
  intro args hc a h
  have h : impl_CostOfRun.dec args hc = some a := h
  unfold impl_CostOfRun.dec at h
  split at h
  · cases h; exact ⟨rfl, rfl⟩
  · cases h
noncomputable def impl_CostOfRun.O (k : Nat) : Oracle := (impl_AutomatonValid.tw.orc k (impl_WordValid.tw.orc k (slices_Contains_int_int.tw.orc k (slices_IndexFunc_impl_Step_impl_Step.tw.orc k noO))))
def impl_CostOfRun.fh : FH := ⟨fun i => match i with | 5 => some [(3, 0), (4, 0), (5, 0), (7, 0), (47, 0), (48, 0)] | _ => none, [], false⟩
noncomputable def impl_CostOfRun.x0 (k : Nat) (x7 : Int) (x47 : Int) (x48 : Int) (y0_0 : Int) (y0_1 : List Int) (y0_2 : List Int) (y0_3 : List Stp) (y1_0 : ByteArray) (y2_0 : List Int) : Option Res := R.exec Try.prog xhn impl_CostOfRun.O 0 Try.f35 impl_CostOfRun.fh k (R.point Try.f35 5) ⟨[(3, .ptr 0 0), (4, .ptr 1 0), (5, .ptr 2 0), (7, .int .i64 x7), (47, .int .i64 x47), (48, .int .i64 x48)], [(0, .box false [.int .i64 y0_0, .imm (.I .i64 y0_1), .imm (.I .i64 y0_2), .imm (.T y0_3)]), (1, .box false [.str y1_0]), (2, .box false [.imm (.I .i64 y2_0)])], 5⟩
set_option maxRecDepth 100000 in
theorem impl_CostOfRun.e0 (k : Nat) (x7 : Int) (x47 : Int) (x48 : Int) (y0_0 : Int) (y0_1 : List Int) (y0_2 : List Int) (y0_3 : List Stp) (y1_0 : ByteArray) (y2_0 : List Int) : impl_CostOfRun.x0 (k + 1) x7 x47 x48 y0_0 y0_1 y0_2 y0_3 y1_0 y2_0 = (if x48 < x47 then ((slices_IndexFunc_impl_Step_impl_Step.f k y0_3 y2_0 x48 y1_0).bind fun t5 => (if t5 < 0 then (some (impl_CostOfRun.en (-1))) else (if 0 ≤ t5 then (if t5 < (y0_3.length : Int) then (impl_CostOfRun.x0 k (wr64 (x7 + (rdT y0_3 t5).f3)) x47 (wr64 (x48 + 1)) y0_0 y0_1 y0_2 y0_3 y1_0 y2_0) else none) else none))) else (some (impl_CostOfRun.en x7))) := by kernel_rfl
set_option maxRecDepth 100000 in
theorem impl_CostOfRun.ef (k : Nat) (a0_0 : Int) (l0_1 : List Int) (l0_2 : List Int) (l0_3 : List Stp) (a1 : ByteArray) (l2 : List Int) : R.start Try.prog xhn impl_CostOfRun.O 0 Try.f35 impl_CostOfRun.fh k [.agg [.int .i64 a0_0, .imm (.I .i64 l0_1), .imm (.I .i64 l0_2), .imm (.T l0_3)], .str a1, .imm (.I .i64 l2)] [] = ((impl_AutomatonValid.f k a0_0 l0_1 l0_2 l0_3).bind fun t1 => (if t1 = true then ((impl_WordValid.f k a1).bind fun t2 => (if t2 = true then (if (l2.length : Int) = (wr64 ((a1.size : Int) + 1)) then (if 0 < (l2.length : Int) then ((slices_Contains_int_int.f k l0_1 (rdI l2 0)).bind fun t3 => (if t3 = true then (if 0 ≤ (a1.size : Int) then (if (a1.size : Int) < (l2.length : Int) then ((slices_Contains_int_int.f k l0_2 (rdI l2 (a1.size : Int))).bind fun t4 => (if t4 = true then (impl_CostOfRun.x0 k 0 (a1.size : Int) 0 a0_0 l0_1 l0_2 l0_3 a1 l2) else (some (impl_CostOfRun.en (-1))))) else none) else none) else (some (impl_CostOfRun.en (-1))))) else none) else (some (impl_CostOfRun.en (-1)))) else (some (impl_CostOfRun.en (-1))))) else (some (impl_CostOfRun.en (-1))))) := by kernel_rfl
theorem impl_CostOfRun.link : ∀ k, (∀ (x7 : Int) (x47 : Int) (x48 : Int) (y0_0 : Int) (y0_1 : List Int) (y0_2 : List Int) (y0_3 : List Stp) (y1_0 : ByteArray) (y2_0 : List Int), impl_CostOfRun.x0 k x7 x47 x48 y0_0 y0_1 y0_2 y0_3 y1_0 y2_0 = (impl_CostOfRun.l0 k x7 x47 x48 y0_0 y0_1 y0_2 y0_3 y1_0 y2_0).map (impl_CostOfRun.en))
  | 0 => fun _ _ _ _ _ _ _ _ _ => by simp only [impl_CostOfRun.l0, R.map_none]; rfl
  | k + 1 => by
    have ih0 := impl_CostOfRun.link k
    · intro x7 x47 x48 y0_0 y0_1 y0_2 y0_3 y1_0 y2_0
      rw [impl_CostOfRun.e0]
      simp only [impl_CostOfRun.l0, R.map_ite, R.map_bind, R.map_none, R.map_some, R.wr64_eq, ← ih0]
theorem impl_CostOfRun.sf (k : Nat) (a0_0 : Int) (l0_1 : List Int) (l0_2 : List Int) (l0_3 : List Stp) (a1 : ByteArray) (l2 : List Int) : R.start Try.prog xhn impl_CostOfRun.O 0 Try.f35 impl_CostOfRun.fh k [.agg [.int .i64 a0_0, .imm (.I .i64 l0_1), .imm (.I .i64 l0_2), .imm (.T l0_3)], .str a1, .imm (.I .i64 l2)] [] = (impl_CostOfRun.f k a0_0 l0_1 l0_2 l0_3 a1 l2).map (impl_CostOfRun.en) := by
  have ih0 := impl_CostOfRun.link k
  rw [impl_CostOfRun.ef]
  simp only [impl_CostOfRun.f, R.map_ite, R.map_bind, R.map_none, R.map_some, R.wr64_eq, ← ih0]
theorem impl_CostOfRun.ok (k : Nat) : impl_CostOfRun.tw.Ok Try.prog k := by
  intro a r h
  refine fn_ok (H := xhn) (fh := impl_CostOfRun.fh) (O := impl_CostOfRun.O) (k := k) Try.func35 (by kernel_rfl) (by kernel_rfl) (fun j _ => (Tw.orc_sound impl_AutomatonValid.dok (impl_AutomatonValid.ok j) (Tw.orc_sound impl_WordValid.dok (impl_WordValid.ok j) (Tw.orc_sound slices_Contains_int_int.dok (slices_Contains_int_int.ok j) (Tw.orc_sound slices_IndexFunc_impl_Step_impl_Step.dok (slices_IndexFunc_impl_Step_impl_Step.ok j) noO_sound))))) (by kernel_rfl) (m := 0) rfl ?_
  refine (impl_CostOfRun.sf k a.1 a.2.1 a.2.2.1 a.2.2.2.1 a.2.2.2.2.1 a.2.2.2.2.2).trans ?_
  exact congrArg (Option.map _) h
def spec_l4In.l0 : Nat → Int → (List Int) → Int → Int → Option (Bool)
  | 0, _, _, _, _ => none
  | k + 1, x1, x7, x8, x9 => (if x9 < x8 then (if 0 ≤ x9 then (if x9 < (x7.length : Int) then (if (rdI x7 x9) = x1 then (some true) else (spec_l4In.l0 k x1 x7 x8 (wrap64 (x9 + 1)))) else none) else none) else (some false))
def spec_l4In.f (k : Nat) (l0 : List Int) (a1 : Int) : Option (Bool) := (spec_l4In.l0 k a1 l0 (l0.length : Int) 0)
def spec_l4In.en (r : Bool) : Res := (.lit r, [])
def spec_l4In.dec : List AV → List R.Obj → Option ((List Int) × Int)
  | [.imm (.I .i64 l0), .int .i64 a1], [] => some (l0, a1)
  | _, _ => none
def spec_l4In.tw : Tw := ⟨103, (List Int) × Int, Bool, spec_l4In.dec, fun a => [.imm (.I .i64 a.1), .int .i64 a.2], fun a => [], fun k a => spec_l4In.f k a.1 a.2, fun a r => spec_l4In.en r⟩
theorem spec_l4In.dok : spec_l4In.tw.DecOk := by
  intro args hc a h
  have h : spec_l4In.dec args hc = some a := h
  unfold spec_l4In.dec at h
  split at h
  · cases h; exact ⟨rfl, rfl⟩
  · cases h
noncomputable def spec_l4In.O (k : Nat) : Oracle := noO
def spec_l4In.fh : FH := ⟨fun i => match i with | 2 => some [(1, 0), (7, 0), (8, 0), (9, 0)] | _ => none, [], false⟩
noncomputable def spec_l4In.x0 (k : Nat) (x1 : Int) (x7 : List Int) (x8 : Int) (x9 : Int) : Option Res := R.exec Try.prog xhn spec_l4In.O 0 Try.f103 spec_l4In.fh k (R.point Try.f103 2) ⟨[(1, .int .i64 x1), (7, .imm (.I .i64 x7)), (8, .int .i64 x8), (9, .int .i64 x9)], [], 2⟩
set_option maxRecDepth 100000 in
theorem spec_l4In.e0 (k : Nat) (x1 : Int) (x7 : List Int) (x8 : Int) (x9 : Int) : spec_l4In.x0 (k + 1) x1 x7 x8 x9 = (if x9 < x8 then (if 0 ≤ x9 then (if x9 < (x7.length : Int) then (if (rdI x7 x9) = x1 then (some (spec_l4In.en true)) else (spec_l4In.x0 k x1 x7 x8 (wr64 (x9 + 1)))) else none) else none) else (some (spec_l4In.en false))) := by kernel_rfl
set_option maxRecDepth 100000 in
theorem spec_l4In.ef (k : Nat) (l0 : List Int) (a1 : Int) : R.start Try.prog xhn spec_l4In.O 0 Try.f103 spec_l4In.fh k [.imm (.I .i64 l0), .int .i64 a1] [] = (spec_l4In.x0 k a1 l0 (l0.length : Int) 0) := by kernel_rfl
theorem spec_l4In.link : ∀ k, (∀ (x1 : Int) (x7 : List Int) (x8 : Int) (x9 : Int), spec_l4In.x0 k x1 x7 x8 x9 = (spec_l4In.l0 k x1 x7 x8 x9).map (spec_l4In.en))
  | 0 => fun _ _ _ _ => by simp only [spec_l4In.l0, R.map_none]; rfl
  | k + 1 => by
    have ih0 := spec_l4In.link k
    · intro x1 x7 x8 x9
      rw [spec_l4In.e0]
      simp only [spec_l4In.l0, R.map_ite, R.map_bind, R.map_none, R.map_some, R.wr64_eq, ← ih0]
theorem spec_l4In.sf (k : Nat) (l0 : List Int) (a1 : Int) : R.start Try.prog xhn spec_l4In.O 0 Try.f103 spec_l4In.fh k [.imm (.I .i64 l0), .int .i64 a1] [] = (spec_l4In.f k l0 a1).map (spec_l4In.en) := by
  have ih0 := spec_l4In.link k
  rw [spec_l4In.ef]
  simp only [spec_l4In.f, R.map_ite, R.map_bind, R.map_none, R.map_some, R.wr64_eq, ← ih0]
theorem spec_l4In.ok (k : Nat) : spec_l4In.tw.Ok Try.prog k := by
  intro a r h
  refine fn_ok (H := xhn) (fh := spec_l4In.fh) (O := spec_l4In.O) (k := k) Try.func103 (by kernel_rfl) (by kernel_rfl) (fun j _ => noO_sound) (by kernel_rfl) (m := 0) rfl ?_
  refine (spec_l4In.sf k a.1 a.2).trans ?_
  exact congrArg (Option.map _) h
mutual
def spec_CostOfRun.l0 : Nat → ByteArray → (List Int) → Int → Int → Int → Int → (List Int) → (List Int) → (List Stp) → Option (Int)
  | 0, _, _, _, _, _, _, _, _, _ => none
  | k + 1, x1, x2, x7, x45, x46, y0_0, y0_1, y0_2, y0_3 => (if x46 < x45 then (spec_CostOfRun.l1 k x1 x2 x7 x46 false x45 x46 y0_3 (y0_3.length : Int) 0 y0_0 y0_1 y0_2 y0_3) else (some x7))
def spec_CostOfRun.l1 : Nat → ByteArray → (List Int) → Int → Int → Bool → Int → Int → (List Stp) → Int → Int → Int → (List Int) → (List Int) → (List Stp) → Option (Int)
  | 0, _, _, _, _, _, _, _, _, _, _, _, _, _, _ => none
  | k + 1, x1, x2, x7, x8, x9, x45, x46, x50, x51, x52, y0_0, y0_1, y0_2, y0_3 => (if x52 < x51 then (if 0 ≤ x52 then (if x52 < (x50.length : Int) then (if 0 ≤ x8 then (if x8 < (x2.length : Int) then (if (rdT x50 x52).f0 = (rdI x2 x8) then (if x8 ≤ (wrap64 (x8 + 1)) then (if (wrap64 (x8 + 1)) ≤ (x1.size : Int) then (if (rdT x50 x52).f1.toList = (x1.extract x8.toNat (wrap64 (x8 + 1)).toNat).toList then (if 0 ≤ (wrap64 (x8 + 1)) then (if (wrap64 (x8 + 1)) < (x2.length : Int) then (if (rdT x50 x52).f2 = (rdI x2 (wrap64 (x8 + 1))) then (spec_CostOfRun.l1 k x1 x2 (wrap64 (x7 + (rdT x50 x52).f3)) x8 true x45 x46 x50 x51 (wrap64 (x52 + 1)) y0_0 y0_1 y0_2 y0_3) else (spec_CostOfRun.l1 k x1 x2 x7 x8 x9 x45 x46 x50 x51 (wrap64 (x52 + 1)) y0_0 y0_1 y0_2 y0_3)) else none) else none) else (spec_CostOfRun.l1 k x1 x2 x7 x8 x9 x45 x46 x50 x51 (wrap64 (x52 + 1)) y0_0 y0_1 y0_2 y0_3)) else none) else none) else (spec_CostOfRun.l1 k x1 x2 x7 x8 x9 x45 x46 x50 x51 (wrap64 (x52 + 1)) y0_0 y0_1 y0_2 y0_3)) else none) else none) else none) else none) else (if x9 = true then (spec_CostOfRun.l0 k x1 x2 x7 x45 (wrap64 (x46 + 1)) y0_0 y0_1 y0_2 y0_3) else (some (-1))))
end
def spec_CostOfRun.f (k : Nat) (a0_0 : Int) (l0_1 : List Int) (l0_2 : List Int) (l0_3 : List Stp) (a1 : ByteArray) (l2 : List Int) : Option (Int) := ((spec_l4Asked.f k a0_0 l0_1 l0_2 l0_3 a1).bind fun t1 => (if t1 = true then (if (l2.length : Int) = (wrap64 ((a1.size : Int) + 1)) then (if 0 < (l2.length : Int) then ((spec_l4In.f k l0_1 (rdI l2 0)).bind fun t2 => (if t2 = true then (if 0 ≤ (a1.size : Int) then (if (a1.size : Int) < (l2.length : Int) then ((spec_l4In.f k l0_2 (rdI l2 (a1.size : Int))).bind fun t3 => (if t3 = true then (spec_CostOfRun.l0 k a1 l2 0 (a1.size : Int) 0 a0_0 l0_1 l0_2 l0_3) else (some (-1)))) else none) else none) else (some (-1)))) else none) else (some (-1))) else (some (-1))))
def spec_CostOfRun.en (r : Int) : Res := (.int .i64 r, [])
def spec_CostOfRun.dec : List AV → List R.Obj → Option (Int × (List Int) × (List Int) × (List Stp) × ByteArray × (List Int))
  | [.agg [.int .i64 a0_0, .imm (.I .i64 l0_1), .imm (.I .i64 l0_2), .imm (.T l0_3)], .str a1, .imm (.I .i64 l2)], [] => some (a0_0, l0_1, l0_2, l0_3, a1, l2)
  | _, _ => none
def spec_CostOfRun.tw : Tw := ⟨36, Int × (List Int) × (List Int) × (List Stp) × ByteArray × (List Int), Int, spec_CostOfRun.dec, fun a => [.agg [.int .i64 a.1, .imm (.I .i64 a.2.1), .imm (.I .i64 a.2.2.1), .imm (.T a.2.2.2.1)], .str a.2.2.2.2.1, .imm (.I .i64 a.2.2.2.2.2)], fun a => [], fun k a => spec_CostOfRun.f k a.1 a.2.1 a.2.2.1 a.2.2.2.1 a.2.2.2.2.1 a.2.2.2.2.2, fun a r => spec_CostOfRun.en r⟩
theorem spec_CostOfRun.dok : spec_CostOfRun.tw.DecOk := by
  intro args hc a h
  have h : spec_CostOfRun.dec args hc = some a := h
  unfold spec_CostOfRun.dec at h
  split at h
  · cases h; exact ⟨rfl, rfl⟩
  · cases h
noncomputable def spec_CostOfRun.O (k : Nat) : Oracle := (spec_l4Asked.tw.orc k (spec_l4In.tw.orc k noO))
def spec_CostOfRun.fh : FH := ⟨fun i => match i with | 5 => some [(1, 0), (2, 0), (3, 0), (7, 0), (45, 0), (46, 0)] | 9 => some [(1, 0), (2, 0), (3, 0), (7, 0), (8, 0), (9, 0), (45, 0), (46, 0), (50, 0), (51, 0), (52, 0)] | _ => none, [], false⟩
noncomputable def spec_CostOfRun.x0 (k : Nat) (x1 : ByteArray) (x2 : List Int) (x7 : Int) (x45 : Int) (x46 : Int) (y0_0 : Int) (y0_1 : List Int) (y0_2 : List Int) (y0_3 : List Stp) : Option Res := R.exec Try.prog xhn spec_CostOfRun.O 0 Try.f36 spec_CostOfRun.fh k (R.point Try.f36 5) ⟨[(1, .str x1), (2, .imm (.I .i64 x2)), (3, .ptr 0 0), (7, .int .i64 x7), (45, .int .i64 x45), (46, .int .i64 x46)], [(0, .box false [.int .i64 y0_0, .imm (.I .i64 y0_1), .imm (.I .i64 y0_2), .imm (.T y0_3)])], 3⟩
noncomputable def spec_CostOfRun.x1 (k : Nat) (x1 : ByteArray) (x2 : List Int) (x7 : Int) (x8 : Int) (x9 : Bool) (x45 : Int) (x46 : Int) (x50 : List Stp) (x51 : Int) (x52 : Int) (y0_0 : Int) (y0_1 : List Int) (y0_2 : List Int) (y0_3 : List Stp) : Option Res := R.exec Try.prog xhn spec_CostOfRun.O 0 Try.f36 spec_CostOfRun.fh k (R.point Try.f36 9) ⟨[(1, .str x1), (2, .imm (.I .i64 x2)), (3, .ptr 0 0), (7, .int .i64 x7), (8, .int .i64 x8), (9, .lit x9), (45, .int .i64 x45), (46, .int .i64 x46), (50, .imm (.T x50)), (51, .int .i64 x51), (52, .int .i64 x52)], [(0, .box false [.int .i64 y0_0, .imm (.I .i64 y0_1), .imm (.I .i64 y0_2), .imm (.T y0_3)])], 3⟩
set_option maxRecDepth 100000 in
theorem spec_CostOfRun.e0 (k : Nat) (x1 : ByteArray) (x2 : List Int) (x7 : Int) (x45 : Int) (x46 : Int) (y0_0 : Int) (y0_1 : List Int) (y0_2 : List Int) (y0_3 : List Stp) : spec_CostOfRun.x0 (k + 1) x1 x2 x7 x45 x46 y0_0 y0_1 y0_2 y0_3 = (if x46 < x45 then (spec_CostOfRun.x1 k x1 x2 x7 x46 false x45 x46 y0_3 (y0_3.length : Int) 0 y0_0 y0_1 y0_2 y0_3) else (some (spec_CostOfRun.en x7))) := by kernel_rfl
set_option maxRecDepth 100000 in
theorem spec_CostOfRun.e1 (k : Nat) (x1 : ByteArray) (x2 : List Int) (x7 : Int) (x8 : Int) (x9 : Bool) (x45 : Int) (x46 : Int) (x50 : List Stp) (x51 : Int) (x52 : Int) (y0_0 : Int) (y0_1 : List Int) (y0_2 : List Int) (y0_3 : List Stp) : spec_CostOfRun.x1 (k + 1) x1 x2 x7 x8 x9 x45 x46 x50 x51 x52 y0_0 y0_1 y0_2 y0_3 = (if x52 < x51 then (if 0 ≤ x52 then (if x52 < (x50.length : Int) then (if 0 ≤ x8 then (if x8 < (x2.length : Int) then (if (rdT x50 x52).f0 = (rdI x2 x8) then (if x8 ≤ (wr64 (x8 + 1)) then (if (wr64 (x8 + 1)) ≤ (x1.size : Int) then (if (rdT x50 x52).f1.toList = (x1.extract x8.toNat (wr64 (x8 + 1)).toNat).toList then (if 0 ≤ (wr64 (x8 + 1)) then (if (wr64 (x8 + 1)) < (x2.length : Int) then (if (rdT x50 x52).f2 = (rdI x2 (wr64 (x8 + 1))) then (spec_CostOfRun.x1 k x1 x2 (wr64 (x7 + (rdT x50 x52).f3)) x8 true x45 x46 x50 x51 (wr64 (x52 + 1)) y0_0 y0_1 y0_2 y0_3) else (spec_CostOfRun.x1 k x1 x2 x7 x8 x9 x45 x46 x50 x51 (wr64 (x52 + 1)) y0_0 y0_1 y0_2 y0_3)) else none) else none) else (spec_CostOfRun.x1 k x1 x2 x7 x8 x9 x45 x46 x50 x51 (wr64 (x52 + 1)) y0_0 y0_1 y0_2 y0_3)) else none) else none) else (spec_CostOfRun.x1 k x1 x2 x7 x8 x9 x45 x46 x50 x51 (wr64 (x52 + 1)) y0_0 y0_1 y0_2 y0_3)) else none) else none) else none) else none) else (if x9 = true then (spec_CostOfRun.x0 k x1 x2 x7 x45 (wr64 (x46 + 1)) y0_0 y0_1 y0_2 y0_3) else (some (spec_CostOfRun.en (-1))))) := by
  refine Eq.trans ?_ (R.icong (fun h0 => (R.icong (fun h1 => (R.icong (fun h2 => (R.icong (fun h3 => (R.icong (fun h4 => (R.icong (fun h5 => (R.idropT (p := 0 ≤ x8) (z := none) h3 rfl)) (fun h5 => rfl))) (fun h4 => rfl))) (fun h3 => rfl))) (fun h2 => rfl))) (fun h1 => rfl))) (fun h0 => rfl))
  kernel_rfl
set_option maxRecDepth 100000 in
theorem spec_CostOfRun.ef (k : Nat) (a0_0 : Int) (l0_1 : List Int) (l0_2 : List Int) (l0_3 : List Stp) (a1 : ByteArray) (l2 : List Int) : R.start Try.prog xhn spec_CostOfRun.O 0 Try.f36 spec_CostOfRun.fh k [.agg [.int .i64 a0_0, .imm (.I .i64 l0_1), .imm (.I .i64 l0_2), .imm (.T l0_3)], .str a1, .imm (.I .i64 l2)] [] = ((spec_l4Asked.f k a0_0 l0_1 l0_2 l0_3 a1).bind fun t1 => (if t1 = true then (if (l2.length : Int) = (wr64 ((a1.size : Int) + 1)) then (if 0 < (l2.length : Int) then ((spec_l4In.f k l0_1 (rdI l2 0)).bind fun t2 => (if t2 = true then (if 0 ≤ (a1.size : Int) then (if (a1.size : Int) < (l2.length : Int) then ((spec_l4In.f k l0_2 (rdI l2 (a1.size : Int))).bind fun t3 => (if t3 = true then (spec_CostOfRun.x0 k a1 l2 0 (a1.size : Int) 0 a0_0 l0_1 l0_2 l0_3) else (some (spec_CostOfRun.en (-1))))) else none) else none) else (some (spec_CostOfRun.en (-1))))) else none) else (some (spec_CostOfRun.en (-1)))) else (some (spec_CostOfRun.en (-1))))) := by kernel_rfl
theorem spec_CostOfRun.link : ∀ k, (∀ (x1 : ByteArray) (x2 : List Int) (x7 : Int) (x45 : Int) (x46 : Int) (y0_0 : Int) (y0_1 : List Int) (y0_2 : List Int) (y0_3 : List Stp), spec_CostOfRun.x0 k x1 x2 x7 x45 x46 y0_0 y0_1 y0_2 y0_3 = (spec_CostOfRun.l0 k x1 x2 x7 x45 x46 y0_0 y0_1 y0_2 y0_3).map (spec_CostOfRun.en)) ∧ (∀ (x1 : ByteArray) (x2 : List Int) (x7 : Int) (x8 : Int) (x9 : Bool) (x45 : Int) (x46 : Int) (x50 : List Stp) (x51 : Int) (x52 : Int) (y0_0 : Int) (y0_1 : List Int) (y0_2 : List Int) (y0_3 : List Stp), spec_CostOfRun.x1 k x1 x2 x7 x8 x9 x45 x46 x50 x51 x52 y0_0 y0_1 y0_2 y0_3 = (spec_CostOfRun.l1 k x1 x2 x7 x8 x9 x45 x46 x50 x51 x52 y0_0 y0_1 y0_2 y0_3).map (spec_CostOfRun.en))
  | 0 => ⟨fun _ _ _ _ _ _ _ _ _ => by simp only [spec_CostOfRun.l0, R.map_none]; rfl, fun _ _ _ _ _ _ _ _ _ _ _ _ _ _ => by simp only [spec_CostOfRun.l1, R.map_none]; rfl⟩
  | k + 1 => by
    obtain ⟨ih0, ih1⟩ := spec_CostOfRun.link k
    refine ⟨?_, ?_⟩
    · intro x1 x2 x7 x45 x46 y0_0 y0_1 y0_2 y0_3
      rw [spec_CostOfRun.e0]
      simp only [spec_CostOfRun.l0, R.map_ite, R.map_bind, R.map_none, R.map_some, R.wr64_eq, ← ih0, ← ih1]
    · intro x1 x2 x7 x8 x9 x45 x46 x50 x51 x52 y0_0 y0_1 y0_2 y0_3
      rw [spec_CostOfRun.e1]
      simp only [spec_CostOfRun.l1, R.map_ite, R.map_bind, R.map_none, R.map_some, R.wr64_eq, ← ih0, ← ih1]
theorem spec_CostOfRun.sf (k : Nat) (a0_0 : Int) (l0_1 : List Int) (l0_2 : List Int) (l0_3 : List Stp) (a1 : ByteArray) (l2 : List Int) : R.start Try.prog xhn spec_CostOfRun.O 0 Try.f36 spec_CostOfRun.fh k [.agg [.int .i64 a0_0, .imm (.I .i64 l0_1), .imm (.I .i64 l0_2), .imm (.T l0_3)], .str a1, .imm (.I .i64 l2)] [] = (spec_CostOfRun.f k a0_0 l0_1 l0_2 l0_3 a1 l2).map (spec_CostOfRun.en) := by
  obtain ⟨ih0, ih1⟩ := spec_CostOfRun.link k
  rw [spec_CostOfRun.ef]
  simp only [spec_CostOfRun.f, R.map_ite, R.map_bind, R.map_none, R.map_some, R.wr64_eq, ← ih0, ← ih1]
theorem spec_CostOfRun.ok (k : Nat) : spec_CostOfRun.tw.Ok Try.prog k := by
  intro a r h
  refine fn_ok (H := xhn) (fh := spec_CostOfRun.fh) (O := spec_CostOfRun.O) (k := k) Try.func36 (by kernel_rfl) (by kernel_rfl) (fun j _ => (Tw.orc_sound spec_l4Asked.dok (spec_l4Asked.ok j) (Tw.orc_sound spec_l4In.dok (spec_l4In.ok j) noO_sound))) (by kernel_rfl) (m := 0) rfl ?_
  refine (spec_CostOfRun.sf k a.1 a.2.1 a.2.2.1 a.2.2.2.1 a.2.2.2.2.1 a.2.2.2.2.2).trans ?_
  exact congrArg (Option.map _) h
def laws_FnRunOf.f (k : Nat) (l0 : List Int) (l1 : List Int) : Option (Bool) := (if (l0.length : Int) > 1048576 then (some true) else (if (l1.length : Int) > 1048576 then (some true) else ((spec_DrawRunOf.f k l0).bind fun t1 => ((impl_RunOf.f k t1.1 t1.2.1 t1.2.2.1 t1.2.2.2.1 t1.2.2.2.2).bind fun t2 => ((spec_RunOf.f k t1.1 t1.2.1 t1.2.2.1 t1.2.2.2.1 t1.2.2.2.2).bind fun t3 => ((laws_daSame.f k t2.1 t3.1).bind fun t4 => (if t4 = true then (if (t2.2 != t3.2) = true then ((laws_daSame.f k t2.1 t3.1).bind fun t5 => (if t5 = true then (if (t2.2 == t3.2) = true then ((impl_CostOf.f k t1.1 t1.2.1 t1.2.2.1 t1.2.2.2.1 t1.2.2.2.2).bind fun t6 => (if t6 = (-1) then (some true) else ((impl_CostOf.f k t1.1 t1.2.1 t1.2.2.1 t1.2.2.2.1 t1.2.2.2.2).bind fun t7 => (some (decide (t7 = 1000000)))))) else (some false)) else (some false))) else (if t2.2 = true then ((spec_DrawCostOfRun.f k l1).bind fun t8 => ((impl_CostOfRun.f k t8.1 t8.2.1 t8.2.2.1 t8.2.2.2.1 t8.2.2.2.2.1 t8.2.2.2.2.2).bind fun t9 => ((impl_CostOfRun.f k t1.1 t1.2.1 t1.2.2.1 t1.2.2.2.1 t1.2.2.2.2 t2.1).bind fun t10 => ((impl_CostOf.f k t1.1 t1.2.1 t1.2.2.1 t1.2.2.2.1 t1.2.2.2.2).bind fun t11 => (if t10 = t11 then ((spec_CostOfRun.f k t8.1 t8.2.1 t8.2.2.1 t8.2.2.2.1 t8.2.2.2.2.1 t8.2.2.2.2.2).bind fun t12 => (if t9 = t12 then (if t9 < 0 then (some true) else ((impl_CostOf.f k t8.1 t8.2.1 t8.2.2.1 t8.2.2.2.1 t8.2.2.2.2.1).bind fun t13 => (some (decide (t9 ≥ t13))))) else (some false))) else (some false)))))) else ((laws_daSame.f k t2.1 t3.1).bind fun t14 => (if t14 = true then (if (t2.2 == t3.2) = true then ((impl_CostOf.f k t1.1 t1.2.1 t1.2.2.1 t1.2.2.2.1 t1.2.2.2.2).bind fun t15 => (if t15 = (-1) then (some true) else ((impl_CostOf.f k t1.1 t1.2.1 t1.2.2.1 t1.2.2.2.1 t1.2.2.2.2).bind fun t16 => (some (decide (t16 = 1000000)))))) else (some false)) else (some false))))) else ((laws_daSame.f k t2.1 t3.1).bind fun t17 => (if t17 = true then (if (t2.2 == t3.2) = true then ((impl_CostOf.f k t1.1 t1.2.1 t1.2.2.1 t1.2.2.2.1 t1.2.2.2.2).bind fun t18 => (if t18 = (-1) then (some true) else ((impl_CostOf.f k t1.1 t1.2.1 t1.2.2.1 t1.2.2.2.1 t1.2.2.2.2).bind fun t19 => (some (decide (t19 = 1000000)))))) else (some false)) else (some false))))))))))
def laws_FnRunOf.en (r : Bool) : Res := (.lit r, [])
def laws_FnRunOf.dec : List AV → List R.Obj → Option ((List Int) × (List Int))
  | [.imm (.I .u8 l0), .imm (.I .u8 l1)], [] => some (l0, l1)
  | _, _ => none
def laws_FnRunOf.tw : Tw := ⟨6, (List Int) × (List Int), Bool, laws_FnRunOf.dec, fun a => [.imm (.I .u8 a.1), .imm (.I .u8 a.2)], fun a => [], fun k a => laws_FnRunOf.f k a.1 a.2, fun a r => laws_FnRunOf.en r⟩
theorem laws_FnRunOf.dok : laws_FnRunOf.tw.DecOk := by
  intro args hc a h
  have h : laws_FnRunOf.dec args hc = some a := h
  unfold laws_FnRunOf.dec at h
  split at h
  · cases h; exact ⟨rfl, rfl⟩
  · cases h
noncomputable def laws_FnRunOf.O (k : Nat) : Oracle := (spec_DrawRunOf.tw.orc k (impl_RunOf.tw.orc k (spec_RunOf.tw.orc k (laws_daSame.tw.orc k (impl_CostOf.tw.orc k (spec_DrawCostOfRun.tw.orc k (impl_CostOfRun.tw.orc k (spec_CostOfRun.tw.orc k noO))))))))
def laws_FnRunOf.fh : FH := ⟨fun i => match i with | _ => none, [], false⟩
set_option maxRecDepth 100000 in
theorem laws_FnRunOf.ef (k : Nat) (l0 : List Int) (l1 : List Int) : R.start Try.prog xhn laws_FnRunOf.O 0 Try.f6 laws_FnRunOf.fh k [.imm (.I .u8 l0), .imm (.I .u8 l1)] [] = (if (l0.length : Int) > 1048576 then (some (laws_FnRunOf.en true)) else (if (l1.length : Int) > 1048576 then (some (laws_FnRunOf.en true)) else ((spec_DrawRunOf.f k l0).bind fun t1 => ((impl_RunOf.f k t1.1 t1.2.1 t1.2.2.1 t1.2.2.2.1 t1.2.2.2.2).bind fun t2 => ((spec_RunOf.f k t1.1 t1.2.1 t1.2.2.1 t1.2.2.2.1 t1.2.2.2.2).bind fun t3 => ((laws_daSame.f k t2.1 t3.1).bind fun t4 => (if t4 = true then (if (t2.2 != t3.2) = true then ((laws_daSame.f k t2.1 t3.1).bind fun t5 => (if t5 = true then (if (t2.2 == t3.2) = true then ((impl_CostOf.f k t1.1 t1.2.1 t1.2.2.1 t1.2.2.2.1 t1.2.2.2.2).bind fun t6 => (if t6 = (-1) then (some (laws_FnRunOf.en true)) else ((impl_CostOf.f k t1.1 t1.2.1 t1.2.2.1 t1.2.2.2.1 t1.2.2.2.2).bind fun t7 => (some (laws_FnRunOf.en (decide (t7 = 1000000))))))) else (some (laws_FnRunOf.en false))) else (some (laws_FnRunOf.en false)))) else (if t2.2 = true then ((spec_DrawCostOfRun.f k l1).bind fun t8 => ((impl_CostOfRun.f k t8.1 t8.2.1 t8.2.2.1 t8.2.2.2.1 t8.2.2.2.2.1 t8.2.2.2.2.2).bind fun t9 => ((impl_CostOfRun.f k t1.1 t1.2.1 t1.2.2.1 t1.2.2.2.1 t1.2.2.2.2 t2.1).bind fun t10 => ((impl_CostOf.f k t1.1 t1.2.1 t1.2.2.1 t1.2.2.2.1 t1.2.2.2.2).bind fun t11 => (if t10 = t11 then ((spec_CostOfRun.f k t8.1 t8.2.1 t8.2.2.1 t8.2.2.2.1 t8.2.2.2.2.1 t8.2.2.2.2.2).bind fun t12 => (if t9 = t12 then (if t9 < 0 then (some (laws_FnRunOf.en true)) else ((impl_CostOf.f k t8.1 t8.2.1 t8.2.2.1 t8.2.2.2.1 t8.2.2.2.2.1).bind fun t13 => (some (laws_FnRunOf.en (decide (t9 ≥ t13)))))) else (some (laws_FnRunOf.en false)))) else (some (laws_FnRunOf.en false))))))) else ((laws_daSame.f k t2.1 t3.1).bind fun t14 => (if t14 = true then (if (t2.2 == t3.2) = true then ((impl_CostOf.f k t1.1 t1.2.1 t1.2.2.1 t1.2.2.2.1 t1.2.2.2.2).bind fun t15 => (if t15 = (-1) then (some (laws_FnRunOf.en true)) else ((impl_CostOf.f k t1.1 t1.2.1 t1.2.2.1 t1.2.2.2.1 t1.2.2.2.2).bind fun t16 => (some (laws_FnRunOf.en (decide (t16 = 1000000))))))) else (some (laws_FnRunOf.en false))) else (some (laws_FnRunOf.en false)))))) else ((laws_daSame.f k t2.1 t3.1).bind fun t17 => (if t17 = true then (if (t2.2 == t3.2) = true then ((impl_CostOf.f k t1.1 t1.2.1 t1.2.2.1 t1.2.2.2.1 t1.2.2.2.2).bind fun t18 => (if t18 = (-1) then (some (laws_FnRunOf.en true)) else ((impl_CostOf.f k t1.1 t1.2.1 t1.2.2.1 t1.2.2.2.1 t1.2.2.2.2).bind fun t19 => (some (laws_FnRunOf.en (decide (t19 = 1000000))))))) else (some (laws_FnRunOf.en false))) else (some (laws_FnRunOf.en false))))))))))) := by kernel_rfl
theorem laws_FnRunOf.sf (k : Nat) (l0 : List Int) (l1 : List Int) : R.start Try.prog xhn laws_FnRunOf.O 0 Try.f6 laws_FnRunOf.fh k [.imm (.I .u8 l0), .imm (.I .u8 l1)] [] = (laws_FnRunOf.f k l0 l1).map (laws_FnRunOf.en) := by
  rw [laws_FnRunOf.ef]
  simp only [laws_FnRunOf.f, R.map_ite, R.map_bind, R.map_none, R.map_some, R.wr64_eq]
theorem laws_FnRunOf.ok (k : Nat) : laws_FnRunOf.tw.Ok Try.prog k := by
  intro a r h
  refine fn_ok (H := xhn) (fh := laws_FnRunOf.fh) (O := laws_FnRunOf.O) (k := k) Try.func6 (by kernel_rfl) (by kernel_rfl) (fun j _ => (Tw.orc_sound spec_DrawRunOf.dok (spec_DrawRunOf.ok j) (Tw.orc_sound impl_RunOf.dok (impl_RunOf.ok j) (Tw.orc_sound spec_RunOf.dok (spec_RunOf.ok j) (Tw.orc_sound laws_daSame.dok (laws_daSame.ok j) (Tw.orc_sound impl_CostOf.dok (impl_CostOf.ok j) (Tw.orc_sound spec_DrawCostOfRun.dok (spec_DrawCostOfRun.ok j) (Tw.orc_sound impl_CostOfRun.dok (impl_CostOfRun.ok j) (Tw.orc_sound spec_CostOfRun.dok (spec_CostOfRun.ok j) noO_sound))))))))) (by kernel_rfl) (m := 0) rfl ?_
  refine (laws_FnRunOf.sf k a.1 a.2).trans ?_
  exact congrArg (Option.map _) h
end Go.Proofs.Ytaaajdlgmllhaaa.V
end
