import Derived.Test.YtfjfdlgcneclfaaDoorQFnExactParseGrades2
import Derived.Test.YtfjfdlgcneclfaaDoorProg
import Derived.WalkKit
import Derived.ProofKit
import Derived.Lib.Bytealg
import Derived.Test.YtfjfdlgcneclfaaDoorQFnExactParseGrades4
section
set_option linter.unusedVariables false
set_option linter.unusedSimpArgs false
namespace Go.Proofs.YtfjfdlgcneclfaaDoor.V
open Go Go.Proofs.YtfjfdlgcneclfaaDoor.R Go.RowKit
def xhn : R.Hints := ⟨fun e => match e with | 3 => some (.I .i64) | 9 => some .S | _ => none, fun f => match f with | 8 => 2 | 25 => 2 | _ => 0⟩
def spec_l13Cut.l0 : Nat → ByteArray → Int → (List ByteArray) → Int → Int → Option (List ByteArray)
  | 0, _, _, _, _, _ => none
  | k + 1, x0, x1, y0, x6, x7 => (if x7 ≤ (x0.size : Int) then (if x7 = (x0.size : Int) then (if 0 ≤ x6 then (if x6 ≤ x7 then (if y0.length < 8796093022208 then (spec_l13Cut.l0 k x0 x1 (y0 ++ [(x0.extract x6.toNat x7.toNat)]) (wrap64 (x7 + 1)) (wrap64 (x7 + 1))) else none) else none) else none) else (if 0 ≤ x7 then (if x7 < (x0.size : Int) then (if (btI x0 x7) = x1 then (if 0 ≤ x6 then (if x6 ≤ x7 then (if y0.length < 8796093022208 then (spec_l13Cut.l0 k x0 x1 (y0 ++ [(x0.extract x6.toNat x7.toNat)]) (wrap64 (x7 + 1)) (wrap64 (x7 + 1))) else none) else none) else none) else (spec_l13Cut.l0 k x0 x1 y0 x6 (wrap64 (x7 + 1)))) else none) else none)) else (some y0))
def spec_l13Cut.f (k : Nat) (a0 : ByteArray) (a1 : Int) : Option (List ByteArray) := (spec_l13Cut.l0 k a0 a1 ([] : List ByteArray) 0 0)
def spec_l13Cut.en (r : List ByteArray) : Res := (.sl 0 0, [.arr 9 0 (.S r) false])
def spec_l13Cut.dec : List AV → List R.Obj → Option (ByteArray × Int)
  | [.str a0, .int .u8 a1], [] => some (a0, a1)
  | _, _ => none
def spec_l13Cut.tw : Tw := ⟨20, ByteArray × Int, List ByteArray, spec_l13Cut.dec, fun a => [.str a.1, .int .u8 a.2], fun a => [], fun k a => spec_l13Cut.f k a.1 a.2, fun a r => spec_l13Cut.en r, true⟩
theorem spec_l13Cut.dok : spec_l13Cut.tw.DecOk := by
  intro args hc a h
  have h : spec_l13Cut.dec args hc = some a := h
  unfold spec_l13Cut.dec at h
  split at h
  · cases h; exact ⟨rfl, rfl⟩
  · cases h
noncomputable def spec_l13Cut.O (k : Nat) : Oracle := noO
def spec_l13Cut.fh : FH := ⟨fun i => match i with | 4 => some [(0, 0), (1, 0), (5, 0), (6, 0), (7, 0)] | _ => none, [(true, 9)], false⟩
noncomputable def spec_l13Cut.x0 (k : Nat) (x0 : ByteArray) (x1 : Int) (y0 : List ByteArray) (x6 : Int) (x7 : Int) : Option Res := R.exec Tryd.prog xhn spec_l13Cut.O 0 Tryd.f20 spec_l13Cut.fh k (R.point Tryd.f20 4) ⟨[(0, .str x0), (1, .int .u8 x1), (5, .sl 0 0), (6, .int .i64 x6), (7, .int .i64 x7)], [(0, .arr 9 0 (.S y0) false)], 3⟩
set_option maxRecDepth 100000 in
theorem spec_l13Cut.e0 (k : Nat) (x0 : ByteArray) (x1 : Int) (y0 : List ByteArray) (x6 : Int) (x7 : Int) : spec_l13Cut.x0 (k + 1) x0 x1 y0 x6 x7 = (if x7 ≤ (x0.size : Int) then (if x7 = (x0.size : Int) then (if 0 ≤ x6 then (if x6 ≤ x7 then (if y0.length < 8796093022208 then (spec_l13Cut.x0 k x0 x1 (y0 ++ [(x0.extract x6.toNat x7.toNat)]) (wr64 (x7 + 1)) (wr64 (x7 + 1))) else none) else none) else none) else (if 0 ≤ x7 then (if x7 < (x0.size : Int) then (if (btI x0 x7) = x1 then (if 0 ≤ x6 then (if x6 ≤ x7 then (if y0.length < 8796093022208 then (spec_l13Cut.x0 k x0 x1 (y0 ++ [(x0.extract x6.toNat x7.toNat)]) (wr64 (x7 + 1)) (wr64 (x7 + 1))) else none) else none) else none) else (spec_l13Cut.x0 k x0 x1 y0 x6 (wr64 (x7 + 1)))) else none) else none)) else (some (spec_l13Cut.en y0))) := by
  refine Eq.trans ?_ (R.icong (fun h0 => (R.icong (fun h1 => (R.icong (fun h2 => (R.icong (fun h3 => (R.idropT (p := x7 ≤ (x0.size : Int)) (z := none) h0 rfl)) (fun h3 => rfl))) (fun h2 => rfl))) (fun h1 => (R.icong (fun h2 => (R.icong (fun h3 => (R.icong (fun h4 => (R.icong (fun h5 => (R.icong (fun h6 => (R.idropT (p := x7 ≤ (x0.size : Int)) (z := none) h0 rfl)) (fun h6 => rfl))) (fun h5 => rfl))) (fun h4 => rfl))) (fun h3 => rfl))) (fun h2 => rfl))))) (fun h0 => rfl))
  kernel_rfl
set_option maxRecDepth 100000 in
theorem spec_l13Cut.ef (k : Nat) (a0 : ByteArray) (a1 : Int) : R.start Tryd.prog xhn spec_l13Cut.O 0 Tryd.f20 spec_l13Cut.fh k [.str a0, .int .u8 a1] [] = (spec_l13Cut.x0 k a0 a1 ([] : List ByteArray) 0 0) := by kernel_rfl
theorem spec_l13Cut.link : ∀ k, (∀ (x0 : ByteArray) (x1 : Int) (y0 : List ByteArray) (x6 : Int) (x7 : Int), spec_l13Cut.x0 k x0 x1 y0 x6 x7 = (spec_l13Cut.l0 k x0 x1 y0 x6 x7).map (spec_l13Cut.en))
  | 0 => fun _ _ _ _ _ => by simp only [spec_l13Cut.l0, R.map_none]; rfl
  | k + 1 => by
    have ih0 := spec_l13Cut.link k
    · intro x0 x1 y0 x6 x7
      rw [spec_l13Cut.e0]
      simp only [spec_l13Cut.l0, R.map_ite, R.map_bind, R.map_none, R.map_some, R.wr64_eq, ← ih0]
theorem spec_l13Cut.sf (k : Nat) (a0 : ByteArray) (a1 : Int) : R.start Tryd.prog xhn spec_l13Cut.O 0 Tryd.f20 spec_l13Cut.fh k [.str a0, .int .u8 a1] [] = (spec_l13Cut.f k a0 a1).map (spec_l13Cut.en) := by
  have ih0 := spec_l13Cut.link k
  rw [spec_l13Cut.ef]
  simp only [spec_l13Cut.f, R.map_ite, R.map_bind, R.map_none, R.map_some, R.wr64_eq, ← ih0]
theorem spec_l13Cut.ok (k : Nat) : spec_l13Cut.tw.Ok Tryd.prog k := by
  intro md hmd a r h
  refine fn_ok (H := xhn) (fh := spec_l13Cut.fh) (O := spec_l13Cut.O) (k := k) Tryd.func20 (by kernel_rfl) (by kernel_rfl) (fun j _ => noO_sound) (by kernel_rfl) (m := 0) rfl ?_
  refine (spec_l13Cut.sf k a.1 a.2).trans ?_
  exact congrArg (Option.map _) h
def spec_l1In.f (a0 : Int) (a1 : Int) (a2 : Int) : Option (Bool) := (if a0 ≥ a1 then (some (decide (a0 ≤ a2))) else (some false))
def spec_l1In.en (r : Bool) : Res := (.lit r, [])
def spec_l1In.dec : List AV → List R.Obj → Option (Int × Int × Int)
  | [.int .i64 a0, .int .i64 a1, .int .i64 a2], [] => some (a0, a1, a2)
  | _, _ => none
def spec_l1In.tw : Tw := ⟨34, Int × Int × Int, Bool, spec_l1In.dec, fun a => [.int .i64 a.1, .int .i64 a.2.1, .int .i64 a.2.2], fun a => [], fun k a => spec_l1In.f a.1 a.2.1 a.2.2, fun a r => spec_l1In.en r, true⟩
theorem spec_l1In.dok : spec_l1In.tw.DecOk := by
  intro args hc a h
  have h : spec_l1In.dec args hc = some a := h
  unfold spec_l1In.dec at h
  split at h
  · cases h; exact ⟨rfl, rfl⟩
  · cases h
noncomputable def spec_l1In.O (k : Nat) : Oracle := noO
def spec_l1In.fh : FH := ⟨fun i => match i with | _ => none, [], false⟩
set_option maxRecDepth 100000 in
theorem spec_l1In.ef (k : Nat) (a0 : Int) (a1 : Int) (a2 : Int) : R.start Tryd.prog xhn spec_l1In.O 0 Tryd.f34 spec_l1In.fh k [.int .i64 a0, .int .i64 a1, .int .i64 a2] [] = (if a0 ≥ a1 then (some (spec_l1In.en (decide (a0 ≤ a2)))) else (some (spec_l1In.en false))) := by kernel_rfl
theorem spec_l1In.sf (k : Nat) (a0 : Int) (a1 : Int) (a2 : Int) : R.start Tryd.prog xhn spec_l1In.O 0 Tryd.f34 spec_l1In.fh k [.int .i64 a0, .int .i64 a1, .int .i64 a2] [] = (spec_l1In.f a0 a1 a2).map (spec_l1In.en) := by
  rw [spec_l1In.ef]
  simp only [spec_l1In.f, R.map_ite, R.map_bind, R.map_none, R.map_some, R.wr64_eq]
theorem spec_l1In.ok (k : Nat) : spec_l1In.tw.Ok Tryd.prog k := by
  intro md hmd a r h
  refine fn_ok (H := xhn) (fh := spec_l1In.fh) (O := spec_l1In.O) (k := k) Tryd.func34 (by kernel_rfl) (by kernel_rfl) (fun j _ => noO_sound) (by kernel_rfl) (m := 0) rfl ?_
  refine (spec_l1In.sf k a.1 a.2.1 a.2.2).trans ?_
  exact congrArg (Option.map _) h
def spec_CostValid.f (a0 : Int) : Option (Bool) := ((spec_l1In.f a0 0 1000000).bind fun t1 => (some t1))
def spec_CostValid.en (r : Bool) : Res := (.lit r, [])
def spec_CostValid.dec : List AV → List R.Obj → Option (Int)
  | [.int .i64 a0], [] => some a0
  | _, _ => none
def spec_CostValid.tw : Tw := ⟨68, Int, Bool, spec_CostValid.dec, fun a => [.int .i64 a], fun a => [], fun k a => spec_CostValid.f a, fun a r => spec_CostValid.en r, true⟩
theorem spec_CostValid.dok : spec_CostValid.tw.DecOk := by
  intro args hc a h
  have h : spec_CostValid.dec args hc = some a := h
  unfold spec_CostValid.dec at h
  split at h
  · cases h; exact ⟨rfl, rfl⟩
  · cases h
noncomputable def spec_CostValid.O (k : Nat) : Oracle := (spec_l1In.tw.orc k noO)
def spec_CostValid.fh : FH := ⟨fun i => match i with | _ => none, [], false⟩
set_option maxRecDepth 100000 in
theorem spec_CostValid.ef (k : Nat) (a0 : Int) : R.start Tryd.prog xhn spec_CostValid.O 0 Tryd.f68 spec_CostValid.fh k [.int .i64 a0] [] = ((spec_l1In.f a0 0 1000000).bind fun t1 => (some (spec_CostValid.en t1))) := by kernel_rfl
theorem spec_CostValid.sf (k : Nat) (a0 : Int) : R.start Tryd.prog xhn spec_CostValid.O 0 Tryd.f68 spec_CostValid.fh k [.int .i64 a0] [] = (spec_CostValid.f a0).map (spec_CostValid.en) := by
  rw [spec_CostValid.ef]
  simp only [spec_CostValid.f, R.map_ite, R.map_bind, R.map_none, R.map_some, R.wr64_eq]
theorem spec_CostValid.ok (k : Nat) : spec_CostValid.tw.Ok Tryd.prog k := by
  intro md hmd a r h
  refine fn_ok (H := xhn) (fh := spec_CostValid.fh) (O := spec_CostValid.O) (k := k) Tryd.func68 (by kernel_rfl) (by kernel_rfl) (fun j _ => (Tw.orc_sound spec_l1In.dok (spec_l1In.ok j) (fun _ => rfl) noO_sound)) (by kernel_rfl) (m := 0) rfl ?_
  refine (spec_CostValid.sf k a).trans ?_
  exact congrArg (Option.map _) h
def spec_l1All.l0 : Nat → (List Int) → Int → Int → Option (Bool)
  | 0, _, _, _ => none
  | k + 1, x5, x6, x7 => (if x7 < x6 then (if 0 ≤ x7 then (if x7 < (x5.length : Int) then ((spec_CostValid.f (rdI x5 x7)).bind fun t1 => (if t1 = true then (spec_l1All.l0 k x5 x6 (wrap64 (x7 + 1))) else (some false))) else none) else none) else (some true))
def spec_l1All.f (k : Nat) (l0 : List Int) : Option (Bool) := (spec_l1All.l0 k l0 (l0.length : Int) 0)
def spec_l1All.en (r : Bool) : Res := (.lit r, [])
def spec_l1All.dec : List AV → List R.Obj → Option (List Int)
  | [.imm (.I .i64 l0)], [] => some l0
  | _, _ => none
def spec_l1All.tw : Tw := ⟨52, List Int, Bool, spec_l1All.dec, fun a => [.imm (.I .i64 a)], fun a => [], fun k a => spec_l1All.f k a, fun a r => spec_l1All.en r, true⟩
theorem spec_l1All.dok : spec_l1All.tw.DecOk := by
  intro args hc a h
  have h : spec_l1All.dec args hc = some a := h
  unfold spec_l1All.dec at h
  split at h
  · cases h; exact ⟨rfl, rfl⟩
  · cases h
noncomputable def spec_l1All.O (k : Nat) : Oracle := (spec_CostValid.tw.orc k noO)
def spec_l1All.fh : FH := ⟨fun i => match i with | 2 => some [(5, 0), (6, 0), (7, 0)] | _ => none, [], false⟩
noncomputable def spec_l1All.x0 (k : Nat) (x5 : List Int) (x6 : Int) (x7 : Int) : Option Res := R.exec Tryd.prog xhn spec_l1All.O 0 Tryd.f52 spec_l1All.fh k (R.point Tryd.f52 2) ⟨[(5, .imm (.I .i64 x5)), (6, .int .i64 x6), (7, .int .i64 x7)], [], 2⟩
set_option maxRecDepth 100000 in
theorem spec_l1All.e0 (k : Nat) (x5 : List Int) (x6 : Int) (x7 : Int) : spec_l1All.x0 (k + 1) x5 x6 x7 = (if x7 < x6 then (if 0 ≤ x7 then (if x7 < (x5.length : Int) then ((spec_CostValid.f (rdI x5 x7)).bind fun t1 => (if t1 = true then (spec_l1All.x0 k x5 x6 (wr64 (x7 + 1))) else (some (spec_l1All.en false)))) else none) else none) else (some (spec_l1All.en true))) := by kernel_rfl
set_option maxRecDepth 100000 in
theorem spec_l1All.ef (k : Nat) (l0 : List Int) : R.start Tryd.prog xhn spec_l1All.O 0 Tryd.f52 spec_l1All.fh k [.imm (.I .i64 l0)] [] = (spec_l1All.x0 k l0 (l0.length : Int) 0) := by kernel_rfl
theorem spec_l1All.link : ∀ k, (∀ (x5 : List Int) (x6 : Int) (x7 : Int), spec_l1All.x0 k x5 x6 x7 = (spec_l1All.l0 k x5 x6 x7).map (spec_l1All.en))
  | 0 => fun _ _ _ => by simp only [spec_l1All.l0, R.map_none]; rfl
  | k + 1 => by
    have ih0 := spec_l1All.link k
    · intro x5 x6 x7
      rw [spec_l1All.e0]
      simp only [spec_l1All.l0, R.map_ite, R.map_bind, R.map_none, R.map_some, R.wr64_eq, ← ih0]
theorem spec_l1All.sf (k : Nat) (l0 : List Int) : R.start Tryd.prog xhn spec_l1All.O 0 Tryd.f52 spec_l1All.fh k [.imm (.I .i64 l0)] [] = (spec_l1All.f k l0).map (spec_l1All.en) := by
  have ih0 := spec_l1All.link k
  rw [spec_l1All.ef]
  simp only [spec_l1All.f, R.map_ite, R.map_bind, R.map_none, R.map_some, R.wr64_eq, ← ih0]
theorem spec_l1All.ok (k : Nat) : spec_l1All.tw.Ok Tryd.prog k := by
  intro md hmd a r h
  refine fn_ok (H := xhn) (fh := spec_l1All.fh) (O := spec_l1All.O) (k := k) Tryd.func52 (by kernel_rfl) (by kernel_rfl) (fun j _ => (Tw.orc_sound spec_CostValid.dok (spec_CostValid.ok j) (fun _ => rfl) noO_sound)) (by kernel_rfl) (m := 0) rfl ?_
  refine (spec_l1All.sf k a).trans ?_
  exact congrArg (Option.map _) h
def spec_MatrixValid.f (k : Nat) (a0_0 : Int) (l0_1 : List Int) : Option (Bool) := ((spec_l1In.f a0_0 1 4).bind fun t1 => (if t1 = true then (if (l0_1.length : Int) = (wrap64 (a0_0 * a0_0)) then ((spec_l1All.f k l0_1).bind fun t2 => (some t2)) else (some false)) else (some false)))
def spec_MatrixValid.en (r : Bool) : Res := (.lit r, [])
def spec_MatrixValid.dec : List AV → List R.Obj → Option (Int × (List Int))
  | [.agg [.int .i64 a0_0, .imm (.I .i64 l0_1)]], [] => some (a0_0, l0_1)
  | _, _ => none
def spec_MatrixValid.tw : Tw := ⟨35, Int × (List Int), Bool, spec_MatrixValid.dec, fun a => [.agg [.int .i64 a.1, .imm (.I .i64 a.2)]], fun a => [], fun k a => spec_MatrixValid.f k a.1 a.2, fun a r => spec_MatrixValid.en r, true⟩
theorem spec_MatrixValid.dok : spec_MatrixValid.tw.DecOk := by
  intro args hc a h
  have h : spec_MatrixValid.dec args hc = some a := h
  unfold spec_MatrixValid.dec at h
  split at h
  · cases h; exact ⟨rfl, rfl⟩
  · cases h
noncomputable def spec_MatrixValid.O (k : Nat) : Oracle := (spec_l1In.tw.orc k (spec_l1All.tw.orc k noO))
def spec_MatrixValid.fh : FH := ⟨fun i => match i with | _ => none, [], false⟩
set_option maxRecDepth 100000 in
theorem spec_MatrixValid.ef (k : Nat) (a0_0 : Int) (l0_1 : List Int) : R.start Tryd.prog xhn spec_MatrixValid.O 0 Tryd.f35 spec_MatrixValid.fh k [.agg [.int .i64 a0_0, .imm (.I .i64 l0_1)]] [] = ((spec_l1In.f a0_0 1 4).bind fun t1 => (if t1 = true then (if (l0_1.length : Int) = (wr64 (a0_0 * a0_0)) then ((spec_l1All.f k l0_1).bind fun t2 => (some (spec_MatrixValid.en t2))) else (some (spec_MatrixValid.en false))) else (some (spec_MatrixValid.en false)))) := by kernel_rfl
theorem spec_MatrixValid.sf (k : Nat) (a0_0 : Int) (l0_1 : List Int) : R.start Tryd.prog xhn spec_MatrixValid.O 0 Tryd.f35 spec_MatrixValid.fh k [.agg [.int .i64 a0_0, .imm (.I .i64 l0_1)]] [] = (spec_MatrixValid.f k a0_0 l0_1).map (spec_MatrixValid.en) := by
  rw [spec_MatrixValid.ef]
  simp only [spec_MatrixValid.f, R.map_ite, R.map_bind, R.map_none, R.map_some, R.wr64_eq]
theorem spec_MatrixValid.ok (k : Nat) : spec_MatrixValid.tw.Ok Tryd.prog k := by
  intro md hmd a r h
  refine fn_ok (H := xhn) (fh := spec_MatrixValid.fh) (O := spec_MatrixValid.O) (k := k) Tryd.func35 (by kernel_rfl) (by kernel_rfl) (fun j _ => (Tw.orc_sound spec_l1In.dok (spec_l1In.ok j) (fun _ => rfl) (Tw.orc_sound spec_l1All.dok (spec_l1All.ok j) (fun _ => rfl) noO_sound))) (by kernel_rfl) (m := 0) rfl ?_
  refine (spec_MatrixValid.sf k a.1 a.2).trans ?_
  exact congrArg (Option.map _) h
def spec_GradesValid.l0 : Nat → (List Int) → Int → Int → Int → (List Int) → Option (Bool)
  | 0, _, _, _, _, _ => none
  | k + 1, x6, x7, x8, y0_0, y0_1 => (if x8 < x7 then (if 0 ≤ x8 then (if x8 < (x6.length : Int) then ((spec_l1In.f (rdI x6 x8) 0 3).bind fun t1 => (if t1 = true then (spec_GradesValid.l0 k x6 x7 (wrap64 (x8 + 1)) y0_0 y0_1) else (some false))) else none) else none) else ((spec_MatrixValid.f k y0_0 y0_1).bind fun t2 => (some t2)))
def spec_GradesValid.f (k : Nat) (a0_0 : Int) (l0_1 : List Int) : Option (Bool) := (spec_GradesValid.l0 k l0_1 (l0_1.length : Int) 0 a0_0 l0_1)
def spec_GradesValid.en (r : Bool) : Res := (.lit r, [])
def spec_GradesValid.dec : List AV → List R.Obj → Option (Int × (List Int))
  | [.agg [.int .i64 a0_0, .imm (.I .i64 l0_1)]], [] => some (a0_0, l0_1)
  | _, _ => none
def spec_GradesValid.tw : Tw := ⟨14, Int × (List Int), Bool, spec_GradesValid.dec, fun a => [.agg [.int .i64 a.1, .imm (.I .i64 a.2)]], fun a => [], fun k a => spec_GradesValid.f k a.1 a.2, fun a r => spec_GradesValid.en r, true⟩
theorem spec_GradesValid.dok : spec_GradesValid.tw.DecOk := by
  intro args hc a h
  have h : spec_GradesValid.dec args hc = some a := h
  unfold spec_GradesValid.dec at h
  split at h
  · cases h; exact ⟨rfl, rfl⟩
  · cases h
noncomputable def spec_GradesValid.O (k : Nat) : Oracle := (spec_l1In.tw.orc k (spec_MatrixValid.tw.orc k noO))
def spec_GradesValid.fh : FH := ⟨fun i => match i with | 2 => some [(1, 0), (6, 0), (7, 0), (8, 0)] | _ => none, [], false⟩
noncomputable def spec_GradesValid.x0 (k : Nat) (x6 : List Int) (x7 : Int) (x8 : Int) (y0_0 : Int) (y0_1 : List Int) : Option Res := R.exec Tryd.prog xhn spec_GradesValid.O 0 Tryd.f14 spec_GradesValid.fh k (R.point Tryd.f14 2) ⟨[(1, .ptr 0 0), (6, .imm (.I .i64 x6)), (7, .int .i64 x7), (8, .int .i64 x8)], [(0, .box false [.int .i64 y0_0, .imm (.I .i64 y0_1)])], 3⟩
set_option maxRecDepth 100000 in
theorem spec_GradesValid.e0 (k : Nat) (x6 : List Int) (x7 : Int) (x8 : Int) (y0_0 : Int) (y0_1 : List Int) : spec_GradesValid.x0 (k + 1) x6 x7 x8 y0_0 y0_1 = (if x8 < x7 then (if 0 ≤ x8 then (if x8 < (x6.length : Int) then ((spec_l1In.f (rdI x6 x8) 0 3).bind fun t1 => (if t1 = true then (spec_GradesValid.x0 k x6 x7 (wr64 (x8 + 1)) y0_0 y0_1) else (some (spec_GradesValid.en false)))) else none) else none) else ((spec_MatrixValid.f k y0_0 y0_1).bind fun t2 => (some (spec_GradesValid.en t2)))) := by kernel_rfl
set_option maxRecDepth 100000 in
theorem spec_GradesValid.ef (k : Nat) (a0_0 : Int) (l0_1 : List Int) : R.start Tryd.prog xhn spec_GradesValid.O 0 Tryd.f14 spec_GradesValid.fh k [.agg [.int .i64 a0_0, .imm (.I .i64 l0_1)]] [] = (spec_GradesValid.x0 k l0_1 (l0_1.length : Int) 0 a0_0 l0_1) := by kernel_rfl
theorem spec_GradesValid.link : ∀ k, (∀ (x6 : List Int) (x7 : Int) (x8 : Int) (y0_0 : Int) (y0_1 : List Int), spec_GradesValid.x0 k x6 x7 x8 y0_0 y0_1 = (spec_GradesValid.l0 k x6 x7 x8 y0_0 y0_1).map (spec_GradesValid.en))
  | 0 => fun _ _ _ _ _ => by simp only [spec_GradesValid.l0, R.map_none]; rfl
  | k + 1 => by
    have ih0 := spec_GradesValid.link k
    · intro x6 x7 x8 y0_0 y0_1
      rw [spec_GradesValid.e0]
      simp only [spec_GradesValid.l0, R.map_ite, R.map_bind, R.map_none, R.map_some, R.wr64_eq, ← ih0]
theorem spec_GradesValid.sf (k : Nat) (a0_0 : Int) (l0_1 : List Int) : R.start Tryd.prog xhn spec_GradesValid.O 0 Tryd.f14 spec_GradesValid.fh k [.agg [.int .i64 a0_0, .imm (.I .i64 l0_1)]] [] = (spec_GradesValid.f k a0_0 l0_1).map (spec_GradesValid.en) := by
  have ih0 := spec_GradesValid.link k
  rw [spec_GradesValid.ef]
  simp only [spec_GradesValid.f, R.map_ite, R.map_bind, R.map_none, R.map_some, R.wr64_eq, ← ih0]
theorem spec_GradesValid.ok (k : Nat) : spec_GradesValid.tw.Ok Tryd.prog k := by
  intro md hmd a r h
  refine fn_ok (H := xhn) (fh := spec_GradesValid.fh) (O := spec_GradesValid.O) (k := k) Tryd.func14 (by kernel_rfl) (by kernel_rfl) (fun j _ => (Tw.orc_sound spec_l1In.dok (spec_l1In.ok j) (fun _ => rfl) (Tw.orc_sound spec_MatrixValid.dok (spec_MatrixValid.ok j) (fun _ => rfl) noO_sound))) (by kernel_rfl) (m := 0) rfl ?_
  refine (spec_GradesValid.sf k a.1 a.2).trans ?_
  exact congrArg (Option.map _) h
def spec_l13Find.l0 : Nat → ByteArray → Int → Int → Option (Int)
  | 0, _, _, _ => none
  | k + 1, x0, x1, x5 => (if x5 < (x0.size : Int) then (if 0 ≤ x5 then (if (btI x0 x5) = x1 then (some x5) else (spec_l13Find.l0 k x0 x1 (wrap64 (x5 + 1)))) else none) else (some (-1)))
def spec_l13Find.f (k : Nat) (a0 : ByteArray) (a1 : Int) : Option (Int) := (spec_l13Find.l0 k a0 a1 0)
def spec_l13Find.en (r : Int) : Res := (.int .i64 r, [])
def spec_l13Find.dec : List AV → List R.Obj → Option (ByteArray × Int)
  | [.str a0, .int .u8 a1], [] => some (a0, a1)
  | _, _ => none
def spec_l13Find.tw : Tw := ⟨21, ByteArray × Int, Int, spec_l13Find.dec, fun a => [.str a.1, .int .u8 a.2], fun a => [], fun k a => spec_l13Find.f k a.1 a.2, fun a r => spec_l13Find.en r, true⟩
theorem spec_l13Find.dok : spec_l13Find.tw.DecOk := by
  intro args hc a h
  have h : spec_l13Find.dec args hc = some a := h
  unfold spec_l13Find.dec at h
  split at h
  · cases h; exact ⟨rfl, rfl⟩
  · cases h
noncomputable def spec_l13Find.O (k : Nat) : Oracle := noO
def spec_l13Find.fh : FH := ⟨fun i => match i with | 2 => some [(0, 0), (1, 0), (5, 0)] | _ => none, [], false⟩
noncomputable def spec_l13Find.x0 (k : Nat) (x0 : ByteArray) (x1 : Int) (x5 : Int) : Option Res := R.exec Tryd.prog xhn spec_l13Find.O 0 Tryd.f21 spec_l13Find.fh k (R.point Tryd.f21 2) ⟨[(0, .str x0), (1, .int .u8 x1), (5, .int .i64 x5)], [], 2⟩
set_option maxRecDepth 100000 in
theorem spec_l13Find.e0 (k : Nat) (x0 : ByteArray) (x1 : Int) (x5 : Int) : spec_l13Find.x0 (k + 1) x0 x1 x5 = (if x5 < (x0.size : Int) then (if 0 ≤ x5 then (if (btI x0 x5) = x1 then (some (spec_l13Find.en x5)) else (spec_l13Find.x0 k x0 x1 (wr64 (x5 + 1)))) else none) else (some (spec_l13Find.en (-1)))) := by
  refine Eq.trans ?_ (R.icong (fun h0 => (R.icong (fun h1 => (R.idropT (p := x5 < (x0.size : Int)) (z := none) h0 rfl)) (fun h1 => rfl))) (fun h0 => rfl))
  kernel_rfl
set_option maxRecDepth 100000 in
theorem spec_l13Find.ef (k : Nat) (a0 : ByteArray) (a1 : Int) : R.start Tryd.prog xhn spec_l13Find.O 0 Tryd.f21 spec_l13Find.fh k [.str a0, .int .u8 a1] [] = (spec_l13Find.x0 k a0 a1 0) := by kernel_rfl
theorem spec_l13Find.link : ∀ k, (∀ (x0 : ByteArray) (x1 : Int) (x5 : Int), spec_l13Find.x0 k x0 x1 x5 = (spec_l13Find.l0 k x0 x1 x5).map (spec_l13Find.en))
  | 0 => fun _ _ _ => by simp only [spec_l13Find.l0, R.map_none]; rfl
  | k + 1 => by
    have ih0 := spec_l13Find.link k
    · intro x0 x1 x5
      rw [spec_l13Find.e0]
      simp only [spec_l13Find.l0, R.map_ite, R.map_bind, R.map_none, R.map_some, R.wr64_eq, ← ih0]
theorem spec_l13Find.sf (k : Nat) (a0 : ByteArray) (a1 : Int) : R.start Tryd.prog xhn spec_l13Find.O 0 Tryd.f21 spec_l13Find.fh k [.str a0, .int .u8 a1] [] = (spec_l13Find.f k a0 a1).map (spec_l13Find.en) := by
  have ih0 := spec_l13Find.link k
  rw [spec_l13Find.ef]
  simp only [spec_l13Find.f, R.map_ite, R.map_bind, R.map_none, R.map_some, R.wr64_eq, ← ih0]
theorem spec_l13Find.ok (k : Nat) : spec_l13Find.tw.Ok Tryd.prog k := by
  intro md hmd a r h
  refine fn_ok (H := xhn) (fh := spec_l13Find.fh) (O := spec_l13Find.O) (k := k) Tryd.func21 (by kernel_rfl) (by kernel_rfl) (fun j _ => noO_sound) (by kernel_rfl) (m := 0) rfl ?_
  refine (spec_l13Find.sf k a.1 a.2).trans ?_
  exact congrArg (Option.map _) h
mutual
def spec_ParseGrades.l0 : Nat → (List ByteArray) → Int → Int → Int → (List Int) → Option (Int × (List Int) × Bool)
  | 0, _, _, _, _, _ => none
  | k + 1, y1, x16, x17, y2_0, y4 => (if x17 < x16 then (if 0 ≤ x17 then (if x17 < (y1.length : Int) then (spec_ParseGrades.l1 k y1 (rdS y1 x17) x16 x17 ((rdS y1 x17).size : Int) 0 y2_0 y4) else none) else none) else ((spec_GradesValid.f k y2_0 y4).bind fun t2 => (if t2 = true then (some (y2_0, y4, true)) else (some (0, ([] : List Int), false)))))
def spec_ParseGrades.l1 : Nat → (List ByteArray) → ByteArray → Int → Int → Int → Int → Int → (List Int) → Option (Int × (List Int) × Bool)
  | 0, _, _, _, _, _, _, _, _ => none
  | k + 1, y1, x7, x16, x17, x22, x23, y2_0, y4 => (if x23 < x22 then (if 0 ≤ x23 then (if x23 < (x7.size : Int) then ((spec_l13Find.f k (⟨#[48, 49, 119, 45]⟩ : ByteArray) (btI x7 x23)).bind fun t3 => (if y4.length < 17592186044416 then (spec_ParseGrades.l1 k y1 x7 x16 x17 x22 (wrap64 (x23 + 1)) y2_0 (y4 ++ [t3])) else none)) else none) else none) else (if (x7.size : Int) = (y1.length : Int) then (spec_ParseGrades.l0 k y1 x16 (wrap64 (x17 + 1)) y2_0 y4) else (some (0, ([] : List Int), false))))
end
def spec_ParseGrades.f (k : Nat) (a0 : ByteArray) : Option (Int × (List Int) × Bool) := ((spec_l13Cut.f k a0 47).bind fun t1 => (spec_ParseGrades.l0 k t1 (t1.length : Int) 0 (t1.length : Int) ([] : List Int)))
def spec_ParseGrades.en (r : Int × (List Int) × Bool) : Res := (.tup [.agg [.int .i64 r.1, .sl 0 0], .lit r.2.2], [.arr 3 0 (.I .i64 r.2.1) false])
def spec_ParseGrades.dec : List AV → List R.Obj → Option (ByteArray)
  | [.str a0], [] => some a0
  | _, _ => none
def spec_ParseGrades.tw : Tw := ⟨5, ByteArray, Int × (List Int) × Bool, spec_ParseGrades.dec, fun a => [.str a], fun a => [], fun k a => spec_ParseGrades.f k a, fun a r => spec_ParseGrades.en r, true⟩
theorem spec_ParseGrades.dok : spec_ParseGrades.tw.DecOk := by
  intro args hc a h
  have h : spec_ParseGrades.dec args hc = some a := h
  unfold spec_ParseGrades.dec at h
  split at h
  · cases h; exact ⟨rfl, rfl⟩
  · cases h
noncomputable def spec_ParseGrades.O (k : Nat) : Oracle := (spec_l13Cut.tw.orc k (spec_GradesValid.tw.orc k (spec_l13Find.tw.orc k noO)))
def spec_ParseGrades.fh : FH := ⟨fun i => match i with | 4 => some [(2, 0), (4, 0), (5, 0), (15, 0), (16, 0), (17, 0)] | 7 => some [(2, 0), (4, 0), (5, 0), (7, 0), (15, 0), (16, 0), (17, 0), (22, 0), (23, 0)] | _ => none, [(true, 3)], false⟩
noncomputable def spec_ParseGrades.x0 (k : Nat) (y1 : List ByteArray) (x16 : Int) (x17 : Int) (y2_0 : Int) (y4 : List Int) : Option Res := R.exec Tryd.prog xhn spec_ParseGrades.O 0 Tryd.f5 spec_ParseGrades.fh k (R.point Tryd.f5 4) ⟨[(2, .ptr 0 0), (4, .sl 1 0), (5, .ptr 2 0), (15, .sl 1 0), (16, .int .i64 x16), (17, .int .i64 x17)], [(0, .box false [.int .i64 0, .sl 3 0]), (1, .arr 9 0 (.S y1) false), (2, .box false [.int .i64 y2_0, .sl 4 0]), (3, .arr 3 0 (.I .i64 ([] : List Int)) false), (4, .arr 3 0 (.I .i64 y4) false)], 7⟩
noncomputable def spec_ParseGrades.x1 (k : Nat) (y1 : List ByteArray) (x7 : ByteArray) (x16 : Int) (x17 : Int) (x22 : Int) (x23 : Int) (y2_0 : Int) (y4 : List Int) : Option Res := R.exec Tryd.prog xhn spec_ParseGrades.O 0 Tryd.f5 spec_ParseGrades.fh k (R.point Tryd.f5 7) ⟨[(2, .ptr 0 0), (4, .sl 1 0), (5, .ptr 2 0), (7, .str x7), (15, .sl 1 0), (16, .int .i64 x16), (17, .int .i64 x17), (22, .int .i64 x22), (23, .int .i64 x23)], [(0, .box false [.int .i64 0, .sl 3 0]), (1, .arr 9 0 (.S y1) false), (2, .box false [.int .i64 y2_0, .sl 4 0]), (3, .arr 3 0 (.I .i64 ([] : List Int)) false), (4, .arr 3 0 (.I .i64 y4) false)], 7⟩
set_option maxRecDepth 100000 in
theorem spec_ParseGrades.e0 (k : Nat) (y1 : List ByteArray) (x16 : Int) (x17 : Int) (y2_0 : Int) (y4 : List Int) : spec_ParseGrades.x0 (k + 1) y1 x16 x17 y2_0 y4 = (if x17 < x16 then (if 0 ≤ x17 then (if x17 < (y1.length : Int) then (spec_ParseGrades.x1 k y1 (rdS y1 x17) x16 x17 ((rdS y1 x17).size : Int) 0 y2_0 y4) else none) else none) else ((spec_GradesValid.f k y2_0 y4).bind fun t2 => (if t2 = true then (some (spec_ParseGrades.en (y2_0, y4, true))) else (some (spec_ParseGrades.en (0, ([] : List Int), false)))))) := by kernel_rfl
set_option maxRecDepth 100000 in
theorem spec_ParseGrades.e1 (k : Nat) (y1 : List ByteArray) (x7 : ByteArray) (x16 : Int) (x17 : Int) (x22 : Int) (x23 : Int) (y2_0 : Int) (y4 : List Int) : spec_ParseGrades.x1 (k + 1) y1 x7 x16 x17 x22 x23 y2_0 y4 = (if x23 < x22 then (if 0 ≤ x23 then (if x23 < (x7.size : Int) then ((spec_l13Find.f k (⟨#[48, 49, 119, 45]⟩ : ByteArray) (btI x7 x23)).bind fun t3 => (if y4.length < 17592186044416 then (spec_ParseGrades.x1 k y1 x7 x16 x17 x22 (wr64 (x23 + 1)) y2_0 (y4 ++ [t3])) else none)) else none) else none) else (if (x7.size : Int) = (y1.length : Int) then (spec_ParseGrades.x0 k y1 x16 (wr64 (x17 + 1)) y2_0 y4) else (some (spec_ParseGrades.en (0, ([] : List Int), false))))) := by kernel_rfl
set_option maxRecDepth 100000 in
theorem spec_ParseGrades.ef (k : Nat) (a0 : ByteArray) : R.start Tryd.prog xhn spec_ParseGrades.O 0 Tryd.f5 spec_ParseGrades.fh k [.str a0] [] = ((spec_l13Cut.f k a0 47).bind fun t1 => (spec_ParseGrades.x0 k t1 (t1.length : Int) 0 (t1.length : Int) ([] : List Int))) := by kernel_rfl
theorem spec_ParseGrades.link : ∀ k, (∀ (y1 : List ByteArray) (x16 : Int) (x17 : Int) (y2_0 : Int) (y4 : List Int), spec_ParseGrades.x0 k y1 x16 x17 y2_0 y4 = (spec_ParseGrades.l0 k y1 x16 x17 y2_0 y4).map (spec_ParseGrades.en)) ∧ (∀ (y1 : List ByteArray) (x7 : ByteArray) (x16 : Int) (x17 : Int) (x22 : Int) (x23 : Int) (y2_0 : Int) (y4 : List Int), spec_ParseGrades.x1 k y1 x7 x16 x17 x22 x23 y2_0 y4 = (spec_ParseGrades.l1 k y1 x7 x16 x17 x22 x23 y2_0 y4).map (spec_ParseGrades.en))
  | 0 => ⟨fun _ _ _ _ _ => by simp only [spec_ParseGrades.l0, R.map_none]; rfl, fun _ _ _ _ _ _ _ _ => by simp only [spec_ParseGrades.l1, R.map_none]; rfl⟩
  | k + 1 => by
    obtain ⟨ih0, ih1⟩ := spec_ParseGrades.link k
    refine ⟨?_, ?_⟩
    · intro y1 x16 x17 y2_0 y4
      rw [spec_ParseGrades.e0]
      simp only [spec_ParseGrades.l0, R.map_ite, R.map_bind, R.map_none, R.map_some, R.wr64_eq, ← ih0, ← ih1]
    · intro y1 x7 x16 x17 x22 x23 y2_0 y4
      rw [spec_ParseGrades.e1]
      simp only [spec_ParseGrades.l1, R.map_ite, R.map_bind, R.map_none, R.map_some, R.wr64_eq, ← ih0, ← ih1]
theorem spec_ParseGrades.sf (k : Nat) (a0 : ByteArray) : R.start Tryd.prog xhn spec_ParseGrades.O 0 Tryd.f5 spec_ParseGrades.fh k [.str a0] [] = (spec_ParseGrades.f k a0).map (spec_ParseGrades.en) := by
  obtain ⟨ih0, ih1⟩ := spec_ParseGrades.link k
  rw [spec_ParseGrades.ef]
  simp only [spec_ParseGrades.f, R.map_ite, R.map_bind, R.map_none, R.map_some, R.wr64_eq, ← ih0, ← ih1]
theorem spec_ParseGrades.ok (k : Nat) : spec_ParseGrades.tw.Ok Tryd.prog k := by
  intro md hmd a r h
  refine fn_ok (H := xhn) (fh := spec_ParseGrades.fh) (O := spec_ParseGrades.O) (k := k) Tryd.func5 (by kernel_rfl) (by kernel_rfl) (fun j _ => (Tw.orc_sound spec_l13Cut.dok (spec_l13Cut.ok j) (fun _ => rfl) (Tw.orc_sound spec_GradesValid.dok (spec_GradesValid.ok j) (fun _ => rfl) (Tw.orc_sound spec_l13Find.dok (spec_l13Find.ok j) (fun _ => rfl) noO_sound)))) (by kernel_rfl) (m := 0) rfl ?_
  refine (spec_ParseGrades.sf k a).trans ?_
  exact congrArg (Option.map _) h
def strings_Split.f (a0 a1 : ByteArray) : Option (List ByteArray) := if a1.size = 1 ∧ a0.size < 4294967281 then some (Lib.splitB a1 0 (Lib.countB a0 a1) a0) else none
def strings_Split.dec : List AV → List R.Obj → Option (ByteArray × ByteArray)
  | [.str a0, .str a1], [] => some (a0, a1)
  | _, _ => none
def strings_Split.tw : Tw := ⟨22, ByteArray × ByteArray, List ByteArray, strings_Split.dec, fun a => [.str a.1, .str a.2], fun a => [], fun k a => strings_Split.f a.1 a.2, fun a r => (.sl 0 0, [.arr 9 0 (.S r) false]), false⟩
theorem strings_Split.dok : strings_Split.tw.DecOk := by
  intro args hc a h
  have h : strings_Split.dec args hc = some a := h
  unfold strings_Split.dec at h
  split at h
  · cases h; exact ⟨rfl, rfl⟩
  · cases h
theorem strings_Split.ok (k : Nat) : strings_Split.tw.Ok Tryd.prog k := by
  intro md hmd a r h
  have h : strings_Split.f a.1 a.2 = some r := h
  refine ⟨callable_of Tryd.func22 (by kernel_rfl) (by kernel_rfl), fun w M I vs E => ?_⟩
  have e : vs = #[.string a.1, .string a.2] := two_of E.len (fun q => (E.args 0 _ _ rfl q).str_inv) (fun q => (E.args 1 _ _ rfl q).str_inv)
  subst e
  unfold strings_Split.f at h
  by_cases g : a.2.size = 1 ∧ a.1.size < 4294967281
  · rw [if_pos g] at h
    obtain rfl := Option.some.inj h
    obtain ⟨c, hc⟩ := Lib.one_byte a.2 g.1
    rw [hc]
    have hle := Lib.countB_le (⟨#[c]⟩ : ByteArray) (Nat.le_refl 1) a.1.size a.1 (Nat.le_refl _)
    have q := R.Split_one Tryd.lays146 (by kernel_rfl) a.1 c w g.2
    refine q.mono fun e w' => ?_
    rintro ⟨rfl, rfl⟩
    exact R.split_leaves (Lib.splitB_all (⟨#[c]⟩ : ByteArray) (Nat.le_refl 1) 0 _ _ rfl) (by unfold maxLen; omega) (fun q => Bool.noConfusion (show false = true from hmd q))
  · rw [if_neg g] at h
    cases h
def impl_CostValid.f (a0 : Int) : Option (Bool) := (if a0 ≥ 0 then (some (decide (a0 ≤ 1000000))) else (some false))
def impl_CostValid.en (r : Bool) : Res := (.lit r, [])
def impl_CostValid.dec : List AV → List R.Obj → Option (Int)
  | [.int .i64 a0], [] => some a0
  | _, _ => none
def impl_CostValid.tw : Tw := ⟨50, Int, Bool, impl_CostValid.dec, fun a => [.int .i64 a], fun a => [], fun k a => impl_CostValid.f a, fun a r => impl_CostValid.en r, true⟩
theorem impl_CostValid.dok : impl_CostValid.tw.DecOk := by
  intro args hc a h
  have h : impl_CostValid.dec args hc = some a := h
  unfold impl_CostValid.dec at h
  split at h
  · cases h; exact ⟨rfl, rfl⟩
  · cases h
noncomputable def impl_CostValid.O (k : Nat) : Oracle := noO
def impl_CostValid.fh : FH := ⟨fun i => match i with | _ => none, [], false⟩
set_option maxRecDepth 100000 in
theorem impl_CostValid.ef (k : Nat) (a0 : Int) : R.start Tryd.prog xhn impl_CostValid.O 0 Tryd.f50 impl_CostValid.fh k [.int .i64 a0] [] = (if a0 ≥ 0 then (some (impl_CostValid.en (decide (a0 ≤ 1000000)))) else (some (impl_CostValid.en false))) := by kernel_rfl
theorem impl_CostValid.sf (k : Nat) (a0 : Int) : R.start Tryd.prog xhn impl_CostValid.O 0 Tryd.f50 impl_CostValid.fh k [.int .i64 a0] [] = (impl_CostValid.f a0).map (impl_CostValid.en) := by
  rw [impl_CostValid.ef]
  simp only [impl_CostValid.f, R.map_ite, R.map_bind, R.map_none, R.map_some, R.wr64_eq]
theorem impl_CostValid.ok (k : Nat) : impl_CostValid.tw.Ok Tryd.prog k := by
  intro md hmd a r h
  refine fn_ok (H := xhn) (fh := impl_CostValid.fh) (O := impl_CostValid.O) (k := k) Tryd.func50 (by kernel_rfl) (by kernel_rfl) (fun j _ => noO_sound) (by kernel_rfl) (m := 0) rfl ?_
  refine (impl_CostValid.sf k a).trans ?_
  exact congrArg (Option.map _) h
def impl_MatrixValid_1.f (a0 : Int) : Option (Bool) := ((impl_CostValid.f a0).bind fun t1 => (some (!decide (t1 = true))))
def impl_MatrixValid_1.en (r : Bool) : Res := (.lit r, [])
def impl_MatrixValid_1.dec : List AV → List R.Obj → Option (Int)
  | [.int .i64 a0], [] => some a0
  | _, _ => none
def impl_MatrixValid_1.tw : Tw := ⟨49, Int, Bool, impl_MatrixValid_1.dec, fun a => [.int .i64 a], fun a => [], fun k a => impl_MatrixValid_1.f a, fun a r => impl_MatrixValid_1.en r, true⟩
theorem impl_MatrixValid_1.dok : impl_MatrixValid_1.tw.DecOk := by
  intro args hc a h
  have h : impl_MatrixValid_1.dec args hc = some a := h
  unfold impl_MatrixValid_1.dec at h
  split at h
  · cases h; exact ⟨rfl, rfl⟩
  · cases h
noncomputable def impl_MatrixValid_1.O (k : Nat) : Oracle := (impl_CostValid.tw.orc k noO)
def impl_MatrixValid_1.fh : FH := ⟨fun i => match i with | _ => none, [], false⟩
set_option maxRecDepth 100000 in
theorem impl_MatrixValid_1.ef (k : Nat) (a0 : Int) : R.start Tryd.prog xhn impl_MatrixValid_1.O 0 Tryd.f49 impl_MatrixValid_1.fh k [.int .i64 a0] [] = ((impl_CostValid.f a0).bind fun t1 => (some (impl_MatrixValid_1.en (!decide (t1 = true))))) := by kernel_rfl
theorem impl_MatrixValid_1.sf (k : Nat) (a0 : Int) : R.start Tryd.prog xhn impl_MatrixValid_1.O 0 Tryd.f49 impl_MatrixValid_1.fh k [.int .i64 a0] [] = (impl_MatrixValid_1.f a0).map (impl_MatrixValid_1.en) := by
  rw [impl_MatrixValid_1.ef]
  simp only [impl_MatrixValid_1.f, R.map_ite, R.map_bind, R.map_none, R.map_some, R.wr64_eq]
theorem impl_MatrixValid_1.ok (k : Nat) : impl_MatrixValid_1.tw.Ok Tryd.prog k := by
  intro md hmd a r h
  refine fn_ok (H := xhn) (fh := impl_MatrixValid_1.fh) (O := impl_MatrixValid_1.O) (k := k) Tryd.func49 (by kernel_rfl) (by kernel_rfl) (fun j _ => (Tw.orc_sound impl_CostValid.dok (impl_CostValid.ok j) (fun _ => rfl) noO_sound)) (by kernel_rfl) (m := 0) rfl ?_
  refine (impl_MatrixValid_1.sf k a).trans ?_
  exact congrArg (Option.map _) h
def slices_IndexFunc_int_int.l0 : Nat → (List Int) → Int → Int → Option (Int)
  | 0, _, _, _ => none
  | k + 1, x0, x7, x8 => (if x8 < x7 then (if 0 ≤ x8 then (if x8 < (x0.length : Int) then ((impl_MatrixValid_1.f (rdI x0 x8)).bind fun t1 => (if t1 = true then (some x8) else (slices_IndexFunc_int_int.l0 k x0 x7 (wrap64 (x8 + 1))))) else none) else none) else (some (-1)))
def slices_IndexFunc_int_int.f (k : Nat) (l0 : List Int) : Option (Int) := (slices_IndexFunc_int_int.l0 k l0 (l0.length : Int) 0)
def slices_IndexFunc_int_int.en (r : Int) : Res := (.int .i64 r, [])
def slices_IndexFunc_int_int.dec : List AV → List R.Obj → Option (List Int)
  | [.imm (.I .i64 l0), .clo 49 []], [] => some l0
  | _, _ => none
def slices_IndexFunc_int_int.tw : Tw := ⟨51, List Int, Int, slices_IndexFunc_int_int.dec, fun a => [.imm (.I .i64 a), .clo 49 []], fun a => [], fun k a => slices_IndexFunc_int_int.f k a, fun a r => slices_IndexFunc_int_int.en r, true⟩
theorem slices_IndexFunc_int_int.dok : slices_IndexFunc_int_int.tw.DecOk := by
  intro args hc a h
  have h : slices_IndexFunc_int_int.dec args hc = some a := h
  unfold slices_IndexFunc_int_int.dec at h
  split at h
  · cases h; exact ⟨rfl, rfl⟩
  · cases h
noncomputable def slices_IndexFunc_int_int.O (k : Nat) : Oracle := (impl_MatrixValid_1.tw.orc k noO)
def slices_IndexFunc_int_int.fh : FH := ⟨fun i => match i with | 2 => some [(0, 0), (1, 0), (7, 0), (8, 0)] | _ => none, [], false⟩
noncomputable def slices_IndexFunc_int_int.x0 (k : Nat) (x0 : List Int) (x7 : Int) (x8 : Int) : Option Res := R.exec Tryd.prog xhn slices_IndexFunc_int_int.O 0 Tryd.f51 slices_IndexFunc_int_int.fh k (R.point Tryd.f51 2) ⟨[(0, .imm (.I .i64 x0)), (1, .clo 49 []), (7, .int .i64 x7), (8, .int .i64 x8)], [], 2⟩
set_option maxRecDepth 100000 in
theorem slices_IndexFunc_int_int.e0 (k : Nat) (x0 : List Int) (x7 : Int) (x8 : Int) : slices_IndexFunc_int_int.x0 (k + 1) x0 x7 x8 = (if x8 < x7 then (if 0 ≤ x8 then (if x8 < (x0.length : Int) then ((impl_MatrixValid_1.f (rdI x0 x8)).bind fun t1 => (if t1 = true then (some (slices_IndexFunc_int_int.en x8)) else (slices_IndexFunc_int_int.x0 k x0 x7 (wr64 (x8 + 1))))) else none) else none) else (some (slices_IndexFunc_int_int.en (-1)))) := by kernel_rfl
set_option maxRecDepth 100000 in
theorem slices_IndexFunc_int_int.ef (k : Nat) (l0 : List Int) : R.start Tryd.prog xhn slices_IndexFunc_int_int.O 0 Tryd.f51 slices_IndexFunc_int_int.fh k [.imm (.I .i64 l0), .clo 49 []] [] = (slices_IndexFunc_int_int.x0 k l0 (l0.length : Int) 0) := by kernel_rfl
theorem slices_IndexFunc_int_int.link : ∀ k, (∀ (x0 : List Int) (x7 : Int) (x8 : Int), slices_IndexFunc_int_int.x0 k x0 x7 x8 = (slices_IndexFunc_int_int.l0 k x0 x7 x8).map (slices_IndexFunc_int_int.en))
  | 0 => fun _ _ _ => by simp only [slices_IndexFunc_int_int.l0, R.map_none]; rfl
  | k + 1 => by
    have ih0 := slices_IndexFunc_int_int.link k
    · intro x0 x7 x8
      rw [slices_IndexFunc_int_int.e0]
      simp only [slices_IndexFunc_int_int.l0, R.map_ite, R.map_bind, R.map_none, R.map_some, R.wr64_eq, ← ih0]
theorem slices_IndexFunc_int_int.sf (k : Nat) (l0 : List Int) : R.start Tryd.prog xhn slices_IndexFunc_int_int.O 0 Tryd.f51 slices_IndexFunc_int_int.fh k [.imm (.I .i64 l0), .clo 49 []] [] = (slices_IndexFunc_int_int.f k l0).map (slices_IndexFunc_int_int.en) := by
  have ih0 := slices_IndexFunc_int_int.link k
  rw [slices_IndexFunc_int_int.ef]
  simp only [slices_IndexFunc_int_int.f, R.map_ite, R.map_bind, R.map_none, R.map_some, R.wr64_eq, ← ih0]
theorem slices_IndexFunc_int_int.ok (k : Nat) : slices_IndexFunc_int_int.tw.Ok Tryd.prog k := by
  intro md hmd a r h
  refine fn_ok (H := xhn) (fh := slices_IndexFunc_int_int.fh) (O := slices_IndexFunc_int_int.O) (k := k) Tryd.func51 (by kernel_rfl) (by kernel_rfl) (fun j _ => (Tw.orc_sound impl_MatrixValid_1.dok (impl_MatrixValid_1.ok j) (fun _ => rfl) noO_sound)) (by kernel_rfl) (m := 0) rfl ?_
  refine (slices_IndexFunc_int_int.sf k a).trans ?_
  exact congrArg (Option.map _) h
def slices_ContainsFunc_int_int.f (k : Nat) (l0 : List Int) : Option (Bool) := ((slices_IndexFunc_int_int.f k l0).bind fun t1 => (some (decide (t1 ≥ 0))))
def slices_ContainsFunc_int_int.en (r : Bool) : Res := (.lit r, [])
def slices_ContainsFunc_int_int.dec : List AV → List R.Obj → Option (List Int)
  | [.imm (.I .i64 l0), .clo 49 []], [] => some l0
  | _, _ => none
def slices_ContainsFunc_int_int.tw : Tw := ⟨32, List Int, Bool, slices_ContainsFunc_int_int.dec, fun a => [.imm (.I .i64 a), .clo 49 []], fun a => [], fun k a => slices_ContainsFunc_int_int.f k a, fun a r => slices_ContainsFunc_int_int.en r, true⟩
theorem slices_ContainsFunc_int_int.dok : slices_ContainsFunc_int_int.tw.DecOk := by
  intro args hc a h
  have h : slices_ContainsFunc_int_int.dec args hc = some a := h
  unfold slices_ContainsFunc_int_int.dec at h
  split at h
  · cases h; exact ⟨rfl, rfl⟩
  · cases h
noncomputable def slices_ContainsFunc_int_int.O (k : Nat) : Oracle := (slices_IndexFunc_int_int.tw.orc k noO)
def slices_ContainsFunc_int_int.fh : FH := ⟨fun i => match i with | _ => none, [], false⟩
set_option maxRecDepth 100000 in
theorem slices_ContainsFunc_int_int.ef (k : Nat) (l0 : List Int) : R.start Tryd.prog xhn slices_ContainsFunc_int_int.O 0 Tryd.f32 slices_ContainsFunc_int_int.fh k [.imm (.I .i64 l0), .clo 49 []] [] = ((slices_IndexFunc_int_int.f k l0).bind fun t1 => (some (slices_ContainsFunc_int_int.en (decide (t1 ≥ 0))))) := by kernel_rfl
theorem slices_ContainsFunc_int_int.sf (k : Nat) (l0 : List Int) : R.start Tryd.prog xhn slices_ContainsFunc_int_int.O 0 Tryd.f32 slices_ContainsFunc_int_int.fh k [.imm (.I .i64 l0), .clo 49 []] [] = (slices_ContainsFunc_int_int.f k l0).map (slices_ContainsFunc_int_int.en) := by
  rw [slices_ContainsFunc_int_int.ef]
  simp only [slices_ContainsFunc_int_int.f, R.map_ite, R.map_bind, R.map_none, R.map_some, R.wr64_eq]
theorem slices_ContainsFunc_int_int.ok (k : Nat) : slices_ContainsFunc_int_int.tw.Ok Tryd.prog k := by
  intro md hmd a r h
  refine fn_ok (H := xhn) (fh := slices_ContainsFunc_int_int.fh) (O := slices_ContainsFunc_int_int.O) (k := k) Tryd.func32 (by kernel_rfl) (by kernel_rfl) (fun j _ => (Tw.orc_sound slices_IndexFunc_int_int.dok (slices_IndexFunc_int_int.ok j) (fun _ => rfl) noO_sound)) (by kernel_rfl) (m := 0) rfl ?_
  refine (slices_ContainsFunc_int_int.sf k a).trans ?_
  exact congrArg (Option.map _) h
def impl_MatrixValid.f (k : Nat) (a0_0 : Int) (l0_1 : List Int) : Option (Bool) := (if a0_0 < 1 then (some false) else (if a0_0 > 4 then (some false) else (if (l0_1.length : Int) = (wrap64 (a0_0 * a0_0)) then ((slices_ContainsFunc_int_int.f k l0_1).bind fun t1 => (some (!decide (t1 = true)))) else (some false))))
def impl_MatrixValid.en (r : Bool) : Res := (.lit r, [])
def impl_MatrixValid.dec : List AV → List R.Obj → Option (Int × (List Int))
  | [.agg [.int .i64 a0_0, .imm (.I .i64 l0_1)]], [] => some (a0_0, l0_1)
  | _, _ => none
def impl_MatrixValid.tw : Tw := ⟨31, Int × (List Int), Bool, impl_MatrixValid.dec, fun a => [.agg [.int .i64 a.1, .imm (.I .i64 a.2)]], fun a => [], fun k a => impl_MatrixValid.f k a.1 a.2, fun a r => impl_MatrixValid.en r, true⟩
theorem impl_MatrixValid.dok : impl_MatrixValid.tw.DecOk := by
  intro args hc a h
  have h : impl_MatrixValid.dec args hc = some a := h
  unfold impl_MatrixValid.dec at h
  split at h
  · cases h; exact ⟨rfl, rfl⟩
  · cases h
noncomputable def impl_MatrixValid.O (k : Nat) : Oracle := (slices_ContainsFunc_int_int.tw.orc k noO)
def impl_MatrixValid.fh : FH := ⟨fun i => match i with | _ => none, [], false⟩
set_option maxRecDepth 100000 in
theorem impl_MatrixValid.ef (k : Nat) (a0_0 : Int) (l0_1 : List Int) : R.start Tryd.prog xhn impl_MatrixValid.O 0 Tryd.f31 impl_MatrixValid.fh k [.agg [.int .i64 a0_0, .imm (.I .i64 l0_1)]] [] = (if a0_0 < 1 then (some (impl_MatrixValid.en false)) else (if a0_0 > 4 then (some (impl_MatrixValid.en false)) else (if (l0_1.length : Int) = (wr64 (a0_0 * a0_0)) then ((slices_ContainsFunc_int_int.f k l0_1).bind fun t1 => (some (impl_MatrixValid.en (!decide (t1 = true))))) else (some (impl_MatrixValid.en false))))) := by kernel_rfl
theorem impl_MatrixValid.sf (k : Nat) (a0_0 : Int) (l0_1 : List Int) : R.start Tryd.prog xhn impl_MatrixValid.O 0 Tryd.f31 impl_MatrixValid.fh k [.agg [.int .i64 a0_0, .imm (.I .i64 l0_1)]] [] = (impl_MatrixValid.f k a0_0 l0_1).map (impl_MatrixValid.en) := by
  rw [impl_MatrixValid.ef]
  simp only [impl_MatrixValid.f, R.map_ite, R.map_bind, R.map_none, R.map_some, R.wr64_eq]
theorem impl_MatrixValid.ok (k : Nat) : impl_MatrixValid.tw.Ok Tryd.prog k := by
  intro md hmd a r h
  refine fn_ok (H := xhn) (fh := impl_MatrixValid.fh) (O := impl_MatrixValid.O) (k := k) Tryd.func31 (by kernel_rfl) (by kernel_rfl) (fun j _ => (Tw.orc_sound slices_ContainsFunc_int_int.dok (slices_ContainsFunc_int_int.ok j) (fun _ => rfl) noO_sound)) (by kernel_rfl) (m := 0) rfl ?_
  refine (impl_MatrixValid.sf k a.1 a.2).trans ?_
  exact congrArg (Option.map _) h
def impl_GradesValid_1.f (a0 : Int) : Option (Bool) := (some (decide (a0 > 3)))
def impl_GradesValid_1.en (r : Bool) : Res := (.lit r, [])
def impl_GradesValid_1.dec : List AV → List R.Obj → Option (Int)
  | [.int .i64 a0], [] => some a0
  | _, _ => none
def impl_GradesValid_1.tw : Tw := ⟨33, Int, Bool, impl_GradesValid_1.dec, fun a => [.int .i64 a], fun a => [], fun k a => impl_GradesValid_1.f a, fun a r => impl_GradesValid_1.en r, true⟩
theorem impl_GradesValid_1.dok : impl_GradesValid_1.tw.DecOk := by
  intro args hc a h
  have h : impl_GradesValid_1.dec args hc = some a := h
  unfold impl_GradesValid_1.dec at h
  split at h
  · cases h; exact ⟨rfl, rfl⟩
  · cases h
noncomputable def impl_GradesValid_1.O (k : Nat) : Oracle := noO
def impl_GradesValid_1.fh : FH := ⟨fun i => match i with | _ => none, [], false⟩
set_option maxRecDepth 100000 in
theorem impl_GradesValid_1.ef (k : Nat) (a0 : Int) : R.start Tryd.prog xhn impl_GradesValid_1.O 0 Tryd.f33 impl_GradesValid_1.fh k [.int .i64 a0] [] = (some (impl_GradesValid_1.en (decide (a0 > 3)))) := by kernel_rfl
theorem impl_GradesValid_1.sf (k : Nat) (a0 : Int) : R.start Tryd.prog xhn impl_GradesValid_1.O 0 Tryd.f33 impl_GradesValid_1.fh k [.int .i64 a0] [] = (impl_GradesValid_1.f a0).map (impl_GradesValid_1.en) := by
  rw [impl_GradesValid_1.ef]
  simp only [impl_GradesValid_1.f, R.map_ite, R.map_bind, R.map_none, R.map_some, R.wr64_eq]
theorem impl_GradesValid_1.ok (k : Nat) : impl_GradesValid_1.tw.Ok Tryd.prog k := by
  intro md hmd a r h
  refine fn_ok (H := xhn) (fh := impl_GradesValid_1.fh) (O := impl_GradesValid_1.O) (k := k) Tryd.func33 (by kernel_rfl) (by kernel_rfl) (fun j _ => noO_sound) (by kernel_rfl) (m := 0) rfl ?_
  refine (impl_GradesValid_1.sf k a).trans ?_
  exact congrArg (Option.map _) h
def slices_IndexFunc_int_int_b.l0 : Nat → (List Int) → Int → Int → Option (Int)
  | 0, _, _, _ => none
  | k + 1, x0, x7, x8 => (if x8 < x7 then (if 0 ≤ x8 then (if x8 < (x0.length : Int) then ((impl_GradesValid_1.f (rdI x0 x8)).bind fun t1 => (if t1 = true then (some x8) else (slices_IndexFunc_int_int_b.l0 k x0 x7 (wrap64 (x8 + 1))))) else none) else none) else (some (-1)))
def slices_IndexFunc_int_int_b.f (k : Nat) (l0 : List Int) : Option (Int) := (slices_IndexFunc_int_int_b.l0 k l0 (l0.length : Int) 0)
def slices_IndexFunc_int_int_b.en (r : Int) : Res := (.int .i64 r, [])
def slices_IndexFunc_int_int_b.dec : List AV → List R.Obj → Option (List Int)
  | [.imm (.I .i64 l0), .clo 33 []], [] => some l0
  | _, _ => none
def slices_IndexFunc_int_int_b.tw : Tw := ⟨51, List Int, Int, slices_IndexFunc_int_int_b.dec, fun a => [.imm (.I .i64 a), .clo 33 []], fun a => [], fun k a => slices_IndexFunc_int_int_b.f k a, fun a r => slices_IndexFunc_int_int_b.en r, true⟩
theorem slices_IndexFunc_int_int_b.dok : slices_IndexFunc_int_int_b.tw.DecOk := by
  intro args hc a h
  have h : slices_IndexFunc_int_int_b.dec args hc = some a := h
  unfold slices_IndexFunc_int_int_b.dec at h
  split at h
  · cases h; exact ⟨rfl, rfl⟩
  · cases h
noncomputable def slices_IndexFunc_int_int_b.O (k : Nat) : Oracle := (impl_GradesValid_1.tw.orc k noO)
def slices_IndexFunc_int_int_b.fh : FH := ⟨fun i => match i with | 2 => some [(0, 0), (1, 0), (7, 0), (8, 0)] | _ => none, [], false⟩
noncomputable def slices_IndexFunc_int_int_b.x0 (k : Nat) (x0 : List Int) (x7 : Int) (x8 : Int) : Option Res := R.exec Tryd.prog xhn slices_IndexFunc_int_int_b.O 0 Tryd.f51 slices_IndexFunc_int_int_b.fh k (R.point Tryd.f51 2) ⟨[(0, .imm (.I .i64 x0)), (1, .clo 33 []), (7, .int .i64 x7), (8, .int .i64 x8)], [], 2⟩
set_option maxRecDepth 100000 in
theorem slices_IndexFunc_int_int_b.e0 (k : Nat) (x0 : List Int) (x7 : Int) (x8 : Int) : slices_IndexFunc_int_int_b.x0 (k + 1) x0 x7 x8 = (if x8 < x7 then (if 0 ≤ x8 then (if x8 < (x0.length : Int) then ((impl_GradesValid_1.f (rdI x0 x8)).bind fun t1 => (if t1 = true then (some (slices_IndexFunc_int_int_b.en x8)) else (slices_IndexFunc_int_int_b.x0 k x0 x7 (wr64 (x8 + 1))))) else none) else none) else (some (slices_IndexFunc_int_int_b.en (-1)))) := by kernel_rfl
set_option maxRecDepth 100000 in
theorem slices_IndexFunc_int_int_b.ef (k : Nat) (l0 : List Int) : R.start Tryd.prog xhn slices_IndexFunc_int_int_b.O 0 Tryd.f51 slices_IndexFunc_int_int_b.fh k [.imm (.I .i64 l0), .clo 33 []] [] = (slices_IndexFunc_int_int_b.x0 k l0 (l0.length : Int) 0) := by kernel_rfl
theorem slices_IndexFunc_int_int_b.link : ∀ k, (∀ (x0 : List Int) (x7 : Int) (x8 : Int), slices_IndexFunc_int_int_b.x0 k x0 x7 x8 = (slices_IndexFunc_int_int_b.l0 k x0 x7 x8).map (slices_IndexFunc_int_int_b.en))
  | 0 => fun _ _ _ => by simp only [slices_IndexFunc_int_int_b.l0, R.map_none]; rfl
  | k + 1 => by
    have ih0 := slices_IndexFunc_int_int_b.link k
    · intro x0 x7 x8
      rw [slices_IndexFunc_int_int_b.e0]
      simp only [slices_IndexFunc_int_int_b.l0, R.map_ite, R.map_bind, R.map_none, R.map_some, R.wr64_eq, ← ih0]
theorem slices_IndexFunc_int_int_b.sf (k : Nat) (l0 : List Int) : R.start Tryd.prog xhn slices_IndexFunc_int_int_b.O 0 Tryd.f51 slices_IndexFunc_int_int_b.fh k [.imm (.I .i64 l0), .clo 33 []] [] = (slices_IndexFunc_int_int_b.f k l0).map (slices_IndexFunc_int_int_b.en) := by
  have ih0 := slices_IndexFunc_int_int_b.link k
  rw [slices_IndexFunc_int_int_b.ef]
  simp only [slices_IndexFunc_int_int_b.f, R.map_ite, R.map_bind, R.map_none, R.map_some, R.wr64_eq, ← ih0]
theorem slices_IndexFunc_int_int_b.ok (k : Nat) : slices_IndexFunc_int_int_b.tw.Ok Tryd.prog k := by
  intro md hmd a r h
  refine fn_ok (H := xhn) (fh := slices_IndexFunc_int_int_b.fh) (O := slices_IndexFunc_int_int_b.O) (k := k) Tryd.func51 (by kernel_rfl) (by kernel_rfl) (fun j _ => (Tw.orc_sound impl_GradesValid_1.dok (impl_GradesValid_1.ok j) (fun _ => rfl) noO_sound)) (by kernel_rfl) (m := 0) rfl ?_
  refine (slices_IndexFunc_int_int_b.sf k a).trans ?_
  exact congrArg (Option.map _) h
def slices_ContainsFunc_int_int_b.f (k : Nat) (l0 : List Int) : Option (Bool) := ((slices_IndexFunc_int_int_b.f k l0).bind fun t1 => (some (decide (t1 ≥ 0))))
def slices_ContainsFunc_int_int_b.en (r : Bool) : Res := (.lit r, [])
def slices_ContainsFunc_int_int_b.dec : List AV → List R.Obj → Option (List Int)
  | [.imm (.I .i64 l0), .clo 33 []], [] => some l0
  | _, _ => none
def slices_ContainsFunc_int_int_b.tw : Tw := ⟨32, List Int, Bool, slices_ContainsFunc_int_int_b.dec, fun a => [.imm (.I .i64 a), .clo 33 []], fun a => [], fun k a => slices_ContainsFunc_int_int_b.f k a, fun a r => slices_ContainsFunc_int_int_b.en r, true⟩
theorem slices_ContainsFunc_int_int_b.dok : slices_ContainsFunc_int_int_b.tw.DecOk := by
  intro args hc a h
  have h : slices_ContainsFunc_int_int_b.dec args hc = some a := h
  unfold slices_ContainsFunc_int_int_b.dec at h
  split at h
  · cases h; exact ⟨rfl, rfl⟩
  · cases h
noncomputable def slices_ContainsFunc_int_int_b.O (k : Nat) : Oracle := (slices_IndexFunc_int_int_b.tw.orc k noO)
def slices_ContainsFunc_int_int_b.fh : FH := ⟨fun i => match i with | _ => none, [], false⟩
set_option maxRecDepth 100000 in
theorem slices_ContainsFunc_int_int_b.ef (k : Nat) (l0 : List Int) : R.start Tryd.prog xhn slices_ContainsFunc_int_int_b.O 0 Tryd.f32 slices_ContainsFunc_int_int_b.fh k [.imm (.I .i64 l0), .clo 33 []] [] = ((slices_IndexFunc_int_int_b.f k l0).bind fun t1 => (some (slices_ContainsFunc_int_int_b.en (decide (t1 ≥ 0))))) := by kernel_rfl
theorem slices_ContainsFunc_int_int_b.sf (k : Nat) (l0 : List Int) : R.start Tryd.prog xhn slices_ContainsFunc_int_int_b.O 0 Tryd.f32 slices_ContainsFunc_int_int_b.fh k [.imm (.I .i64 l0), .clo 33 []] [] = (slices_ContainsFunc_int_int_b.f k l0).map (slices_ContainsFunc_int_int_b.en) := by
  rw [slices_ContainsFunc_int_int_b.ef]
  simp only [slices_ContainsFunc_int_int_b.f, R.map_ite, R.map_bind, R.map_none, R.map_some, R.wr64_eq]
theorem slices_ContainsFunc_int_int_b.ok (k : Nat) : slices_ContainsFunc_int_int_b.tw.Ok Tryd.prog k := by
  intro md hmd a r h
  refine fn_ok (H := xhn) (fh := slices_ContainsFunc_int_int_b.fh) (O := slices_ContainsFunc_int_int_b.O) (k := k) Tryd.func32 (by kernel_rfl) (by kernel_rfl) (fun j _ => (Tw.orc_sound slices_IndexFunc_int_int_b.dok (slices_IndexFunc_int_int_b.ok j) (fun _ => rfl) noO_sound)) (by kernel_rfl) (m := 0) rfl ?_
  refine (slices_ContainsFunc_int_int_b.sf k a).trans ?_
  exact congrArg (Option.map _) h
def impl_GradesValid.f (k : Nat) (a0_0 : Int) (l0_1 : List Int) : Option (Bool) := ((impl_MatrixValid.f k a0_0 l0_1).bind fun t1 => (if t1 = true then ((slices_ContainsFunc_int_int_b.f k l0_1).bind fun t2 => (some (!decide (t2 = true)))) else (some false)))
def impl_GradesValid.en (r : Bool) : Res := (.lit r, [])
def impl_GradesValid.dec : List AV → List R.Obj → Option (Int × (List Int))
  | [.agg [.int .i64 a0_0, .imm (.I .i64 l0_1)]], [] => some (a0_0, l0_1)
  | _, _ => none
def impl_GradesValid.tw : Tw := ⟨13, Int × (List Int), Bool, impl_GradesValid.dec, fun a => [.agg [.int .i64 a.1, .imm (.I .i64 a.2)]], fun a => [], fun k a => impl_GradesValid.f k a.1 a.2, fun a r => impl_GradesValid.en r, true⟩
theorem impl_GradesValid.dok : impl_GradesValid.tw.DecOk := by
  intro args hc a h
  have h : impl_GradesValid.dec args hc = some a := h
  unfold impl_GradesValid.dec at h
  split at h
  · cases h; exact ⟨rfl, rfl⟩
  · cases h
noncomputable def impl_GradesValid.O (k : Nat) : Oracle := (impl_MatrixValid.tw.orc k (slices_ContainsFunc_int_int_b.tw.orc k noO))
def impl_GradesValid.fh : FH := ⟨fun i => match i with | _ => none, [], false⟩
set_option maxRecDepth 100000 in
theorem impl_GradesValid.ef (k : Nat) (a0_0 : Int) (l0_1 : List Int) : R.start Tryd.prog xhn impl_GradesValid.O 0 Tryd.f13 impl_GradesValid.fh k [.agg [.int .i64 a0_0, .imm (.I .i64 l0_1)]] [] = ((impl_MatrixValid.f k a0_0 l0_1).bind fun t1 => (if t1 = true then ((slices_ContainsFunc_int_int_b.f k l0_1).bind fun t2 => (some (impl_GradesValid.en (!decide (t2 = true))))) else (some (impl_GradesValid.en false)))) := by kernel_rfl
theorem impl_GradesValid.sf (k : Nat) (a0_0 : Int) (l0_1 : List Int) : R.start Tryd.prog xhn impl_GradesValid.O 0 Tryd.f13 impl_GradesValid.fh k [.agg [.int .i64 a0_0, .imm (.I .i64 l0_1)]] [] = (impl_GradesValid.f k a0_0 l0_1).map (impl_GradesValid.en) := by
  rw [impl_GradesValid.ef]
  simp only [impl_GradesValid.f, R.map_ite, R.map_bind, R.map_none, R.map_some, R.wr64_eq]
theorem impl_GradesValid.ok (k : Nat) : impl_GradesValid.tw.Ok Tryd.prog k := by
  intro md hmd a r h
  refine fn_ok (H := xhn) (fh := impl_GradesValid.fh) (O := impl_GradesValid.O) (k := k) Tryd.func13 (by kernel_rfl) (by kernel_rfl) (fun j _ => (Tw.orc_sound impl_MatrixValid.dok (impl_MatrixValid.ok j) (fun _ => rfl) (Tw.orc_sound slices_ContainsFunc_int_int_b.dok (slices_ContainsFunc_int_int_b.ok j) (fun _ => rfl) noO_sound))) (by kernel_rfl) (m := 0) rfl ?_
  refine (impl_GradesValid.sf k a.1 a.2).trans ?_
  exact congrArg (Option.map _) h
def impl_FormatGrades_1.l0 : Nat → ByteArray → (List Int) → Int → Int → Option (ByteArray)
  | 0, _, _, _, _ => none
  | k + 1, x3, x6, x7, x8 => (if x8 < x7 then (if 0 ≤ x8 then (if x8 < (x6.length : Int) then (if 0 ≤ (rdI x6 x8) then (if (rdI x6 x8) ≤ (wrap64 ((rdI x6 x8) + 1)) then (if (wrap64 ((rdI x6 x8) + 1)) ≤ ((⟨#[48, 49, 119, 45]⟩ : ByteArray).size : Int) then (if x3.size + ((⟨#[48, 49, 119, 45]⟩ : ByteArray).extract (rdI x6 x8).toNat (wrap64 ((rdI x6 x8) + 1)).toNat).size ≤ 9223372036854775807 then (impl_FormatGrades_1.l0 k (x3 ++ ((⟨#[48, 49, 119, 45]⟩ : ByteArray).extract (rdI x6 x8).toNat (wrap64 ((rdI x6 x8) + 1)).toNat)) x6 x7 (wrap64 (x8 + 1))) else none) else none) else none) else none) else none) else none) else (some x3))
def impl_FormatGrades_1.f (k : Nat) (l0 : List Int) : Option (ByteArray) := (impl_FormatGrades_1.l0 k (⟨#[]⟩ : ByteArray) l0 (l0.length : Int) 0)
def impl_FormatGrades_1.en (r : ByteArray) : Res := (.str r, [])
def impl_FormatGrades_1.dec : List AV → List R.Obj → Option (List Int)
  | [.imm (.I .i64 l0)], [] => some l0
  | _, _ => none
def impl_FormatGrades_1.tw : Tw := ⟨30, List Int, ByteArray, impl_FormatGrades_1.dec, fun a => [.imm (.I .i64 a)], fun a => [], fun k a => impl_FormatGrades_1.f k a, fun a r => impl_FormatGrades_1.en r, true⟩
theorem impl_FormatGrades_1.dok : impl_FormatGrades_1.tw.DecOk := by
  intro args hc a h
  have h : impl_FormatGrades_1.dec args hc = some a := h
  unfold impl_FormatGrades_1.dec at h
  split at h
  · cases h; exact ⟨rfl, rfl⟩
  · cases h
noncomputable def impl_FormatGrades_1.O (k : Nat) : Oracle := noO
def impl_FormatGrades_1.fh : FH := ⟨fun i => match i with | 3 => some [(3, 0), (6, 0), (7, 0), (8, 0)] | _ => none, [], false⟩
noncomputable def impl_FormatGrades_1.x0 (k : Nat) (x3 : ByteArray) (x6 : List Int) (x7 : Int) (x8 : Int) : Option Res := R.exec Tryd.prog xhn impl_FormatGrades_1.O 0 Tryd.f30 impl_FormatGrades_1.fh k (R.point Tryd.f30 3) ⟨[(3, .str x3), (6, .imm (.I .i64 x6)), (7, .int .i64 x7), (8, .int .i64 x8)], [], 2⟩
set_option maxRecDepth 100000 in
theorem impl_FormatGrades_1.e0 (k : Nat) (x3 : ByteArray) (x6 : List Int) (x7 : Int) (x8 : Int) : impl_FormatGrades_1.x0 (k + 1) x3 x6 x7 x8 = (if x8 < x7 then (if 0 ≤ x8 then (if x8 < (x6.length : Int) then (if 0 ≤ (rdI x6 x8) then (if (rdI x6 x8) ≤ (wr64 ((rdI x6 x8) + 1)) then (if (wr64 ((rdI x6 x8) + 1)) ≤ ((⟨#[48, 49, 119, 45]⟩ : ByteArray).size : Int) then (if x3.size + ((⟨#[48, 49, 119, 45]⟩ : ByteArray).extract (rdI x6 x8).toNat (wr64 ((rdI x6 x8) + 1)).toNat).size ≤ 9223372036854775807 then (impl_FormatGrades_1.x0 k (x3 ++ ((⟨#[48, 49, 119, 45]⟩ : ByteArray).extract (rdI x6 x8).toNat (wr64 ((rdI x6 x8) + 1)).toNat)) x6 x7 (wr64 (x8 + 1))) else none) else none) else none) else none) else none) else none) else (some (impl_FormatGrades_1.en x3))) := by kernel_rfl
set_option maxRecDepth 100000 in
theorem impl_FormatGrades_1.ef (k : Nat) (l0 : List Int) : R.start Tryd.prog xhn impl_FormatGrades_1.O 0 Tryd.f30 impl_FormatGrades_1.fh k [.imm (.I .i64 l0)] [] = (impl_FormatGrades_1.x0 k (⟨#[]⟩ : ByteArray) l0 (l0.length : Int) 0) := by kernel_rfl
theorem impl_FormatGrades_1.link : ∀ k, (∀ (x3 : ByteArray) (x6 : List Int) (x7 : Int) (x8 : Int), impl_FormatGrades_1.x0 k x3 x6 x7 x8 = (impl_FormatGrades_1.l0 k x3 x6 x7 x8).map (impl_FormatGrades_1.en))
  | 0 => fun _ _ _ _ => by simp only [impl_FormatGrades_1.l0, R.map_none]; rfl
  | k + 1 => by
    have ih0 := impl_FormatGrades_1.link k
    · intro x3 x6 x7 x8
      rw [impl_FormatGrades_1.e0]
      simp only [impl_FormatGrades_1.l0, R.map_ite, R.map_bind, R.map_none, R.map_some, R.wr64_eq, ← ih0]
theorem impl_FormatGrades_1.sf (k : Nat) (l0 : List Int) : R.start Tryd.prog xhn impl_FormatGrades_1.O 0 Tryd.f30 impl_FormatGrades_1.fh k [.imm (.I .i64 l0)] [] = (impl_FormatGrades_1.f k l0).map (impl_FormatGrades_1.en) := by
  have ih0 := impl_FormatGrades_1.link k
  rw [impl_FormatGrades_1.ef]
  simp only [impl_FormatGrades_1.f, R.map_ite, R.map_bind, R.map_none, R.map_some, R.wr64_eq, ← ih0]
theorem impl_FormatGrades_1.ok (k : Nat) : impl_FormatGrades_1.tw.Ok Tryd.prog k := by
  intro md hmd a r h
  refine fn_ok (H := xhn) (fh := impl_FormatGrades_1.fh) (O := impl_FormatGrades_1.O) (k := k) Tryd.func30 (by kernel_rfl) (by kernel_rfl) (fun j _ => noO_sound) (by kernel_rfl) (m := 0) rfl ?_
  refine (impl_FormatGrades_1.sf k a).trans ?_
  exact congrArg (Option.map _) h
def strings_Join.f (l0 : List ByteArray) (a1 : ByteArray) : Option ByteArray := if l0.length ≤ 1000000000 ∧ (Lib.join (l0.map (fun x => x.data.toList)) a1.data.toList).length ≤ 140737488355328 then some ⟨(Lib.join (l0.map (fun x => x.data.toList)) a1.data.toList).toArray⟩ else none
def strings_Join.dec : List AV → List R.Obj → Option (List ByteArray × ByteArray)
  | [.imm (.S l0), .str a1], [] => some (l0, a1)
  | _, _ => none
def strings_Join.tw : Tw := ⟨48, List ByteArray × ByteArray, ByteArray, strings_Join.dec, fun a => [.imm (.S a.1), .str a.2], fun a => [], fun k a => strings_Join.f a.1 a.2, fun a r => (.str r, []), false⟩
theorem strings_Join.dok : strings_Join.tw.DecOk := by
  intro args hc a h
  have h : strings_Join.dec args hc = some a := h
  unfold strings_Join.dec at h
  split at h
  · cases h; exact ⟨rfl, rfl⟩
  · cases h
theorem strings_Join.ok (k : Nat) : strings_Join.tw.Ok Tryd.prog k := by
  rintro md hmd ⟨l0, a1⟩ r h
  have h : strings_Join.f l0 a1 = some r := h
  refine ⟨callable_of Tryd.func48 (by kernel_rfl) (by kernel_rfl), fun w M I vs E => ?_⟩
  obtain ⟨V0, hV0⟩ : ∃ V0, vs[0]? = some V0 := ⟨vs[0]'(by have := E.len; have : 2 = vs.size := this; omega), Array.getElem?_eq_getElem _⟩
  have e : vs = #[V0, .string a1] := two_of E.len (fun q => Option.some.inj (q.symm.trans hV0)) (fun q => (E.args 1 _ _ rfl q).str_inv)
  obtain ⟨A0, c0, hs, hc, ha, hcell⟩ := (E.args 0 _ _ rfl hV0).imm_inv.imm_at
  subst hs
  subst e
  unfold strings_Join.f at h
  split at h
  case isFalse => cases h
  rename_i g
  obtain rfl := Option.some.inj h
  have fin : ∀ (e : Ending) (w' : World), e = .returned (.string ⟨(Lib.join (l0.map (fun x => x.data.toList)) a1.data.toList).toArray⟩) ∧ Below w.heap.size w w' → R.Leaves md w M I [] (.str ⟨(Lib.join (l0.map (fun x => x.data.toList)) a1.data.toList).toArray⟩) [] e w' := by
    rintro e w' ⟨rfl, hB⟩
    exact ext_pure (.str _) hB (fun q => Bool.noConfusion (show false = true from hmd q))
  by_cases hp : 0 < l0.length
  · obtain ⟨b, o, rfl⟩ := ha hp
    have cells : ∀ (j : Nat) x, l0[j]? = some x → w.cell? ⟨b, o + j, none⟩ = some (.string x) := fun j x hj => by
      have hjl : j < l0.length := (List.getElem?_eq_some_iff.1 hj).1
      obtain ⟨v, q1, _, q2⟩ := hcell b o rfl j 0 hjl (by simp [Ct.sz])
      have e1 : (Ct.S l0).sz = 1 := rfl
      rw [e1, Nat.mul_one, Nat.add_zero] at q1
      have e3 : rdS l0 (j : Int) = x := by simp [rdS, hj]
      have e2 := (VR.closed (M := M) q2).str_inv
      rw [q1, e2, e3]
    have hb : b < w.heap.size := World.block_lt_of_cell? _ _ (cells 0 l0[0] (List.getElem?_eq_getElem hp))
    exact (Tryd.strings_Join b o c0 l0 a1 w cells hb (by omega) hc g.2).mono fin
  · have e0 : l0 = [] := List.length_eq_zero_iff.mp (by omega)
    subst e0
    refine (Tryd.strings_Join_none A0 c0 a1 w).mono fun e w' => ?_
    rintro ⟨rfl, rfl⟩
    exact fin _ _ ⟨rfl, Below.refl _ _⟩
def impl_rows.l0 : Nat → (List ByteArray) → Int → Int → Int → (List Int) → Option (ByteArray)
  | 0, _, _, _, _, _ => none
  | k + 1, y1, x9, x10, y0_0, y0_1 => (if x10 < x9 then (if 0 ≤ (wrap64 (x10 * y0_0)) then (if (wrap64 (x10 * y0_0)) ≤ (wrap64 ((wrap64 (x10 + 1)) * y0_0)) then (if (wrap64 ((wrap64 (x10 + 1)) * y0_0)) ≤ (y0_1.length : Int) then ((impl_FormatGrades_1.f k ((y0_1.drop (wrap64 (x10 * y0_0)).toNat).take ((wrap64 ((wrap64 (x10 + 1)) * y0_0)).toNat - (wrap64 (x10 * y0_0)).toNat))).bind fun t1 => (if y1.length < 8796093022208 then (impl_rows.l0 k (y1 ++ [t1]) x9 (wrap64 (x10 + 1)) y0_0 y0_1) else none)) else none) else none) else none) else ((strings_Join.f y1 (⟨#[47]⟩ : ByteArray)).bind fun t2 => (some t2)))
def impl_rows.f (k : Nat) (a0_0 : Int) (l0_1 : List Int) : Option (ByteArray) := (impl_rows.l0 k ([] : List ByteArray) a0_0 0 a0_0 l0_1)
def impl_rows.en (r : ByteArray) : Res := (.str r, [])
def impl_rows.dec : List AV → List R.Obj → Option (Int × (List Int))
  | [.agg [.int .i64 a0_0, .imm (.I .i64 l0_1)], .clo 30 []], [] => some (a0_0, l0_1)
  | _, _ => none
def impl_rows.tw : Tw := ⟨29, Int × (List Int), ByteArray, impl_rows.dec, fun a => [.agg [.int .i64 a.1, .imm (.I .i64 a.2)], .clo 30 []], fun a => [], fun k a => impl_rows.f k a.1 a.2, fun a r => impl_rows.en r, false⟩
theorem impl_rows.dok : impl_rows.tw.DecOk := by
  intro args hc a h
  have h : impl_rows.dec args hc = some a := h
  unfold impl_rows.dec at h
  split at h
  · cases h; exact ⟨rfl, rfl⟩
  · cases h
noncomputable def impl_rows.O (k : Nat) : Oracle := (impl_FormatGrades_1.tw.orc k (strings_Join.tw.orc k noO))
def impl_rows.fh : FH := ⟨fun i => match i with | 3 => some [(1, 0), (2, 0), (5, 0), (9, 0), (10, 0)] | _ => none, [], false⟩
noncomputable def impl_rows.x0 (k : Nat) (y1 : List ByteArray) (x9 : Int) (x10 : Int) (y0_0 : Int) (y0_1 : List Int) : Option Res := R.exec Tryd.prog xhn impl_rows.O 0 Tryd.f29 impl_rows.fh k (R.point Tryd.f29 3) ⟨[(1, .clo 30 []), (2, .ptr 0 0), (5, .sl 1 0), (9, .int .i64 x9), (10, .int .i64 x10)], [(0, .box false [.int .i64 y0_0, .imm (.I .i64 y0_1)]), (1, .arr 9 0 (.S y1) false)], 4⟩
set_option maxRecDepth 100000 in
theorem impl_rows.e0 (k : Nat) (y1 : List ByteArray) (x9 : Int) (x10 : Int) (y0_0 : Int) (y0_1 : List Int) : impl_rows.x0 (k + 1) y1 x9 x10 y0_0 y0_1 = (if x10 < x9 then (if 0 ≤ (wr64 (x10 * y0_0)) then (if (wr64 (x10 * y0_0)) ≤ (wr64 ((wr64 (x10 + 1)) * y0_0)) then (if (wr64 ((wr64 (x10 + 1)) * y0_0)) ≤ (y0_1.length : Int) then ((impl_FormatGrades_1.f k ((y0_1.drop (wr64 (x10 * y0_0)).toNat).take ((wr64 ((wr64 (x10 + 1)) * y0_0)).toNat - (wr64 (x10 * y0_0)).toNat))).bind fun t1 => (if y1.length < 8796093022208 then (impl_rows.x0 k (y1 ++ [t1]) x9 (wr64 (x10 + 1)) y0_0 y0_1) else none)) else none) else none) else none) else ((strings_Join.f y1 (⟨#[47]⟩ : ByteArray)).bind fun t2 => (some (impl_rows.en t2)))) := by kernel_rfl
set_option maxRecDepth 100000 in
theorem impl_rows.ef (k : Nat) (a0_0 : Int) (l0_1 : List Int) : R.start Tryd.prog xhn impl_rows.O 0 Tryd.f29 impl_rows.fh k [.agg [.int .i64 a0_0, .imm (.I .i64 l0_1)], .clo 30 []] [] = (impl_rows.x0 k ([] : List ByteArray) a0_0 0 a0_0 l0_1) := by kernel_rfl
theorem impl_rows.link : ∀ k, (∀ (y1 : List ByteArray) (x9 : Int) (x10 : Int) (y0_0 : Int) (y0_1 : List Int), impl_rows.x0 k y1 x9 x10 y0_0 y0_1 = (impl_rows.l0 k y1 x9 x10 y0_0 y0_1).map (impl_rows.en))
  | 0 => fun _ _ _ _ _ => by simp only [impl_rows.l0, R.map_none]; rfl
  | k + 1 => by
    have ih0 := impl_rows.link k
    · intro y1 x9 x10 y0_0 y0_1
      rw [impl_rows.e0]
      simp only [impl_rows.l0, R.map_ite, R.map_bind, R.map_none, R.map_some, R.wr64_eq, ← ih0]
theorem impl_rows.sf (k : Nat) (a0_0 : Int) (l0_1 : List Int) : R.start Tryd.prog xhn impl_rows.O 0 Tryd.f29 impl_rows.fh k [.agg [.int .i64 a0_0, .imm (.I .i64 l0_1)], .clo 30 []] [] = (impl_rows.f k a0_0 l0_1).map (impl_rows.en) := by
  have ih0 := impl_rows.link k
  rw [impl_rows.ef]
  simp only [impl_rows.f, R.map_ite, R.map_bind, R.map_none, R.map_some, R.wr64_eq, ← ih0]
theorem impl_rows.ok (k : Nat) : impl_rows.tw.Ok Tryd.prog k := by
  intro md hmd a r h
  refine fn_ok (H := xhn) (fh := impl_rows.fh) (O := impl_rows.O) (k := k) Tryd.func29 (by kernel_rfl) (by kernel_rfl) (fun j _ => (Tw.orc_sound impl_FormatGrades_1.dok (impl_FormatGrades_1.ok j) (fun _ => rfl) (Tw.orc_sound strings_Join.dok (strings_Join.ok j) (fun q => Bool.noConfusion (show false = true from hmd q)) noO_sound))) (by kernel_rfl) (m := 0) rfl ?_
  refine (impl_rows.sf k a.1 a.2).trans ?_
  exact congrArg (Option.map _) h
def impl_FormatGrades.f (k : Nat) (a0_0 : Int) (l0_1 : List Int) : Option (ByteArray) := ((impl_GradesValid.f k a0_0 l0_1).bind fun t1 => (if t1 = true then ((impl_rows.f k a0_0 l0_1).bind fun t2 => (some t2)) else (some (⟨#[]⟩ : ByteArray))))
def impl_FormatGrades.en (r : ByteArray) : Res := (.str r, [])
def impl_FormatGrades.dec : List AV → List R.Obj → Option (Int × (List Int))
  | [.agg [.int .i64 a0_0, .imm (.I .i64 l0_1)]], [] => some (a0_0, l0_1)
  | _, _ => none
def impl_FormatGrades.tw : Tw := ⟨11, Int × (List Int), ByteArray, impl_FormatGrades.dec, fun a => [.agg [.int .i64 a.1, .imm (.I .i64 a.2)]], fun a => [], fun k a => impl_FormatGrades.f k a.1 a.2, fun a r => impl_FormatGrades.en r, false⟩
theorem impl_FormatGrades.dok : impl_FormatGrades.tw.DecOk := by
  intro args hc a h
  have h : impl_FormatGrades.dec args hc = some a := h
  unfold impl_FormatGrades.dec at h
  split at h
  · cases h; exact ⟨rfl, rfl⟩
  · cases h
noncomputable def impl_FormatGrades.O (k : Nat) : Oracle := (impl_GradesValid.tw.orc k (impl_rows.tw.orc k noO))
def impl_FormatGrades.fh : FH := ⟨fun i => match i with | _ => none, [], false⟩
set_option maxRecDepth 100000 in
theorem impl_FormatGrades.ef (k : Nat) (a0_0 : Int) (l0_1 : List Int) : R.start Tryd.prog xhn impl_FormatGrades.O 0 Tryd.f11 impl_FormatGrades.fh k [.agg [.int .i64 a0_0, .imm (.I .i64 l0_1)]] [] = ((impl_GradesValid.f k a0_0 l0_1).bind fun t1 => (if t1 = true then ((impl_rows.f k a0_0 l0_1).bind fun t2 => (some (impl_FormatGrades.en t2))) else (some (impl_FormatGrades.en (⟨#[]⟩ : ByteArray))))) := by kernel_rfl
theorem impl_FormatGrades.sf (k : Nat) (a0_0 : Int) (l0_1 : List Int) : R.start Tryd.prog xhn impl_FormatGrades.O 0 Tryd.f11 impl_FormatGrades.fh k [.agg [.int .i64 a0_0, .imm (.I .i64 l0_1)]] [] = (impl_FormatGrades.f k a0_0 l0_1).map (impl_FormatGrades.en) := by
  rw [impl_FormatGrades.ef]
  simp only [impl_FormatGrades.f, R.map_ite, R.map_bind, R.map_none, R.map_some, R.wr64_eq]
theorem impl_FormatGrades.ok (k : Nat) : impl_FormatGrades.tw.Ok Tryd.prog k := by
  intro md hmd a r h
  refine fn_ok (H := xhn) (fh := impl_FormatGrades.fh) (O := impl_FormatGrades.O) (k := k) Tryd.func11 (by kernel_rfl) (by kernel_rfl) (fun j _ => (Tw.orc_sound impl_GradesValid.dok (impl_GradesValid.ok j) (fun _ => rfl) (Tw.orc_sound impl_rows.dok (impl_rows.ok j) (fun q => Bool.noConfusion (show false = true from hmd q)) noO_sound))) (by kernel_rfl) (m := 0) rfl ?_
  refine (impl_FormatGrades.sf k a.1 a.2).trans ?_
  exact congrArg (Option.map _) h
def strings_IndexByte.f (a0 : ByteArray) (a1 : Int) : Option Int := some (Lib.indexByte a0.data.toList a1.toNat.toUInt8)
def strings_IndexByte.dec : List AV → List R.Obj → Option (ByteArray × Int)
  | [.str a0, .int .u8 a1], [] => some (a0, a1)
  | _, _ => none
def strings_IndexByte.tw : Tw := ⟨23, ByteArray × Int, Int, strings_IndexByte.dec, fun a => [.str a.1, .int .u8 a.2], fun a => [], fun k a => strings_IndexByte.f a.1 a.2, fun a r => (.int .i64 r, []), false⟩
theorem strings_IndexByte.dok : strings_IndexByte.tw.DecOk := by
  intro args hc a h
  have h : strings_IndexByte.dec args hc = some a := h
  unfold strings_IndexByte.dec at h
  split at h
  · cases h; exact ⟨rfl, rfl⟩
  · cases h
theorem strings_IndexByte.ok (k : Nat) : strings_IndexByte.tw.Ok Tryd.prog k := by
  intro md hmd a r h
  obtain rfl := Option.some.inj (show some _ = some r from h)
  refine ⟨callable_of Tryd.func23 (by kernel_rfl) (by kernel_rfl), fun w M I vs E => ?_⟩
  have e : vs = #[.string a.1, .int .u8 a.2] := two_of E.len (fun q => (E.args 0 _ _ rfl q).str_inv) (fun q => (E.args 1 _ _ rfl q).int_inv)
  subst e
  refine (Tryd.strings_IndexByte a.1 a.2 w).mono fun e w' => ?_
  rintro ⟨rfl, rfl⟩
  exact ext_pure (.int _ _) (Below.refl _ _) (fun q => Bool.noConfusion (show false = true from hmd q))
mutual
def impl_ParseGrades.l0 : Nat → ByteArray → (List ByteArray) → Int → Int → Int → (List Int) → Option (Int × (List Int) × Bool)
  | 0, _, _, _, _, _, _ => none
  | k + 1, x0, y2, x10, x11, y1_0, y4 => (if x11 < x10 then (if 0 ≤ x11 then (if x11 < (y2.length : Int) then (impl_ParseGrades.l1 k x0 (rdS y2 x11) y2 x10 x11 ((rdS y2 x11).size : Int) 0 (wrap64 (y1_0 + 1)) y4) else none) else none) else (if x0.toList = ([] : List UInt8) then (some (0, ([] : List Int), false)) else ((impl_FormatGrades.f k y1_0 y4).bind fun t2 => (if t2.toList = x0.toList then (some (y1_0, y4, true)) else (some (0, ([] : List Int), false))))))
def impl_ParseGrades.l1 : Nat → ByteArray → ByteArray → (List ByteArray) → Int → Int → Int → Int → Int → (List Int) → Option (Int × (List Int) × Bool)
  | 0, _, _, _, _, _, _, _, _, _ => none
  | k + 1, x0, x6, y2, x10, x11, x20, x21, y1_0, y4 => (if x21 < x20 then (if 0 ≤ x21 then (if x21 < (x6.size : Int) then ((strings_IndexByte.f (⟨#[48, 49, 119, 45]⟩ : ByteArray) (btI x6 x21)).bind fun t3 => (if y4.length < 17592186044416 then (impl_ParseGrades.l1 k x0 x6 y2 x10 x11 x20 (wrap64 (x21 + 1)) y1_0 (y4 ++ [t3])) else none)) else none) else none) else (impl_ParseGrades.l0 k x0 y2 x10 (wrap64 (x11 + 1)) y1_0 y4))
end
def impl_ParseGrades.f (k : Nat) (a0 : ByteArray) : Option (Int × (List Int) × Bool) := ((strings_Split.f a0 (⟨#[47]⟩ : ByteArray)).bind fun t1 => (impl_ParseGrades.l0 k a0 t1 (t1.length : Int) 0 0 ([] : List Int)))
def impl_ParseGrades.en (r : Int × (List Int) × Bool) : Res := (.tup [.agg [.int .i64 r.1, .sl 0 0], .lit r.2.2], [.arr 3 0 (.I .i64 r.2.1) false])
def impl_ParseGrades.dec : List AV → List R.Obj → Option (ByteArray)
  | [.str a0], [] => some a0
  | _, _ => none
def impl_ParseGrades.tw : Tw := ⟨6, ByteArray, Int × (List Int) × Bool, impl_ParseGrades.dec, fun a => [.str a], fun a => [], fun k a => impl_ParseGrades.f k a, fun a r => impl_ParseGrades.en r, false⟩
theorem impl_ParseGrades.dok : impl_ParseGrades.tw.DecOk := by
  intro args hc a h
  have h : impl_ParseGrades.dec args hc = some a := h
  unfold impl_ParseGrades.dec at h
  split at h
  · cases h; exact ⟨rfl, rfl⟩
  · cases h
noncomputable def impl_ParseGrades.O (k : Nat) : Oracle := (strings_Split.tw.orc k (impl_FormatGrades.tw.orc k (strings_IndexByte.tw.orc k noO)))
def impl_ParseGrades.fh : FH := ⟨fun i => match i with | 3 => some [(0, 0), (2, 0), (4, 0), (9, 0), (10, 0), (11, 0)] | 7 => some [(0, 0), (2, 0), (4, 0), (6, 0), (9, 0), (10, 0), (11, 0), (20, 0), (21, 0)] | _ => none, [(true, 3)], false⟩
noncomputable def impl_ParseGrades.x0 (k : Nat) (x0 : ByteArray) (y2 : List ByteArray) (x10 : Int) (x11 : Int) (y1_0 : Int) (y4 : List Int) : Option Res := R.exec Tryd.prog xhn impl_ParseGrades.O 0 Tryd.f6 impl_ParseGrades.fh k (R.point Tryd.f6 3) ⟨[(0, .str x0), (2, .ptr 0 0), (4, .ptr 1 0), (9, .sl 2 0), (10, .int .i64 x10), (11, .int .i64 x11)], [(0, .box false [.int .i64 0, .sl 3 0]), (1, .box false [.int .i64 y1_0, .sl 4 0]), (2, .arr 9 0 (.S y2) false), (3, .arr 3 0 (.I .i64 ([] : List Int)) false), (4, .arr 3 0 (.I .i64 y4) false)], 7⟩
noncomputable def impl_ParseGrades.x1 (k : Nat) (x0 : ByteArray) (x6 : ByteArray) (y2 : List ByteArray) (x10 : Int) (x11 : Int) (x20 : Int) (x21 : Int) (y1_0 : Int) (y4 : List Int) : Option Res := R.exec Tryd.prog xhn impl_ParseGrades.O 0 Tryd.f6 impl_ParseGrades.fh k (R.point Tryd.f6 7) ⟨[(0, .str x0), (2, .ptr 0 0), (4, .ptr 1 0), (6, .str x6), (9, .sl 2 0), (10, .int .i64 x10), (11, .int .i64 x11), (20, .int .i64 x20), (21, .int .i64 x21)], [(0, .box false [.int .i64 0, .sl 3 0]), (1, .box false [.int .i64 y1_0, .sl 4 0]), (2, .arr 9 0 (.S y2) false), (3, .arr 3 0 (.I .i64 ([] : List Int)) false), (4, .arr 3 0 (.I .i64 y4) false)], 7⟩
set_option maxRecDepth 100000 in
theorem impl_ParseGrades.e0 (k : Nat) (x0 : ByteArray) (y2 : List ByteArray) (x10 : Int) (x11 : Int) (y1_0 : Int) (y4 : List Int) : impl_ParseGrades.x0 (k + 1) x0 y2 x10 x11 y1_0 y4 = (if x11 < x10 then (if 0 ≤ x11 then (if x11 < (y2.length : Int) then (impl_ParseGrades.x1 k x0 (rdS y2 x11) y2 x10 x11 ((rdS y2 x11).size : Int) 0 (wr64 (y1_0 + 1)) y4) else none) else none) else (if x0.toList = ([] : List UInt8) then (some (impl_ParseGrades.en (0, ([] : List Int), false))) else ((impl_FormatGrades.f k y1_0 y4).bind fun t2 => (if t2.toList = x0.toList then (some (impl_ParseGrades.en (y1_0, y4, true))) else (some (impl_ParseGrades.en (0, ([] : List Int), false))))))) := by kernel_rfl
set_option maxRecDepth 100000 in
theorem impl_ParseGrades.e1 (k : Nat) (x0 : ByteArray) (x6 : ByteArray) (y2 : List ByteArray) (x10 : Int) (x11 : Int) (x20 : Int) (x21 : Int) (y1_0 : Int) (y4 : List Int) : impl_ParseGrades.x1 (k + 1) x0 x6 y2 x10 x11 x20 x21 y1_0 y4 = (if x21 < x20 then (if 0 ≤ x21 then (if x21 < (x6.size : Int) then ((strings_IndexByte.f (⟨#[48, 49, 119, 45]⟩ : ByteArray) (btI x6 x21)).bind fun t3 => (if y4.length < 17592186044416 then (impl_ParseGrades.x1 k x0 x6 y2 x10 x11 x20 (wr64 (x21 + 1)) y1_0 (y4 ++ [t3])) else none)) else none) else none) else (impl_ParseGrades.x0 k x0 y2 x10 (wr64 (x11 + 1)) y1_0 y4)) := by kernel_rfl
set_option maxRecDepth 100000 in
theorem impl_ParseGrades.ef (k : Nat) (a0 : ByteArray) : R.start Tryd.prog xhn impl_ParseGrades.O 0 Tryd.f6 impl_ParseGrades.fh k [.str a0] [] = ((strings_Split.f a0 (⟨#[47]⟩ : ByteArray)).bind fun t1 => (impl_ParseGrades.x0 k a0 t1 (t1.length : Int) 0 0 ([] : List Int))) := by kernel_rfl
theorem impl_ParseGrades.link : ∀ k, (∀ (x0 : ByteArray) (y2 : List ByteArray) (x10 : Int) (x11 : Int) (y1_0 : Int) (y4 : List Int), impl_ParseGrades.x0 k x0 y2 x10 x11 y1_0 y4 = (impl_ParseGrades.l0 k x0 y2 x10 x11 y1_0 y4).map (impl_ParseGrades.en)) ∧ (∀ (x0 : ByteArray) (x6 : ByteArray) (y2 : List ByteArray) (x10 : Int) (x11 : Int) (x20 : Int) (x21 : Int) (y1_0 : Int) (y4 : List Int), impl_ParseGrades.x1 k x0 x6 y2 x10 x11 x20 x21 y1_0 y4 = (impl_ParseGrades.l1 k x0 x6 y2 x10 x11 x20 x21 y1_0 y4).map (impl_ParseGrades.en))
  | 0 => ⟨fun _ _ _ _ _ _ => by simp only [impl_ParseGrades.l0, R.map_none]; rfl, fun _ _ _ _ _ _ _ _ _ => by simp only [impl_ParseGrades.l1, R.map_none]; rfl⟩
  | k + 1 => by
    obtain ⟨ih0, ih1⟩ := impl_ParseGrades.link k
    refine ⟨?_, ?_⟩
    · intro x0 y2 x10 x11 y1_0 y4
      rw [impl_ParseGrades.e0]
      simp only [impl_ParseGrades.l0, R.map_ite, R.map_bind, R.map_none, R.map_some, R.wr64_eq, ← ih0, ← ih1]
    · intro x0 x6 y2 x10 x11 x20 x21 y1_0 y4
      rw [impl_ParseGrades.e1]
      simp only [impl_ParseGrades.l1, R.map_ite, R.map_bind, R.map_none, R.map_some, R.wr64_eq, ← ih0, ← ih1]
theorem impl_ParseGrades.sf (k : Nat) (a0 : ByteArray) : R.start Tryd.prog xhn impl_ParseGrades.O 0 Tryd.f6 impl_ParseGrades.fh k [.str a0] [] = (impl_ParseGrades.f k a0).map (impl_ParseGrades.en) := by
  obtain ⟨ih0, ih1⟩ := impl_ParseGrades.link k
  rw [impl_ParseGrades.ef]
  simp only [impl_ParseGrades.f, R.map_ite, R.map_bind, R.map_none, R.map_some, R.wr64_eq, ← ih0, ← ih1]
theorem impl_ParseGrades.ok (k : Nat) : impl_ParseGrades.tw.Ok Tryd.prog k := by
  intro md hmd a r h
  refine fn_ok (H := xhn) (fh := impl_ParseGrades.fh) (O := impl_ParseGrades.O) (k := k) Tryd.func6 (by kernel_rfl) (by kernel_rfl) (fun j _ => (Tw.orc_sound strings_Split.dok (strings_Split.ok j) (fun q => Bool.noConfusion (show false = true from hmd q)) (Tw.orc_sound impl_FormatGrades.dok (impl_FormatGrades.ok j) (fun q => Bool.noConfusion (show false = true from hmd q)) (Tw.orc_sound strings_IndexByte.dok (strings_IndexByte.ok j) (fun q => Bool.noConfusion (show false = true from hmd q)) noO_sound)))) (by kernel_rfl) (m := 0) rfl ?_
  refine (impl_ParseGrades.sf k a).trans ?_
  exact congrArg (Option.map _) h
def laws_eqIntS.l0 : Nat → (List Int) → (List Int) → Int → Option (Bool)
  | 0, _, _, _ => none
  | k + 1, x0, x1, x5 => (if x5 < (x0.length : Int) then (if 0 ≤ x5 then (if x5 < (x1.length : Int) then (if (rdI x0 x5) = (rdI x1 x5) then (laws_eqIntS.l0 k x0 x1 (wrap64 (x5 + 1))) else (some false)) else none) else none) else (some true))
def laws_eqIntS.f (k : Nat) (l0 : List Int) (l1 : List Int) : Option (Bool) := (if (l0.length : Int) = (l1.length : Int) then (laws_eqIntS.l0 k l0 l1 0) else (some false))
def laws_eqIntS.en (r : Bool) : Res := (.lit r, [])
def laws_eqIntS.dec : List AV → List R.Obj → Option ((List Int) × (List Int))
  | [.imm (.I .i64 l0), .imm (.I .i64 l1)], [] => some (l0, l1)
  | _, _ => none
def laws_eqIntS.tw : Tw := ⟨24, (List Int) × (List Int), Bool, laws_eqIntS.dec, fun a => [.imm (.I .i64 a.1), .imm (.I .i64 a.2)], fun a => [], fun k a => laws_eqIntS.f k a.1 a.2, fun a r => laws_eqIntS.en r, true⟩
theorem laws_eqIntS.dok : laws_eqIntS.tw.DecOk := by
  intro args hc a h
  have h : laws_eqIntS.dec args hc = some a := h
  unfold laws_eqIntS.dec at h
  split at h
  · cases h; exact ⟨rfl, rfl⟩
  · cases h
noncomputable def laws_eqIntS.O (k : Nat) : Oracle := noO
def laws_eqIntS.fh : FH := ⟨fun i => match i with | 4 => some [(0, 0), (1, 0), (5, 0)] | _ => none, [], false⟩
noncomputable def laws_eqIntS.x0 (k : Nat) (x0 : List Int) (x1 : List Int) (x5 : Int) : Option Res := R.exec Tryd.prog xhn laws_eqIntS.O 0 Tryd.f24 laws_eqIntS.fh k (R.point Tryd.f24 4) ⟨[(0, .imm (.I .i64 x0)), (1, .imm (.I .i64 x1)), (5, .int .i64 x5)], [], 2⟩
set_option maxRecDepth 100000 in
theorem laws_eqIntS.e0 (k : Nat) (x0 : List Int) (x1 : List Int) (x5 : Int) : laws_eqIntS.x0 (k + 1) x0 x1 x5 = (if x5 < (x0.length : Int) then (if 0 ≤ x5 then (if x5 < (x1.length : Int) then (if (rdI x0 x5) = (rdI x1 x5) then (laws_eqIntS.x0 k x0 x1 (wr64 (x5 + 1))) else (some (laws_eqIntS.en false))) else none) else none) else (some (laws_eqIntS.en true))) := by
  refine Eq.trans ?_ (R.icong (fun h0 => (R.icong (fun h1 => (R.idropT (p := x5 < (x0.length : Int)) (z := none) h0 (R.idropT (p := 0 ≤ x5) (z := none) h1 rfl))) (fun h1 => rfl))) (fun h0 => rfl))
  kernel_rfl
set_option maxRecDepth 100000 in
theorem laws_eqIntS.ef (k : Nat) (l0 : List Int) (l1 : List Int) : R.start Tryd.prog xhn laws_eqIntS.O 0 Tryd.f24 laws_eqIntS.fh k [.imm (.I .i64 l0), .imm (.I .i64 l1)] [] = (if (l0.length : Int) = (l1.length : Int) then (laws_eqIntS.x0 k l0 l1 0) else (some (laws_eqIntS.en false))) := by kernel_rfl
theorem laws_eqIntS.link : ∀ k, (∀ (x0 : List Int) (x1 : List Int) (x5 : Int), laws_eqIntS.x0 k x0 x1 x5 = (laws_eqIntS.l0 k x0 x1 x5).map (laws_eqIntS.en))
  | 0 => fun _ _ _ => by simp only [laws_eqIntS.l0, R.map_none]; rfl
  | k + 1 => by
    have ih0 := laws_eqIntS.link k
    · intro x0 x1 x5
      rw [laws_eqIntS.e0]
      simp only [laws_eqIntS.l0, R.map_ite, R.map_bind, R.map_none, R.map_some, R.wr64_eq, ← ih0]
theorem laws_eqIntS.sf (k : Nat) (l0 : List Int) (l1 : List Int) : R.start Tryd.prog xhn laws_eqIntS.O 0 Tryd.f24 laws_eqIntS.fh k [.imm (.I .i64 l0), .imm (.I .i64 l1)] [] = (laws_eqIntS.f k l0 l1).map (laws_eqIntS.en) := by
  have ih0 := laws_eqIntS.link k
  rw [laws_eqIntS.ef]
  simp only [laws_eqIntS.f, R.map_ite, R.map_bind, R.map_none, R.map_some, R.wr64_eq, ← ih0]
theorem laws_eqIntS.ok (k : Nat) : laws_eqIntS.tw.Ok Tryd.prog k := by
  intro md hmd a r h
  refine fn_ok (H := xhn) (fh := laws_eqIntS.fh) (O := laws_eqIntS.O) (k := k) Tryd.func24 (by kernel_rfl) (by kernel_rfl) (fun j _ => noO_sound) (by kernel_rfl) (m := 0) rfl ?_
  refine (laws_eqIntS.sf k a.1 a.2).trans ?_
  exact congrArg (Option.map _) h
def laws_eqMatrix.f (k : Nat) (a0_0 : Int) (l0_1 : List Int) (a1_0 : Int) (l1_1 : List Int) : Option (Bool) := (if a0_0 = a1_0 then ((laws_eqIntS.f k l0_1 l1_1).bind fun t1 => (if t1 = true then (some true) else (some false))) else (some false))
def laws_eqMatrix.en (r : Bool) : Res := (.lit r, [])
def laws_eqMatrix.dec : List AV → List R.Obj → Option (Int × (List Int) × Int × (List Int))
  | [.agg [.int .i64 a0_0, .imm (.I .i64 l0_1)], .agg [.int .i64 a1_0, .imm (.I .i64 l1_1)]], [] => some (a0_0, l0_1, a1_0, l1_1)
  | _, _ => none
def laws_eqMatrix.tw : Tw := ⟨7, Int × (List Int) × Int × (List Int), Bool, laws_eqMatrix.dec, fun a => [.agg [.int .i64 a.1, .imm (.I .i64 a.2.1)], .agg [.int .i64 a.2.2.1, .imm (.I .i64 a.2.2.2)]], fun a => [], fun k a => laws_eqMatrix.f k a.1 a.2.1 a.2.2.1 a.2.2.2, fun a r => laws_eqMatrix.en r, true⟩
theorem laws_eqMatrix.dok : laws_eqMatrix.tw.DecOk := by
  intro args hc a h
  have h : laws_eqMatrix.dec args hc = some a := h
  unfold laws_eqMatrix.dec at h
  split at h
  · cases h; exact ⟨rfl, rfl⟩
  · cases h
noncomputable def laws_eqMatrix.O (k : Nat) : Oracle := (laws_eqIntS.tw.orc k noO)
def laws_eqMatrix.fh : FH := ⟨fun i => match i with | _ => none, [], false⟩
set_option maxRecDepth 100000 in
theorem laws_eqMatrix.ef (k : Nat) (a0_0 : Int) (l0_1 : List Int) (a1_0 : Int) (l1_1 : List Int) : R.start Tryd.prog xhn laws_eqMatrix.O 0 Tryd.f7 laws_eqMatrix.fh k [.agg [.int .i64 a0_0, .imm (.I .i64 l0_1)], .agg [.int .i64 a1_0, .imm (.I .i64 l1_1)]] [] = (if a0_0 = a1_0 then ((laws_eqIntS.f k l0_1 l1_1).bind fun t1 => (if t1 = true then (some (laws_eqMatrix.en true)) else (some (laws_eqMatrix.en false)))) else (some (laws_eqMatrix.en false))) := by kernel_rfl
theorem laws_eqMatrix.sf (k : Nat) (a0_0 : Int) (l0_1 : List Int) (a1_0 : Int) (l1_1 : List Int) : R.start Tryd.prog xhn laws_eqMatrix.O 0 Tryd.f7 laws_eqMatrix.fh k [.agg [.int .i64 a0_0, .imm (.I .i64 l0_1)], .agg [.int .i64 a1_0, .imm (.I .i64 l1_1)]] [] = (laws_eqMatrix.f k a0_0 l0_1 a1_0 l1_1).map (laws_eqMatrix.en) := by
  rw [laws_eqMatrix.ef]
  simp only [laws_eqMatrix.f, R.map_ite, R.map_bind, R.map_none, R.map_some, R.wr64_eq]
theorem laws_eqMatrix.ok (k : Nat) : laws_eqMatrix.tw.Ok Tryd.prog k := by
  intro md hmd a r h
  refine fn_ok (H := xhn) (fh := laws_eqMatrix.fh) (O := laws_eqMatrix.O) (k := k) Tryd.func7 (by kernel_rfl) (by kernel_rfl) (fun j _ => (Tw.orc_sound laws_eqIntS.dok (laws_eqIntS.ok j) (fun _ => rfl) noO_sound)) (by kernel_rfl) (m := 0) rfl ?_
  refine (laws_eqMatrix.sf k a.1 a.2.1 a.2.2.1 a.2.2.2).trans ?_
  exact congrArg (Option.map _) h
def laws_markIntS.l0 : Nat → (List Int) → Int → Int → Option (Int × (List Int))
  | 0, _, _, _ => none
  | k + 1, y0, x1, x5 => (if x5 < (y0.length : Int) then (if 0 ≤ x5 then (laws_markIntS.l0 k (y0.set x5.toNat x1) (wrap64 (x1 + 1)) (wrap64 (x5 + 1))) else none) else (some (x1, y0)))
def laws_markIntS.f (k : Nat) (l2 : List Int) (a1 : Int) : Option (Int × (List Int)) := (laws_markIntS.l0 k l2 a1 0)
def laws_markIntS.en (r : Int × (List Int)) : Res := (.int .i64 r.1, [.arr 3 0 (.I .i64 r.2) false])
def laws_markIntS.dec : List AV → List R.Obj → Option ((List Int) × Int)
  | [.sl 0 0, .int .i64 a1], [.arr 3 0 (.I .i64 l2) false] => some (l2, a1)
  | _, _ => none
def laws_markIntS.tw : Tw := ⟨25, (List Int) × Int, Int × (List Int), laws_markIntS.dec, fun a => [.sl 0 0, .int .i64 a.2], fun a => [.arr 3 0 (.I .i64 a.1) false], fun k a => laws_markIntS.f k a.1 a.2, fun a r => laws_markIntS.en r, true⟩
theorem laws_markIntS.dok : laws_markIntS.tw.DecOk := by
  intro args hc a h
  have h : laws_markIntS.dec args hc = some a := h
  unfold laws_markIntS.dec at h
  split at h
  · cases h; exact ⟨rfl, rfl⟩
  · cases h
noncomputable def laws_markIntS.O (k : Nat) : Oracle := noO
def laws_markIntS.fh : FH := ⟨fun i => match i with | 2 => some [(0, 0), (1, 0), (5, 0)] | _ => none, [], false⟩
noncomputable def laws_markIntS.x0 (k : Nat) (y0 : List Int) (x1 : Int) (x5 : Int) : Option Res := R.exec Tryd.prog xhn laws_markIntS.O 1 Tryd.f25 laws_markIntS.fh k (R.point Tryd.f25 2) ⟨[(0, .sl 0 0), (1, .int .i64 x1), (5, .int .i64 x5)], [(0, .arr 3 0 (.I .i64 y0) false)], 3⟩
set_option maxRecDepth 100000 in
theorem laws_markIntS.e0 (k : Nat) (y0 : List Int) (x1 : Int) (x5 : Int) : laws_markIntS.x0 (k + 1) y0 x1 x5 = (if x5 < (y0.length : Int) then (if 0 ≤ x5 then (laws_markIntS.x0 k (y0.set x5.toNat x1) (wr64 (x1 + 1)) (wr64 (x5 + 1))) else none) else (some (laws_markIntS.en (x1, y0)))) := by
  refine Eq.trans ?_ (R.icong (fun h0 => (R.icong (fun h1 => (R.idropT (p := x5 < (y0.length : Int)) (z := none) h0 rfl)) (fun h1 => rfl))) (fun h0 => rfl))
  kernel_rfl
set_option maxRecDepth 100000 in
theorem laws_markIntS.ef (k : Nat) (l2 : List Int) (a1 : Int) : R.start Tryd.prog xhn laws_markIntS.O 1 Tryd.f25 laws_markIntS.fh k [.sl 0 0, .int .i64 a1] [.arr 3 0 (.I .i64 l2) false] = (laws_markIntS.x0 k l2 a1 0) := by kernel_rfl
theorem laws_markIntS.link : ∀ k, (∀ (y0 : List Int) (x1 : Int) (x5 : Int), laws_markIntS.x0 k y0 x1 x5 = (laws_markIntS.l0 k y0 x1 x5).map (laws_markIntS.en))
  | 0 => fun _ _ _ => by simp only [laws_markIntS.l0, R.map_none]; rfl
  | k + 1 => by
    have ih0 := laws_markIntS.link k
    · intro y0 x1 x5
      rw [laws_markIntS.e0]
      simp only [laws_markIntS.l0, R.map_ite, R.map_bind, R.map_none, R.map_some, R.wr64_eq, ← ih0]
theorem laws_markIntS.sf (k : Nat) (l2 : List Int) (a1 : Int) : R.start Tryd.prog xhn laws_markIntS.O 1 Tryd.f25 laws_markIntS.fh k [.sl 0 0, .int .i64 a1] [.arr 3 0 (.I .i64 l2) false] = (laws_markIntS.f k l2 a1).map (laws_markIntS.en) := by
  have ih0 := laws_markIntS.link k
  rw [laws_markIntS.ef]
  simp only [laws_markIntS.f, R.map_ite, R.map_bind, R.map_none, R.map_some, R.wr64_eq, ← ih0]
theorem laws_markIntS.ok (k : Nat) : laws_markIntS.tw.Ok Tryd.prog k := by
  intro md hmd a r h
  refine fn_ok (H := xhn) (fh := laws_markIntS.fh) (O := laws_markIntS.O) (k := k) Tryd.func25 (by kernel_rfl) (by kernel_rfl) (fun j _ => noO_sound) (by kernel_rfl) (m := 1) rfl ?_
  refine (laws_markIntS.sf k a.1 a.2).trans ?_
  exact congrArg (Option.map _) h
def laws_markMatrix.f (k : Nat) (a0_0 : Int) (l2 : List Int) (a1 : Int) : Option (Int × (List Int)) := ((laws_markIntS.f k l2 a1).bind fun t1 => (some (t1.1, t1.2)))
def laws_markMatrix.en (r : Int × (List Int)) : Res := (.int .i64 r.1, [.arr 3 0 (.I .i64 r.2) false])
def laws_markMatrix.dec : List AV → List R.Obj → Option (Int × (List Int) × Int)
  | [.agg [.int .i64 a0_0, .sl 0 0], .int .i64 a1], [.arr 3 0 (.I .i64 l2) false] => some (a0_0, l2, a1)
  | _, _ => none
def laws_markMatrix.tw : Tw := ⟨8, Int × (List Int) × Int, Int × (List Int), laws_markMatrix.dec, fun a => [.agg [.int .i64 a.1, .sl 0 0], .int .i64 a.2.2], fun a => [.arr 3 0 (.I .i64 a.2.1) false], fun k a => laws_markMatrix.f k a.1 a.2.1 a.2.2, fun a r => laws_markMatrix.en r, true⟩
theorem laws_markMatrix.dok : laws_markMatrix.tw.DecOk := by
  intro args hc a h
  have h : laws_markMatrix.dec args hc = some a := h
  unfold laws_markMatrix.dec at h
  split at h
  · cases h; exact ⟨rfl, rfl⟩
  · cases h
noncomputable def laws_markMatrix.O (k : Nat) : Oracle := (laws_markIntS.tw.orc k noO)
def laws_markMatrix.fh : FH := ⟨fun i => match i with | _ => none, [], false⟩
set_option maxRecDepth 100000 in
theorem laws_markMatrix.ef (k : Nat) (a0_0 : Int) (l2 : List Int) (a1 : Int) : R.start Tryd.prog xhn laws_markMatrix.O 1 Tryd.f8 laws_markMatrix.fh k [.agg [.int .i64 a0_0, .sl 0 0], .int .i64 a1] [.arr 3 0 (.I .i64 l2) false] = ((laws_markIntS.f k l2 a1).bind fun t1 => (some (laws_markMatrix.en (t1.1, t1.2)))) := by kernel_rfl
theorem laws_markMatrix.sf (k : Nat) (a0_0 : Int) (l2 : List Int) (a1 : Int) : R.start Tryd.prog xhn laws_markMatrix.O 1 Tryd.f8 laws_markMatrix.fh k [.agg [.int .i64 a0_0, .sl 0 0], .int .i64 a1] [.arr 3 0 (.I .i64 l2) false] = (laws_markMatrix.f k a0_0 l2 a1).map (laws_markMatrix.en) := by
  rw [laws_markMatrix.ef]
  simp only [laws_markMatrix.f, R.map_ite, R.map_bind, R.map_none, R.map_some, R.wr64_eq]
theorem laws_markMatrix.ok (k : Nat) : laws_markMatrix.tw.Ok Tryd.prog k := by
  intro md hmd a r h
  refine fn_ok (H := xhn) (fh := laws_markMatrix.fh) (O := laws_markMatrix.O) (k := k) Tryd.func8 (by kernel_rfl) (by kernel_rfl) (fun j _ => (Tw.orc_sound laws_markIntS.dok (laws_markIntS.ok j) (fun _ => rfl) noO_sound)) (by kernel_rfl) (m := 1) rfl ?_
  refine (laws_markMatrix.sf k a.1 a.2.1 a.2.2).trans ?_
  exact congrArg (Option.map _) h
def laws_heldIntS.l0 : Nat → (List Int) → Int → Int → Option (Int)
  | 0, _, _, _ => none
  | k + 1, x0, x1, x5 => (if x5 < (x0.length : Int) then (if 0 ≤ x5 then (if (rdI x0 x5) = x1 then (laws_heldIntS.l0 k x0 (wrap64 (x1 + 1)) (wrap64 (x5 + 1))) else (some (-1))) else none) else (some x1))
def laws_heldIntS.f (k : Nat) (l0 : List Int) (a1 : Int) : Option (Int) := (laws_heldIntS.l0 k l0 a1 0)
def laws_heldIntS.en (r : Int) : Res := (.int .i64 r, [])
def laws_heldIntS.dec : List AV → List R.Obj → Option ((List Int) × Int)
  | [.imm (.I .i64 l0), .int .i64 a1], [] => some (l0, a1)
  | _, _ => none
def laws_heldIntS.tw : Tw := ⟨26, (List Int) × Int, Int, laws_heldIntS.dec, fun a => [.imm (.I .i64 a.1), .int .i64 a.2], fun a => [], fun k a => laws_heldIntS.f k a.1 a.2, fun a r => laws_heldIntS.en r, true⟩
theorem laws_heldIntS.dok : laws_heldIntS.tw.DecOk := by
  intro args hc a h
  have h : laws_heldIntS.dec args hc = some a := h
  unfold laws_heldIntS.dec at h
  split at h
  · cases h; exact ⟨rfl, rfl⟩
  · cases h
noncomputable def laws_heldIntS.O (k : Nat) : Oracle := noO
def laws_heldIntS.fh : FH := ⟨fun i => match i with | 2 => some [(0, 0), (1, 0), (5, 0)] | _ => none, [], false⟩
noncomputable def laws_heldIntS.x0 (k : Nat) (x0 : List Int) (x1 : Int) (x5 : Int) : Option Res := R.exec Tryd.prog xhn laws_heldIntS.O 0 Tryd.f26 laws_heldIntS.fh k (R.point Tryd.f26 2) ⟨[(0, .imm (.I .i64 x0)), (1, .int .i64 x1), (5, .int .i64 x5)], [], 2⟩
set_option maxRecDepth 100000 in
theorem laws_heldIntS.e0 (k : Nat) (x0 : List Int) (x1 : Int) (x5 : Int) : laws_heldIntS.x0 (k + 1) x0 x1 x5 = (if x5 < (x0.length : Int) then (if 0 ≤ x5 then (if (rdI x0 x5) = x1 then (laws_heldIntS.x0 k x0 (wr64 (x1 + 1)) (wr64 (x5 + 1))) else (some (laws_heldIntS.en (-1)))) else none) else (some (laws_heldIntS.en x1))) := by
  refine Eq.trans ?_ (R.icong (fun h0 => (R.icong (fun h1 => (R.idropT (p := x5 < (x0.length : Int)) (z := none) h0 rfl)) (fun h1 => rfl))) (fun h0 => rfl))
  kernel_rfl
set_option maxRecDepth 100000 in
theorem laws_heldIntS.ef (k : Nat) (l0 : List Int) (a1 : Int) : R.start Tryd.prog xhn laws_heldIntS.O 0 Tryd.f26 laws_heldIntS.fh k [.imm (.I .i64 l0), .int .i64 a1] [] = (laws_heldIntS.x0 k l0 a1 0) := by kernel_rfl
theorem laws_heldIntS.link : ∀ k, (∀ (x0 : List Int) (x1 : Int) (x5 : Int), laws_heldIntS.x0 k x0 x1 x5 = (laws_heldIntS.l0 k x0 x1 x5).map (laws_heldIntS.en))
  | 0 => fun _ _ _ => by simp only [laws_heldIntS.l0, R.map_none]; rfl
  | k + 1 => by
    have ih0 := laws_heldIntS.link k
    · intro x0 x1 x5
      rw [laws_heldIntS.e0]
      simp only [laws_heldIntS.l0, R.map_ite, R.map_bind, R.map_none, R.map_some, R.wr64_eq, ← ih0]
theorem laws_heldIntS.sf (k : Nat) (l0 : List Int) (a1 : Int) : R.start Tryd.prog xhn laws_heldIntS.O 0 Tryd.f26 laws_heldIntS.fh k [.imm (.I .i64 l0), .int .i64 a1] [] = (laws_heldIntS.f k l0 a1).map (laws_heldIntS.en) := by
  have ih0 := laws_heldIntS.link k
  rw [laws_heldIntS.ef]
  simp only [laws_heldIntS.f, R.map_ite, R.map_bind, R.map_none, R.map_some, R.wr64_eq, ← ih0]
theorem laws_heldIntS.ok (k : Nat) : laws_heldIntS.tw.Ok Tryd.prog k := by
  intro md hmd a r h
  refine fn_ok (H := xhn) (fh := laws_heldIntS.fh) (O := laws_heldIntS.O) (k := k) Tryd.func26 (by kernel_rfl) (by kernel_rfl) (fun j _ => noO_sound) (by kernel_rfl) (m := 0) rfl ?_
  refine (laws_heldIntS.sf k a.1 a.2).trans ?_
  exact congrArg (Option.map _) h
def laws_heldMatrix.f (k : Nat) (a0_0 : Int) (l0_1 : List Int) (a1 : Int) : Option (Int) := ((laws_heldIntS.f k l0_1 a1).bind fun t1 => (if t1 < 0 then (some (-1)) else (some t1)))
def laws_heldMatrix.en (r : Int) : Res := (.int .i64 r, [])
def laws_heldMatrix.dec : List AV → List R.Obj → Option (Int × (List Int) × Int)
  | [.agg [.int .i64 a0_0, .imm (.I .i64 l0_1)], .int .i64 a1], [] => some (a0_0, l0_1, a1)
  | _, _ => none
def laws_heldMatrix.tw : Tw := ⟨9, Int × (List Int) × Int, Int, laws_heldMatrix.dec, fun a => [.agg [.int .i64 a.1, .imm (.I .i64 a.2.1)], .int .i64 a.2.2], fun a => [], fun k a => laws_heldMatrix.f k a.1 a.2.1 a.2.2, fun a r => laws_heldMatrix.en r, true⟩
theorem laws_heldMatrix.dok : laws_heldMatrix.tw.DecOk := by
  intro args hc a h
  have h : laws_heldMatrix.dec args hc = some a := h
  unfold laws_heldMatrix.dec at h
  split at h
  · cases h; exact ⟨rfl, rfl⟩
  · cases h
noncomputable def laws_heldMatrix.O (k : Nat) : Oracle := (laws_heldIntS.tw.orc k noO)
def laws_heldMatrix.fh : FH := ⟨fun i => match i with | _ => none, [], false⟩
set_option maxRecDepth 100000 in
theorem laws_heldMatrix.ef (k : Nat) (a0_0 : Int) (l0_1 : List Int) (a1 : Int) : R.start Tryd.prog xhn laws_heldMatrix.O 0 Tryd.f9 laws_heldMatrix.fh k [.agg [.int .i64 a0_0, .imm (.I .i64 l0_1)], .int .i64 a1] [] = ((laws_heldIntS.f k l0_1 a1).bind fun t1 => (if t1 < 0 then (some (laws_heldMatrix.en (-1))) else (some (laws_heldMatrix.en t1)))) := by kernel_rfl
theorem laws_heldMatrix.sf (k : Nat) (a0_0 : Int) (l0_1 : List Int) (a1 : Int) : R.start Tryd.prog xhn laws_heldMatrix.O 0 Tryd.f9 laws_heldMatrix.fh k [.agg [.int .i64 a0_0, .imm (.I .i64 l0_1)], .int .i64 a1] [] = (laws_heldMatrix.f k a0_0 l0_1 a1).map (laws_heldMatrix.en) := by
  rw [laws_heldMatrix.ef]
  simp only [laws_heldMatrix.f, R.map_ite, R.map_bind, R.map_none, R.map_some, R.wr64_eq]
theorem laws_heldMatrix.ok (k : Nat) : laws_heldMatrix.tw.Ok Tryd.prog k := by
  intro md hmd a r h
  refine fn_ok (H := xhn) (fh := laws_heldMatrix.fh) (O := laws_heldMatrix.O) (k := k) Tryd.func9 (by kernel_rfl) (by kernel_rfl) (fun j _ => (Tw.orc_sound laws_heldIntS.dok (laws_heldIntS.ok j) (fun _ => rfl) noO_sound)) (by kernel_rfl) (m := 0) rfl ?_
  refine (laws_heldMatrix.sf k a.1 a.2.1 a.2.2).trans ?_
  exact congrArg (Option.map _) h
def laws_FnExactParseGrades.f (k : Nat) (a0 : ByteArray) : Option (Bool) := (if (a0.size : Int) > 1048576 then (some true) else ((spec_ParseGrades.f k a0).bind fun t1 => ((impl_ParseGrades.f k a0).bind fun t2 => ((laws_eqMatrix.f k t2.1 t2.2.1 t1.1 t1.2.1).bind fun t3 => (if t3 = true then (if (t2.2.2 != t1.2.2) = true then (some false) else ((laws_markMatrix.f k t2.1 t2.2.1 1).bind fun t4 => ((laws_heldMatrix.f k t2.1 t4.2 1).bind fun t5 => (if t5 < 0 then (some false) else (if t5 = t4.1 then ((impl_ParseGrades.f k a0).bind fun t6 => ((laws_eqMatrix.f k t6.1 t6.2.1 t1.1 t1.2.1).bind fun t7 => (if t7 = true then (if (t6.2.2 != t1.2.2) = true then (some false) else ((laws_heldMatrix.f k t2.1 t4.2 1).bind fun t8 => (if t8 < 0 then (some false) else (if t8 = t4.1 then (some true) else (some false))))) else (some false)))) else (some false)))))) else (some false))))))
def laws_FnExactParseGrades.en (r : Bool) : Res := (.lit r, [])
def laws_FnExactParseGrades.dec : List AV → List R.Obj → Option (ByteArray)
  | [.str a0], [] => some a0
  | _, _ => none
def laws_FnExactParseGrades.tw : Tw := ⟨3, ByteArray, Bool, laws_FnExactParseGrades.dec, fun a => [.str a], fun a => [], fun k a => laws_FnExactParseGrades.f k a, fun a r => laws_FnExactParseGrades.en r, false⟩
theorem laws_FnExactParseGrades.dok : laws_FnExactParseGrades.tw.DecOk := by
  intro args hc a h
  have h : laws_FnExactParseGrades.dec args hc = some a := h
  unfold laws_FnExactParseGrades.dec at h
  split at h
  · cases h; exact ⟨rfl, rfl⟩
  · cases h
noncomputable def laws_FnExactParseGrades.O (k : Nat) : Oracle := (spec_ParseGrades.tw.orc k (impl_ParseGrades.tw.orc k (laws_eqMatrix.tw.orc k (laws_markMatrix.tw.orc k (laws_heldMatrix.tw.orc k noO)))))
def laws_FnExactParseGrades.fh : FH := ⟨fun i => match i with | _ => none, [], false⟩
set_option maxRecDepth 100000 in
theorem laws_FnExactParseGrades.ef (k : Nat) (a0 : ByteArray) : R.start Tryd.prog xhn laws_FnExactParseGrades.O 0 Tryd.f3 laws_FnExactParseGrades.fh k [.str a0] [] = (if (a0.size : Int) > 1048576 then (some (laws_FnExactParseGrades.en true)) else ((spec_ParseGrades.f k a0).bind fun t1 => ((impl_ParseGrades.f k a0).bind fun t2 => ((laws_eqMatrix.f k t2.1 t2.2.1 t1.1 t1.2.1).bind fun t3 => (if t3 = true then (if (t2.2.2 != t1.2.2) = true then (some (laws_FnExactParseGrades.en false)) else ((laws_markMatrix.f k t2.1 t2.2.1 1).bind fun t4 => ((laws_heldMatrix.f k t2.1 t4.2 1).bind fun t5 => (if t5 < 0 then (some (laws_FnExactParseGrades.en false)) else (if t5 = t4.1 then ((impl_ParseGrades.f k a0).bind fun t6 => ((laws_eqMatrix.f k t6.1 t6.2.1 t1.1 t1.2.1).bind fun t7 => (if t7 = true then (if (t6.2.2 != t1.2.2) = true then (some (laws_FnExactParseGrades.en false)) else ((laws_heldMatrix.f k t2.1 t4.2 1).bind fun t8 => (if t8 < 0 then (some (laws_FnExactParseGrades.en false)) else (if t8 = t4.1 then (some (laws_FnExactParseGrades.en true)) else (some (laws_FnExactParseGrades.en false)))))) else (some (laws_FnExactParseGrades.en false))))) else (some (laws_FnExactParseGrades.en false))))))) else (some (laws_FnExactParseGrades.en false))))))) := by kernel_rfl
theorem laws_FnExactParseGrades.sf (k : Nat) (a0 : ByteArray) : R.start Tryd.prog xhn laws_FnExactParseGrades.O 0 Tryd.f3 laws_FnExactParseGrades.fh k [.str a0] [] = (laws_FnExactParseGrades.f k a0).map (laws_FnExactParseGrades.en) := by
  rw [laws_FnExactParseGrades.ef]
  simp only [laws_FnExactParseGrades.f, R.map_ite, R.map_bind, R.map_none, R.map_some, R.wr64_eq]
theorem laws_FnExactParseGrades.ok (k : Nat) : laws_FnExactParseGrades.tw.Ok Tryd.prog k := by
  intro md hmd a r h
  refine fn_ok (H := xhn) (fh := laws_FnExactParseGrades.fh) (O := laws_FnExactParseGrades.O) (k := k) Tryd.func3 (by kernel_rfl) (by kernel_rfl) (fun j _ => (Tw.orc_sound spec_ParseGrades.dok (spec_ParseGrades.ok j) (fun _ => rfl) (Tw.orc_sound impl_ParseGrades.dok (impl_ParseGrades.ok j) (fun q => Bool.noConfusion (show false = true from hmd q)) (Tw.orc_sound laws_eqMatrix.dok (laws_eqMatrix.ok j) (fun _ => rfl) (Tw.orc_sound laws_markMatrix.dok (laws_markMatrix.ok j) (fun _ => rfl) (Tw.orc_sound laws_heldMatrix.dok (laws_heldMatrix.ok j) (fun _ => rfl) noO_sound)))))) (by kernel_rfl) (m := 0) rfl ?_
  refine (laws_FnExactParseGrades.sf k a).trans ?_
  exact congrArg (Option.map _) h
end Go.Proofs.YtfjfdlgcneclfaaDoor.V
end
