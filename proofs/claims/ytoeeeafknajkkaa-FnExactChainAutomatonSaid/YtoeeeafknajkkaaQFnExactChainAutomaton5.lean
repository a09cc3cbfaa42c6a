import Derived.Test.YtoeeeafknajkkaaQFnExactChainAutomaton2
import Derived.Test.YtoeeeafknajkkaaProg
import Derived.WalkKit
import Derived.ProofKit
import Derived.Lib.Bytealg
import Derived.Test.YtoeeeafknajkkaaQFnExactChainAutomaton4
section
set_option linter.unusedVariables false
set_option linter.unusedSimpArgs false
namespace Go.Proofs.Ytoeeeafknajkkaa.V
open Go Go.Proofs.Ytoeeeafknajkkaa.R Go.RowKit
def xhn : R.Hints := ⟨fun e => match e with | 3 => some (.I .i64) | 5 => some (.I .u8) | 27 => some .M | 67 => some .T | _ => none, fun f => match f with | 20 => 2 | 35 => 2 | 67 => 2 | 87 => 1 | 116 => 2 | 117 => 2 | _ => 0⟩
def laws_szIntS.f (l0 : List Int) (a1 : Int) : Option (Int) := (if (wrap64 (a1 - (l0.length : Int))) < 0 then (some (-1)) else (some (wrap64 (a1 - (l0.length : Int)))))
def laws_szIntS.en (r : Int) : Res := (.int .i64 r, [])
def laws_szIntS.dec : List AV → List R.Obj → Option ((List Int) × Int)
  | [.imm (.I .i64 l0), .int .i64 a1], [] => some (l0, a1)
  | _, _ => none
def laws_szIntS.tw : Tw := ⟨55, (List Int) × Int, Int, laws_szIntS.dec, fun a => [.imm (.I .i64 a.1), .int .i64 a.2], fun a => [], fun k a => laws_szIntS.f a.1 a.2, fun a r => laws_szIntS.en r, true⟩
theorem laws_szIntS.dok : laws_szIntS.tw.DecOk := by
  intro args hc a h
  have h : laws_szIntS.dec args hc = some a := h
  unfold laws_szIntS.dec at h
  split at h
  · cases h; exact ⟨rfl, rfl⟩
  · cases h
noncomputable def laws_szIntS.O (k : Nat) : Oracle := noO
def laws_szIntS.fh : FH := ⟨fun i => match i with | _ => none, [], false⟩
set_option maxRecDepth 100000 in
theorem laws_szIntS.ef (k : Nat) (l0 : List Int) (a1 : Int) : R.start Try.prog xhn laws_szIntS.O 0 Try.f55 laws_szIntS.fh k [.imm (.I .i64 l0), .int .i64 a1] [] = (if (wr64 (a1 - (l0.length : Int))) < 0 then (some (laws_szIntS.en (-1))) else (some (laws_szIntS.en (wr64 (a1 - (l0.length : Int)))))) := by kernel_rfl
theorem laws_szIntS.sf (k : Nat) (l0 : List Int) (a1 : Int) : R.start Try.prog xhn laws_szIntS.O 0 Try.f55 laws_szIntS.fh k [.imm (.I .i64 l0), .int .i64 a1] [] = (laws_szIntS.f l0 a1).map (laws_szIntS.en) := by
  rw [laws_szIntS.ef]
  simp only [laws_szIntS.f, R.map_ite, R.map_bind, R.map_none, R.map_some, R.wr64_eq]
theorem laws_szIntS.ok (k : Nat) : laws_szIntS.tw.Ok Try.prog k := by
  intro md hmd a r h
  refine fn_ok (H := xhn) (fh := laws_szIntS.fh) (O := laws_szIntS.O) (k := k) Try.func55 (by kernel_rfl) (by kernel_rfl) (fun j _ => noO_sound) (by kernel_rfl) (m := 0) rfl ?_
  refine (laws_szIntS.sf k a.1 a.2).trans ?_
  exact congrArg (Option.map _) h
def laws_szStep.f (a0_0 : Int) (a0_1 : ByteArray) (a0_2 : Int) (a0_3 : Int) (a1 : Int) : Option (Int) := (if (wrap64 (a1 - (a0_1.size : Int))) < 0 then (some (-1)) else (some (wrap64 (a1 - (a0_1.size : Int)))))
def laws_szStep.en (r : Int) : Res := (.int .i64 r, [])
def laws_szStep.dec : List AV → List R.Obj → Option (Int × ByteArray × Int × Int × Int)
  | [.agg [.int .i64 a0_0, .str a0_1, .int .i64 a0_2, .int .i64 a0_3], .int .i64 a1], [] => some (a0_0, a0_1, a0_2, a0_3, a1)
  | _, _ => none
def laws_szStep.tw : Tw := ⟨110, Int × ByteArray × Int × Int × Int, Int, laws_szStep.dec, fun a => [.agg [.int .i64 a.1, .str a.2.1, .int .i64 a.2.2.1, .int .i64 a.2.2.2.1], .int .i64 a.2.2.2.2], fun a => [], fun k a => laws_szStep.f a.1 a.2.1 a.2.2.1 a.2.2.2.1 a.2.2.2.2, fun a r => laws_szStep.en r, true⟩
theorem laws_szStep.dok : laws_szStep.tw.DecOk := by
  intro args hc a h
  have h : laws_szStep.dec args hc = some a := h
  unfold laws_szStep.dec at h
  split at h
  · cases h; exact ⟨rfl, rfl⟩
  · cases h
noncomputable def laws_szStep.O (k : Nat) : Oracle := noO
def laws_szStep.fh : FH := ⟨fun i => match i with | _ => none, [], false⟩
set_option maxRecDepth 100000 in
theorem laws_szStep.ef (k : Nat) (a0_0 : Int) (a0_1 : ByteArray) (a0_2 : Int) (a0_3 : Int) (a1 : Int) : R.start Try.prog xhn laws_szStep.O 0 Try.f110 laws_szStep.fh k [.agg [.int .i64 a0_0, .str a0_1, .int .i64 a0_2, .int .i64 a0_3], .int .i64 a1] [] = (if (wr64 (a1 - (a0_1.size : Int))) < 0 then (some (laws_szStep.en (-1))) else (some (laws_szStep.en (wr64 (a1 - (a0_1.size : Int)))))) := by kernel_rfl
theorem laws_szStep.sf (k : Nat) (a0_0 : Int) (a0_1 : ByteArray) (a0_2 : Int) (a0_3 : Int) (a1 : Int) : R.start Try.prog xhn laws_szStep.O 0 Try.f110 laws_szStep.fh k [.agg [.int .i64 a0_0, .str a0_1, .int .i64 a0_2, .int .i64 a0_3], .int .i64 a1] [] = (laws_szStep.f a0_0 a0_1 a0_2 a0_3 a1).map (laws_szStep.en) := by
  rw [laws_szStep.ef]
  simp only [laws_szStep.f, R.map_ite, R.map_bind, R.map_none, R.map_some, R.wr64_eq]
theorem laws_szStep.ok (k : Nat) : laws_szStep.tw.Ok Try.prog k := by
  intro md hmd a r h
  refine fn_ok (H := xhn) (fh := laws_szStep.fh) (O := laws_szStep.O) (k := k) Try.func110 (by kernel_rfl) (by kernel_rfl) (fun j _ => noO_sound) (by kernel_rfl) (m := 0) rfl ?_
  refine (laws_szStep.sf k a.1 a.2.1 a.2.2.1 a.2.2.2.1 a.2.2.2.2).trans ?_
  exact congrArg (Option.map _) h
def laws_szStepS.l0 : Nat → (List Stp) → Int → Int → Option (Int)
  | 0, _, _, _ => none
  | k + 1, x0, x1, x5 => (if x5 < (x0.length : Int) then (if 0 ≤ x5 then ((laws_szStep.f ((rdT x0 x5).f0) ((rdT x0 x5).f1) ((rdT x0 x5).f2) ((rdT x0 x5).f3) x1).bind fun t1 => (if t1 < 0 then (some (-1)) else (laws_szStepS.l0 k x0 t1 (wrap64 (x5 + 1))))) else none) else (some x1))
def laws_szStepS.f (k : Nat) (l0 : List Stp) (a1 : Int) : Option (Int) := (if (wrap64 (a1 - (l0.length : Int))) < 0 then (some (-1)) else (laws_szStepS.l0 k l0 (wrap64 (a1 - (l0.length : Int))) 0))
def laws_szStepS.en (r : Int) : Res := (.int .i64 r, [])
def laws_szStepS.dec : List AV → List R.Obj → Option ((List Stp) × Int)
  | [.imm (.T l0), .int .i64 a1], [] => some (l0, a1)
  | _, _ => none
def laws_szStepS.tw : Tw := ⟨56, (List Stp) × Int, Int, laws_szStepS.dec, fun a => [.imm (.T a.1), .int .i64 a.2], fun a => [], fun k a => laws_szStepS.f k a.1 a.2, fun a r => laws_szStepS.en r, true⟩
theorem laws_szStepS.dok : laws_szStepS.tw.DecOk := by
  intro args hc a h
  have h : laws_szStepS.dec args hc = some a := h
  unfold laws_szStepS.dec at h
  split at h
  · cases h; exact ⟨rfl, rfl⟩
  · cases h
noncomputable def laws_szStepS.O (k : Nat) : Oracle := (laws_szStep.tw.orc k noO)
def laws_szStepS.fh : FH := ⟨fun i => match i with | 5 => some [(0, 0), (1, 0), (5, 0)] | _ => none, [], false⟩
noncomputable def laws_szStepS.x0 (k : Nat) (x0 : List Stp) (x1 : Int) (x5 : Int) : Option Res := R.exec Try.prog xhn laws_szStepS.O 0 Try.f56 laws_szStepS.fh k (R.point Try.f56 5) ⟨[(0, .imm (.T x0)), (1, .int .i64 x1), (5, .int .i64 x5)], [], 2⟩
set_option maxRecDepth 100000 in
theorem laws_szStepS.e0 (k : Nat) (x0 : List Stp) (x1 : Int) (x5 : Int) : laws_szStepS.x0 (k + 1) x0 x1 x5 = (if x5 < (x0.length : Int) then (if 0 ≤ x5 then ((laws_szStep.f ((rdT x0 x5).f0) ((rdT x0 x5).f1) ((rdT x0 x5).f2) ((rdT x0 x5).f3) x1).bind fun t1 => (if t1 < 0 then (some (laws_szStepS.en (-1))) else (laws_szStepS.x0 k x0 t1 (wr64 (x5 + 1))))) else none) else (some (laws_szStepS.en x1))) := by
  refine Eq.trans ?_ (R.icong (fun h0 => (R.icong (fun h1 => (R.idropT (p := x5 < (x0.length : Int)) (z := none) h0 rfl)) (fun h1 => rfl))) (fun h0 => rfl))
  kernel_rfl
set_option maxRecDepth 100000 in
theorem laws_szStepS.ef (k : Nat) (l0 : List Stp) (a1 : Int) : R.start Try.prog xhn laws_szStepS.O 0 Try.f56 laws_szStepS.fh k [.imm (.T l0), .int .i64 a1] [] = (if (wr64 (a1 - (l0.length : Int))) < 0 then (some (laws_szStepS.en (-1))) else (laws_szStepS.x0 k l0 (wr64 (a1 - (l0.length : Int))) 0)) := by kernel_rfl
theorem laws_szStepS.link : ∀ k, (∀ (x0 : List Stp) (x1 : Int) (x5 : Int), laws_szStepS.x0 k x0 x1 x5 = (laws_szStepS.l0 k x0 x1 x5).map (laws_szStepS.en))
  | 0 => fun _ _ _ => by simp only [laws_szStepS.l0, R.map_none]; rfl
  | k + 1 => by
    have ih0 := laws_szStepS.link k
    · intro x0 x1 x5
      rw [laws_szStepS.e0]
      simp only [laws_szStepS.l0, R.map_ite, R.map_bind, R.map_none, R.map_some, R.wr64_eq, ← ih0]
theorem laws_szStepS.sf (k : Nat) (l0 : List Stp) (a1 : Int) : R.start Try.prog xhn laws_szStepS.O 0 Try.f56 laws_szStepS.fh k [.imm (.T l0), .int .i64 a1] [] = (laws_szStepS.f k l0 a1).map (laws_szStepS.en) := by
  have ih0 := laws_szStepS.link k
  rw [laws_szStepS.ef]
  simp only [laws_szStepS.f, R.map_ite, R.map_bind, R.map_none, R.map_some, R.wr64_eq, ← ih0]
theorem laws_szStepS.ok (k : Nat) : laws_szStepS.tw.Ok Try.prog k := by
  intro md hmd a r h
  refine fn_ok (H := xhn) (fh := laws_szStepS.fh) (O := laws_szStepS.O) (k := k) Try.func56 (by kernel_rfl) (by kernel_rfl) (fun j _ => (Tw.orc_sound laws_szStep.dok (laws_szStep.ok j) (fun _ => rfl) noO_sound)) (by kernel_rfl) (m := 0) rfl ?_
  refine (laws_szStepS.sf k a.1 a.2).trans ?_
  exact congrArg (Option.map _) h
def laws_szAutomaton.f (k : Nat) (a0_0 : Int) (l0_1 : List Int) (l0_2 : List Int) (l0_3 : List Stp) (a1 : Int) : Option (Int) := ((laws_szIntS.f l0_1 a1).bind fun t1 => (if t1 < 0 then (some (-1)) else ((laws_szIntS.f l0_2 t1).bind fun t2 => (if t2 < 0 then (some (-1)) else ((laws_szStepS.f k l0_3 t2).bind fun t3 => (if t3 < 0 then (some (-1)) else (some t3)))))))
def laws_szAutomaton.en (r : Int) : Res := (.int .i64 r, [])
def laws_szAutomaton.dec : List AV → List R.Obj → Option (Int × (List Int) × (List Int) × (List Stp) × Int)
  | [.agg [.int .i64 a0_0, .imm (.I .i64 l0_1), .imm (.I .i64 l0_2), .imm (.T l0_3)], .int .i64 a1], [] => some (a0_0, l0_1, l0_2, l0_3, a1)
  | _, _ => none
def laws_szAutomaton.tw : Tw := ⟨15, Int × (List Int) × (List Int) × (List Stp) × Int, Int, laws_szAutomaton.dec, fun a => [.agg [.int .i64 a.1, .imm (.I .i64 a.2.1), .imm (.I .i64 a.2.2.1), .imm (.T a.2.2.2.1)], .int .i64 a.2.2.2.2], fun a => [], fun k a => laws_szAutomaton.f k a.1 a.2.1 a.2.2.1 a.2.2.2.1 a.2.2.2.2, fun a r => laws_szAutomaton.en r, true⟩
theorem laws_szAutomaton.dok : laws_szAutomaton.tw.DecOk := by
  intro args hc a h
  have h : laws_szAutomaton.dec args hc = some a := h
  unfold laws_szAutomaton.dec at h
  split at h
  · cases h; exact ⟨rfl, rfl⟩
  · cases h
noncomputable def laws_szAutomaton.O (k : Nat) : Oracle := (laws_szIntS.tw.orc k (laws_szStepS.tw.orc k noO))
def laws_szAutomaton.fh : FH := ⟨fun i => match i with | _ => none, [], false⟩
set_option maxRecDepth 100000 in
theorem laws_szAutomaton.ef (k : Nat) (a0_0 : Int) (l0_1 : List Int) (l0_2 : List Int) (l0_3 : List Stp) (a1 : Int) : R.start Try.prog xhn laws_szAutomaton.O 0 Try.f15 laws_szAutomaton.fh k [.agg [.int .i64 a0_0, .imm (.I .i64 l0_1), .imm (.I .i64 l0_2), .imm (.T l0_3)], .int .i64 a1] [] = ((laws_szIntS.f l0_1 a1).bind fun t1 => (if t1 < 0 then (some (laws_szAutomaton.en (-1))) else ((laws_szIntS.f l0_2 t1).bind fun t2 => (if t2 < 0 then (some (laws_szAutomaton.en (-1))) else ((laws_szStepS.f k l0_3 t2).bind fun t3 => (if t3 < 0 then (some (laws_szAutomaton.en (-1))) else (some (laws_szAutomaton.en t3)))))))) := by kernel_rfl
theorem laws_szAutomaton.sf (k : Nat) (a0_0 : Int) (l0_1 : List Int) (l0_2 : List Int) (l0_3 : List Stp) (a1 : Int) : R.start Try.prog xhn laws_szAutomaton.O 0 Try.f15 laws_szAutomaton.fh k [.agg [.int .i64 a0_0, .imm (.I .i64 l0_1), .imm (.I .i64 l0_2), .imm (.T l0_3)], .int .i64 a1] [] = (laws_szAutomaton.f k a0_0 l0_1 l0_2 l0_3 a1).map (laws_szAutomaton.en) := by
  rw [laws_szAutomaton.ef]
  simp only [laws_szAutomaton.f, R.map_ite, R.map_bind, R.map_none, R.map_some, R.wr64_eq]
theorem laws_szAutomaton.ok (k : Nat) : laws_szAutomaton.tw.Ok Try.prog k := by
  intro md hmd a r h
  refine fn_ok (H := xhn) (fh := laws_szAutomaton.fh) (O := laws_szAutomaton.O) (k := k) Try.func15 (by kernel_rfl) (by kernel_rfl) (fun j _ => (Tw.orc_sound laws_szIntS.dok (laws_szIntS.ok j) (fun _ => rfl) (Tw.orc_sound laws_szStepS.dok (laws_szStepS.ok j) (fun _ => rfl) noO_sound))) (by kernel_rfl) (m := 0) rfl ?_
  refine (laws_szAutomaton.sf k a.1 a.2.1 a.2.2.1 a.2.2.2.1 a.2.2.2.2).trans ?_
  exact congrArg (Option.map _) h
def laws_toIntS.l0 : Nat → (List Int) → (List Int) → Int → Option (List Int)
  | 0, _, _, _ => none
  | k + 1, x0, y0, x4 => (if x4 < (x0.length : Int) then (if 0 ≤ x4 then (if x4 < (y0.length : Int) then (laws_toIntS.l0 k x0 (y0.set x4.toNat (rdI x0 x4)) (wrap64 (x4 + 1))) else none) else none) else (some y0))
def laws_toIntS.f (k : Nat) (l0 : List Int) : Option (List Int) := (if 0 ≤ (l0.length : Int) then (if (l0.length : Int).toNat ≤ 17592186044416 then (laws_toIntS.l0 k l0 (List.replicate (l0.length : Int).toNat 0) 0) else none) else none)
def laws_toIntS.en (r : List Int) : Res := (.sl 0 0, [.arr 3 0 (.I .i64 r) false])
def laws_toIntS.dec : List AV → List R.Obj → Option (List Int)
  | [.imm (.I .i64 l0)], [] => some l0
  | _, _ => none
def laws_toIntS.tw : Tw := ⟨61, List Int, List Int, laws_toIntS.dec, fun a => [.imm (.I .i64 a)], fun a => [], fun k a => laws_toIntS.f k a, fun a r => laws_toIntS.en r, true⟩
theorem laws_toIntS.dok : laws_toIntS.tw.DecOk := by
  intro args hc a h
  have h : laws_toIntS.dec args hc = some a := h
  unfold laws_toIntS.dec at h
  split at h
  · cases h; exact ⟨rfl, rfl⟩
  · cases h
noncomputable def laws_toIntS.O (k : Nat) : Oracle := noO
def laws_toIntS.fh : FH := ⟨fun i => match i with | 3 => some [(0, 0), (3, 0), (4, 0)] | _ => none, [(true, 3)], false⟩
noncomputable def laws_toIntS.x0 (k : Nat) (x0 : List Int) (y0 : List Int) (x4 : Int) : Option Res := R.exec Try.prog xhn laws_toIntS.O 0 Try.f61 laws_toIntS.fh k (R.point Try.f61 3) ⟨[(0, .imm (.I .i64 x0)), (3, .sl 0 0), (4, .int .i64 x4)], [(0, .arr 3 0 (.I .i64 y0) false)], 3⟩
set_option maxRecDepth 100000 in
theorem laws_toIntS.e0 (k : Nat) (x0 : List Int) (y0 : List Int) (x4 : Int) : laws_toIntS.x0 (k + 1) x0 y0 x4 = (if x4 < (x0.length : Int) then (if 0 ≤ x4 then (if x4 < (y0.length : Int) then (laws_toIntS.x0 k x0 (y0.set x4.toNat (rdI x0 x4)) (wr64 (x4 + 1))) else none) else none) else (some (laws_toIntS.en y0))) := by
  refine Eq.trans ?_ (R.icong (fun h0 => (R.icong (fun h1 => (R.idropT (p := x4 < (x0.length : Int)) (z := none) h0 (R.idropT (p := 0 ≤ x4) (z := none) h1 rfl))) (fun h1 => rfl))) (fun h0 => rfl))
  kernel_rfl
set_option maxRecDepth 100000 in
theorem laws_toIntS.ef (k : Nat) (l0 : List Int) : R.start Try.prog xhn laws_toIntS.O 0 Try.f61 laws_toIntS.fh k [.imm (.I .i64 l0)] [] = (if 0 ≤ (l0.length : Int) then (if (l0.length : Int).toNat ≤ 17592186044416 then (laws_toIntS.x0 k l0 (List.replicate (l0.length : Int).toNat 0) 0) else none) else none) := by
  refine Eq.trans ?_ (R.icong (fun h0 => (R.idropT (p := (l0.length : Int) = (l0.length : Int)) (z := none) rfl rfl)) (fun h0 => rfl))
  kernel_rfl
theorem laws_toIntS.link : ∀ k, (∀ (x0 : List Int) (y0 : List Int) (x4 : Int), laws_toIntS.x0 k x0 y0 x4 = (laws_toIntS.l0 k x0 y0 x4).map (laws_toIntS.en))
  | 0 => fun _ _ _ => by simp only [laws_toIntS.l0, R.map_none]; rfl
  | k + 1 => by
    have ih0 := laws_toIntS.link k
    · intro x0 y0 x4
      rw [laws_toIntS.e0]
      simp only [laws_toIntS.l0, R.map_ite, R.map_bind, R.map_none, R.map_some, R.wr64_eq, ← ih0]
theorem laws_toIntS.sf (k : Nat) (l0 : List Int) : R.start Try.prog xhn laws_toIntS.O 0 Try.f61 laws_toIntS.fh k [.imm (.I .i64 l0)] [] = (laws_toIntS.f k l0).map (laws_toIntS.en) := by
  have ih0 := laws_toIntS.link k
  rw [laws_toIntS.ef]
  simp only [laws_toIntS.f, R.map_ite, R.map_bind, R.map_none, R.map_some, R.wr64_eq, ← ih0]
theorem laws_toIntS.ok (k : Nat) : laws_toIntS.tw.Ok Try.prog k := by
  intro md hmd a r h
  refine fn_ok (H := xhn) (fh := laws_toIntS.fh) (O := laws_toIntS.O) (k := k) Try.func61 (by kernel_rfl) (by kernel_rfl) (fun j _ => noO_sound) (by kernel_rfl) (m := 0) rfl ?_
  refine (laws_toIntS.sf k a).trans ?_
  exact congrArg (Option.map _) h
def laws_toStep.f (a0_0 : Int) (a0_1 : ByteArray) (a0_2 : Int) (a0_3 : Int) : Option (Int × ByteArray × Int × Int) := (some (a0_0, a0_1, a0_2, a0_3))
def laws_toStep.en (r : Int × ByteArray × Int × Int) : Res := (.agg [.int .i64 r.1, .str r.2.1, .int .i64 r.2.2.1, .int .i64 r.2.2.2], [])
def laws_toStep.dec : List AV → List R.Obj → Option (Int × ByteArray × Int × Int)
  | [.agg [.int .i64 a0_0, .str a0_1, .int .i64 a0_2, .int .i64 a0_3]], [] => some (a0_0, a0_1, a0_2, a0_3)
  | _, _ => none
def laws_toStep.tw : Tw := ⟨114, Int × ByteArray × Int × Int, Int × ByteArray × Int × Int, laws_toStep.dec, fun a => [.agg [.int .i64 a.1, .str a.2.1, .int .i64 a.2.2.1, .int .i64 a.2.2.2]], fun a => [], fun k a => laws_toStep.f a.1 a.2.1 a.2.2.1 a.2.2.2, fun a r => laws_toStep.en r, true⟩
theorem laws_toStep.dok : laws_toStep.tw.DecOk := by
  intro args hc a h
  have h : laws_toStep.dec args hc = some a := h
  unfold laws_toStep.dec at h
  split at h
  · cases h; exact ⟨rfl, rfl⟩
  · cases h
noncomputable def laws_toStep.O (k : Nat) : Oracle := noO
def laws_toStep.fh : FH := ⟨fun i => match i with | _ => none, [], false⟩
set_option maxRecDepth 100000 in
theorem laws_toStep.ef (k : Nat) (a0_0 : Int) (a0_1 : ByteArray) (a0_2 : Int) (a0_3 : Int) : R.start Try.prog xhn laws_toStep.O 0 Try.f114 laws_toStep.fh k [.agg [.int .i64 a0_0, .str a0_1, .int .i64 a0_2, .int .i64 a0_3]] [] = (some (laws_toStep.en (a0_0, a0_1, a0_2, a0_3))) := by kernel_rfl
theorem laws_toStep.sf (k : Nat) (a0_0 : Int) (a0_1 : ByteArray) (a0_2 : Int) (a0_3 : Int) : R.start Try.prog xhn laws_toStep.O 0 Try.f114 laws_toStep.fh k [.agg [.int .i64 a0_0, .str a0_1, .int .i64 a0_2, .int .i64 a0_3]] [] = (laws_toStep.f a0_0 a0_1 a0_2 a0_3).map (laws_toStep.en) := by
  rw [laws_toStep.ef]
  simp only [laws_toStep.f, R.map_ite, R.map_bind, R.map_none, R.map_some, R.wr64_eq]
theorem laws_toStep.ok (k : Nat) : laws_toStep.tw.Ok Try.prog k := by
  intro md hmd a r h
  refine fn_ok (H := xhn) (fh := laws_toStep.fh) (O := laws_toStep.O) (k := k) Try.func114 (by kernel_rfl) (by kernel_rfl) (fun j _ => noO_sound) (by kernel_rfl) (m := 0) rfl ?_
  refine (laws_toStep.sf k a.1 a.2.1 a.2.2.1 a.2.2.2).trans ?_
  exact congrArg (Option.map _) h
def laws_toStepS.l0 : Nat → (List Stp) → (List Stp) → Int → Option (List Stp)
  | 0, _, _, _ => none
  | k + 1, x0, y0, x4 => (if x4 < (x0.length : Int) then (if 0 ≤ x4 then ((laws_toStep.f ((rdT x0 x4).f0) ((rdT x0 x4).f1) ((rdT x0 x4).f2) ((rdT x0 x4).f3)).bind fun t1 => (if x4 < (y0.length : Int) then (laws_toStepS.l0 k x0 (y0.set x4.toNat (⟨t1.1, t1.2.1, t1.2.2.1, t1.2.2.2⟩ : Stp)) (wrap64 (x4 + 1))) else none)) else none) else (some y0))
def laws_toStepS.f (k : Nat) (l0 : List Stp) : Option (List Stp) := (if 0 ≤ (l0.length : Int) then (if (l0.length : Int).toNat ≤ 3518437208883 then (laws_toStepS.l0 k l0 (List.replicate (l0.length : Int).toNat (⟨0, (⟨#[]⟩ : ByteArray), 0, 0⟩ : Stp)) 0) else none) else none)
def laws_toStepS.en (r : List Stp) : Res := (.sl 0 0, [.arr 67 0 (.T r) false])
def laws_toStepS.dec : List AV → List R.Obj → Option (List Stp)
  | [.imm (.T l0)], [] => some l0
  | _, _ => none
def laws_toStepS.tw : Tw := ⟨62, List Stp, List Stp, laws_toStepS.dec, fun a => [.imm (.T a)], fun a => [], fun k a => laws_toStepS.f k a, fun a r => laws_toStepS.en r, true⟩
theorem laws_toStepS.dok : laws_toStepS.tw.DecOk := by
  intro args hc a h
  have h : laws_toStepS.dec args hc = some a := h
  unfold laws_toStepS.dec at h
  split at h
  · cases h; exact ⟨rfl, rfl⟩
  · cases h
noncomputable def laws_toStepS.O (k : Nat) : Oracle := (laws_toStep.tw.orc k noO)
def laws_toStepS.fh : FH := ⟨fun i => match i with | 3 => some [(0, 0), (3, 0), (4, 0)] | _ => none, [(true, 67)], false⟩
noncomputable def laws_toStepS.x0 (k : Nat) (x0 : List Stp) (y0 : List Stp) (x4 : Int) : Option Res := R.exec Try.prog xhn laws_toStepS.O 0 Try.f62 laws_toStepS.fh k (R.point Try.f62 3) ⟨[(0, .imm (.T x0)), (3, .sl 0 0), (4, .int .i64 x4)], [(0, .arr 67 0 (.T y0) false)], 3⟩
set_option maxRecDepth 100000 in
theorem laws_toStepS.e0 (k : Nat) (x0 : List Stp) (y0 : List Stp) (x4 : Int) : laws_toStepS.x0 (k + 1) x0 y0 x4 = (if x4 < (x0.length : Int) then (if 0 ≤ x4 then ((laws_toStep.f ((rdT x0 x4).f0) ((rdT x0 x4).f1) ((rdT x0 x4).f2) ((rdT x0 x4).f3)).bind fun t1 => (if x4 < (y0.length : Int) then (laws_toStepS.x0 k x0 (y0.set x4.toNat (⟨t1.1, t1.2.1, t1.2.2.1, t1.2.2.2⟩ : Stp)) (wr64 (x4 + 1))) else none)) else none) else (some (laws_toStepS.en y0))) := by
  refine Eq.trans ?_ (R.icong (fun h0 => (R.icong (fun h1 => (R.idropT (p := x4 < (x0.length : Int)) (z := none) h0 (R.bcong fun t1 => (R.idropT (p := 0 ≤ x4) (z := none) h1 rfl)))) (fun h1 => rfl))) (fun h0 => rfl))
  kernel_rfl
set_option maxRecDepth 100000 in
theorem laws_toStepS.ef (k : Nat) (l0 : List Stp) : R.start Try.prog xhn laws_toStepS.O 0 Try.f62 laws_toStepS.fh k [.imm (.T l0)] [] = (if 0 ≤ (l0.length : Int) then (if (l0.length : Int).toNat ≤ 3518437208883 then (laws_toStepS.x0 k l0 (List.replicate (l0.length : Int).toNat (⟨0, (⟨#[]⟩ : ByteArray), 0, 0⟩ : Stp)) 0) else none) else none) := by
  refine Eq.trans ?_ (R.icong (fun h0 => (R.idropT (p := (l0.length : Int) = (l0.length : Int)) (z := none) rfl rfl)) (fun h0 => rfl))
  kernel_rfl
theorem laws_toStepS.link : ∀ k, (∀ (x0 : List Stp) (y0 : List Stp) (x4 : Int), laws_toStepS.x0 k x0 y0 x4 = (laws_toStepS.l0 k x0 y0 x4).map (laws_toStepS.en))
  | 0 => fun _ _ _ => by simp only [laws_toStepS.l0, R.map_none]; rfl
  | k + 1 => by
    have ih0 := laws_toStepS.link k
    · intro x0 y0 x4
      rw [laws_toStepS.e0]
      simp only [laws_toStepS.l0, R.map_ite, R.map_bind, R.map_none, R.map_some, R.wr64_eq, ← ih0]
theorem laws_toStepS.sf (k : Nat) (l0 : List Stp) : R.start Try.prog xhn laws_toStepS.O 0 Try.f62 laws_toStepS.fh k [.imm (.T l0)] [] = (laws_toStepS.f k l0).map (laws_toStepS.en) := by
  have ih0 := laws_toStepS.link k
  rw [laws_toStepS.ef]
  simp only [laws_toStepS.f, R.map_ite, R.map_bind, R.map_none, R.map_some, R.wr64_eq, ← ih0]
theorem laws_toStepS.ok (k : Nat) : laws_toStepS.tw.Ok Try.prog k := by
  intro md hmd a r h
  refine fn_ok (H := xhn) (fh := laws_toStepS.fh) (O := laws_toStepS.O) (k := k) Try.func62 (by kernel_rfl) (by kernel_rfl) (fun j _ => (Tw.orc_sound laws_toStep.dok (laws_toStep.ok j) (fun _ => rfl) noO_sound)) (by kernel_rfl) (m := 0) rfl ?_
  refine (laws_toStepS.sf k a).trans ?_
  exact congrArg (Option.map _) h
def laws_toAutomaton.f (k : Nat) (a0_0 : Int) (l0_1 : List Int) (l0_2 : List Int) (l0_3 : List Stp) : Option (Int × (List Int) × (List Int) × (List Stp)) := ((laws_toIntS.f k l0_1).bind fun t1 => ((laws_toIntS.f k l0_2).bind fun t2 => ((laws_toStepS.f k l0_3).bind fun t3 => (some (a0_0, t1, t2, t3)))))
def laws_toAutomaton.en (r : Int × (List Int) × (List Int) × (List Stp)) : Res := (.agg [.int .i64 r.1, .sl 0 0, .sl 1 0, .sl 2 0], [.arr 3 0 (.I .i64 r.2.1) false, .arr 3 0 (.I .i64 r.2.2.1) false, .arr 67 0 (.T r.2.2.2) false])
def laws_toAutomaton.dec : List AV → List R.Obj → Option (Int × (List Int) × (List Int) × (List Stp))
  | [.agg [.int .i64 a0_0, .imm (.I .i64 l0_1), .imm (.I .i64 l0_2), .imm (.T l0_3)]], [] => some (a0_0, l0_1, l0_2, l0_3)
  | _, _ => none
def laws_toAutomaton.tw : Tw := ⟨17, Int × (List Int) × (List Int) × (List Stp), Int × (List Int) × (List Int) × (List Stp), laws_toAutomaton.dec, fun a => [.agg [.int .i64 a.1, .imm (.I .i64 a.2.1), .imm (.I .i64 a.2.2.1), .imm (.T a.2.2.2)]], fun a => [], fun k a => laws_toAutomaton.f k a.1 a.2.1 a.2.2.1 a.2.2.2, fun a r => laws_toAutomaton.en r, true⟩
theorem laws_toAutomaton.dok : laws_toAutomaton.tw.DecOk := by
  intro args hc a h
  have h : laws_toAutomaton.dec args hc = some a := h
  unfold laws_toAutomaton.dec at h
  split at h
  · cases h; exact ⟨rfl, rfl⟩
  · cases h
noncomputable def laws_toAutomaton.O (k : Nat) : Oracle := (laws_toIntS.tw.orc k (laws_toStepS.tw.orc k noO))
def laws_toAutomaton.fh : FH := ⟨fun i => match i with | _ => none, [(true, 3), (true, 3), (true, 67)], false⟩
set_option maxRecDepth 100000 in
theorem laws_toAutomaton.ef (k : Nat) (a0_0 : Int) (l0_1 : List Int) (l0_2 : List Int) (l0_3 : List Stp) : R.start Try.prog xhn laws_toAutomaton.O 0 Try.f17 laws_toAutomaton.fh k [.agg [.int .i64 a0_0, .imm (.I .i64 l0_1), .imm (.I .i64 l0_2), .imm (.T l0_3)]] [] = ((laws_toIntS.f k l0_1).bind fun t1 => ((laws_toIntS.f k l0_2).bind fun t2 => ((laws_toStepS.f k l0_3).bind fun t3 => (some (laws_toAutomaton.en (a0_0, t1, t2, t3)))))) := by kernel_rfl
theorem laws_toAutomaton.sf (k : Nat) (a0_0 : Int) (l0_1 : List Int) (l0_2 : List Int) (l0_3 : List Stp) : R.start Try.prog xhn laws_toAutomaton.O 0 Try.f17 laws_toAutomaton.fh k [.agg [.int .i64 a0_0, .imm (.I .i64 l0_1), .imm (.I .i64 l0_2), .imm (.T l0_3)]] [] = (laws_toAutomaton.f k a0_0 l0_1 l0_2 l0_3).map (laws_toAutomaton.en) := by
  rw [laws_toAutomaton.ef]
  simp only [laws_toAutomaton.f, R.map_ite, R.map_bind, R.map_none, R.map_some, R.wr64_eq]
theorem laws_toAutomaton.ok (k : Nat) : laws_toAutomaton.tw.Ok Try.prog k := by
  intro md hmd a r h
  refine fn_ok (H := xhn) (fh := laws_toAutomaton.fh) (O := laws_toAutomaton.O) (k := k) Try.func17 (by kernel_rfl) (by kernel_rfl) (fun j _ => (Tw.orc_sound laws_toIntS.dok (laws_toIntS.ok j) (fun _ => rfl) (Tw.orc_sound laws_toStepS.dok (laws_toStepS.ok j) (fun _ => rfl) noO_sound))) (by kernel_rfl) (m := 0) rfl ?_
  refine (laws_toAutomaton.sf k a.1 a.2.1 a.2.2.1 a.2.2.2).trans ?_
  exact congrArg (Option.map _) h
def spec_l1In.f (a0 : Int) (a1 : Int) (a2 : Int) : Option (Bool) := (if a0 ≥ a1 then (some (decide (a0 ≤ a2))) else (some false))
def spec_l1In.en (r : Bool) : Res := (.lit r, [])
def spec_l1In.dec : List AV → List R.Obj → Option (Int × Int × Int)
  | [.int .i64 a0, .int .i64 a1, .int .i64 a2], [] => some (a0, a1, a2)
  | _, _ => none
def spec_l1In.tw : Tw := ⟨59, Int × Int × Int, Bool, spec_l1In.dec, fun a => [.int .i64 a.1, .int .i64 a.2.1, .int .i64 a.2.2], fun a => [], fun k a => spec_l1In.f a.1 a.2.1 a.2.2, fun a r => spec_l1In.en r, true⟩
theorem spec_l1In.dok : spec_l1In.tw.DecOk := by
  intro args hc a h
  have h : spec_l1In.dec args hc = some a := h
  unfold spec_l1In.dec at h
  split at h
  · cases h; exact ⟨rfl, rfl⟩
  · cases h
noncomputable def spec_l1In.O (k : Nat) : Oracle := noO
def spec_l1In.fh : FH := ⟨fun i => match i with | _ => none, [], false⟩
set_option maxRecDepth 100000 in
theorem spec_l1In.ef (k : Nat) (a0 : Int) (a1 : Int) (a2 : Int) : R.start Try.prog xhn spec_l1In.O 0 Try.f59 spec_l1In.fh k [.int .i64 a0, .int .i64 a1, .int .i64 a2] [] = (if a0 ≥ a1 then (some (spec_l1In.en (decide (a0 ≤ a2)))) else (some (spec_l1In.en false))) := by kernel_rfl
theorem spec_l1In.sf (k : Nat) (a0 : Int) (a1 : Int) (a2 : Int) : R.start Try.prog xhn spec_l1In.O 0 Try.f59 spec_l1In.fh k [.int .i64 a0, .int .i64 a1, .int .i64 a2] [] = (spec_l1In.f a0 a1 a2).map (spec_l1In.en) := by
  rw [spec_l1In.ef]
  simp only [spec_l1In.f, R.map_ite, R.map_bind, R.map_none, R.map_some, R.wr64_eq]
theorem spec_l1In.ok (k : Nat) : spec_l1In.tw.Ok Try.prog k := by
  intro md hmd a r h
  refine fn_ok (H := xhn) (fh := spec_l1In.fh) (O := spec_l1In.O) (k := k) Try.func59 (by kernel_rfl) (by kernel_rfl) (fun j _ => noO_sound) (by kernel_rfl) (m := 0) rfl ?_
  refine (spec_l1In.sf k a.1 a.2.1 a.2.2).trans ?_
  exact congrArg (Option.map _) h
def spec_l3Marks.l0 : Nat → Int → (List Int) → (List Int) → Int → Int → Option (Bool)
  | 0, _, _, _, _, _ => none
  | k + 1, x0, x1, x7, x8, x9 => (if x9 < x8 then (if 0 ≤ x9 then (if x9 < (x7.length : Int) then ((spec_l1In.f (rdI x7 x9) 0 (wrap64 (x0 - 1))).bind fun t1 => (if t1 = true then (if x9 > 0 then (if 0 ≤ (wrap64 (x9 - 1)) then (if (wrap64 (x9 - 1)) < (x1.length : Int) then (if (rdI x1 (wrap64 (x9 - 1))) ≥ (rdI x7 x9) then (some false) else (spec_l3Marks.l0 k x0 x1 x7 x8 (wrap64 (x9 + 1)))) else none) else none) else (spec_l3Marks.l0 k x0 x1 x7 x8 (wrap64 (x9 + 1)))) else (some false))) else none) else none) else (some true))
def spec_l3Marks.f (k : Nat) (a0 : Int) (l1 : List Int) : Option (Bool) := (spec_l3Marks.l0 k a0 l1 l1 (l1.length : Int) 0)
def spec_l3Marks.en (r : Bool) : Res := (.lit r, [])
def spec_l3Marks.dec : List AV → List R.Obj → Option (Int × (List Int))
  | [.int .i64 a0, .imm (.I .i64 l1)], [] => some (a0, l1)
  | _, _ => none
def spec_l3Marks.tw : Tw := ⟨111, Int × (List Int), Bool, spec_l3Marks.dec, fun a => [.int .i64 a.1, .imm (.I .i64 a.2)], fun a => [], fun k a => spec_l3Marks.f k a.1 a.2, fun a r => spec_l3Marks.en r, true⟩
theorem spec_l3Marks.dok : spec_l3Marks.tw.DecOk := by
  intro args hc a h
  have h : spec_l3Marks.dec args hc = some a := h
  unfold spec_l3Marks.dec at h
  split at h
  · cases h; exact ⟨rfl, rfl⟩
  · cases h
noncomputable def spec_l3Marks.O (k : Nat) : Oracle := (spec_l1In.tw.orc k noO)
def spec_l3Marks.fh : FH := ⟨fun i => match i with | 2 => some [(0, 0), (1, 0), (7, 0), (8, 0), (9, 0)] | _ => none, [], false⟩
noncomputable def spec_l3Marks.x0 (k : Nat) (x0 : Int) (x1 : List Int) (x7 : List Int) (x8 : Int) (x9 : Int) : Option Res := R.exec Try.prog xhn spec_l3Marks.O 0 Try.f111 spec_l3Marks.fh k (R.point Try.f111 2) ⟨[(0, .int .i64 x0), (1, .imm (.I .i64 x1)), (7, .imm (.I .i64 x7)), (8, .int .i64 x8), (9, .int .i64 x9)], [], 2⟩
set_option maxRecDepth 100000 in
theorem spec_l3Marks.e0 (k : Nat) (x0 : Int) (x1 : List Int) (x7 : List Int) (x8 : Int) (x9 : Int) : spec_l3Marks.x0 (k + 1) x0 x1 x7 x8 x9 = (if x9 < x8 then (if 0 ≤ x9 then (if x9 < (x7.length : Int) then ((spec_l1In.f (rdI x7 x9) 0 (wr64 (x0 - 1))).bind fun t1 => (if t1 = true then (if x9 > 0 then (if 0 ≤ (wr64 (x9 - 1)) then (if (wr64 (x9 - 1)) < (x1.length : Int) then (if (rdI x1 (wr64 (x9 - 1))) ≥ (rdI x7 x9) then (some (spec_l3Marks.en false)) else (spec_l3Marks.x0 k x0 x1 x7 x8 (wr64 (x9 + 1)))) else none) else none) else (spec_l3Marks.x0 k x0 x1 x7 x8 (wr64 (x9 + 1)))) else (some (spec_l3Marks.en false)))) else none) else none) else (some (spec_l3Marks.en true))) := by kernel_rfl
set_option maxRecDepth 100000 in
theorem spec_l3Marks.ef (k : Nat) (a0 : Int) (l1 : List Int) : R.start Try.prog xhn spec_l3Marks.O 0 Try.f111 spec_l3Marks.fh k [.int .i64 a0, .imm (.I .i64 l1)] [] = (spec_l3Marks.x0 k a0 l1 l1 (l1.length : Int) 0) := by kernel_rfl
theorem spec_l3Marks.link : ∀ k, (∀ (x0 : Int) (x1 : List Int) (x7 : List Int) (x8 : Int) (x9 : Int), spec_l3Marks.x0 k x0 x1 x7 x8 x9 = (spec_l3Marks.l0 k x0 x1 x7 x8 x9).map (spec_l3Marks.en))
  | 0 => fun _ _ _ _ _ => by simp only [spec_l3Marks.l0, R.map_none]; rfl
  | k + 1 => by
    have ih0 := spec_l3Marks.link k
    · intro x0 x1 x7 x8 x9
      rw [spec_l3Marks.e0]
      simp only [spec_l3Marks.l0, R.map_ite, R.map_bind, R.map_none, R.map_some, R.wr64_eq, ← ih0]
theorem spec_l3Marks.sf (k : Nat) (a0 : Int) (l1 : List Int) : R.start Try.prog xhn spec_l3Marks.O 0 Try.f111 spec_l3Marks.fh k [.int .i64 a0, .imm (.I .i64 l1)] [] = (spec_l3Marks.f k a0 l1).map (spec_l3Marks.en) := by
  have ih0 := spec_l3Marks.link k
  rw [spec_l3Marks.ef]
  simp only [spec_l3Marks.f, R.map_ite, R.map_bind, R.map_none, R.map_some, R.wr64_eq, ← ih0]
theorem spec_l3Marks.ok (k : Nat) : spec_l3Marks.tw.Ok Try.prog k := by
  intro md hmd a r h
  refine fn_ok (H := xhn) (fh := spec_l3Marks.fh) (O := spec_l3Marks.O) (k := k) Try.func111 (by kernel_rfl) (by kernel_rfl) (fun j _ => (Tw.orc_sound spec_l1In.dok (spec_l1In.ok j) (fun _ => rfl) noO_sound)) (by kernel_rfl) (m := 0) rfl ?_
  refine (spec_l3Marks.sf k a.1 a.2).trans ?_
  exact congrArg (Option.map _) h
def spec_l3Step.f (a0 : Int) (a1_0 : Int) (a1_1 : ByteArray) (a1_2 : Int) (a1_3 : Int) : Option (Bool) := ((spec_l1In.f a1_0 0 (wrap64 (a0 - 1))).bind fun t1 => (if t1 = true then ((spec_l1In.f a1_2 0 (wrap64 (a0 - 1))).bind fun t2 => (if t2 = true then ((spec_l1In.f a1_3 0 3).bind fun t3 => (if t3 = true then (if a1_1.toList = ([97] : List UInt8) then (some true) else (some (decide (a1_1.toList = ([98] : List UInt8))))) else (some false))) else (some false))) else (some false)))
def spec_l3Step.en (r : Bool) : Res := (.lit r, [])
def spec_l3Step.dec : List AV → List R.Obj → Option (Int × Int × ByteArray × Int × Int)
  | [.int .i64 a0, .agg [.int .i64 a1_0, .str a1_1, .int .i64 a1_2, .int .i64 a1_3]], [] => some (a0, a1_0, a1_1, a1_2, a1_3)
  | _, _ => none
def spec_l3Step.tw : Tw := ⟨112, Int × Int × ByteArray × Int × Int, Bool, spec_l3Step.dec, fun a => [.int .i64 a.1, .agg [.int .i64 a.2.1, .str a.2.2.1, .int .i64 a.2.2.2.1, .int .i64 a.2.2.2.2]], fun a => [], fun k a => spec_l3Step.f a.1 a.2.1 a.2.2.1 a.2.2.2.1 a.2.2.2.2, fun a r => spec_l3Step.en r, true⟩
theorem spec_l3Step.dok : spec_l3Step.tw.DecOk := by
  intro args hc a h
  have h : spec_l3Step.dec args hc = some a := h
  unfold spec_l3Step.dec at h
  split at h
  · cases h; exact ⟨rfl, rfl⟩
  · cases h
noncomputable def spec_l3Step.O (k : Nat) : Oracle := (spec_l1In.tw.orc k noO)
def spec_l3Step.fh : FH := ⟨fun i => match i with | _ => none, [], false⟩
set_option maxRecDepth 100000 in
theorem spec_l3Step.ef (k : Nat) (a0 : Int) (a1_0 : Int) (a1_1 : ByteArray) (a1_2 : Int) (a1_3 : Int) : R.start Try.prog xhn spec_l3Step.O 0 Try.f112 spec_l3Step.fh k [.int .i64 a0, .agg [.int .i64 a1_0, .str a1_1, .int .i64 a1_2, .int .i64 a1_3]] [] = ((spec_l1In.f a1_0 0 (wr64 (a0 - 1))).bind fun t1 => (if t1 = true then ((spec_l1In.f a1_2 0 (wr64 (a0 - 1))).bind fun t2 => (if t2 = true then ((spec_l1In.f a1_3 0 3).bind fun t3 => (if t3 = true then (if a1_1.toList = ([97] : List UInt8) then (some (spec_l3Step.en true)) else (some (spec_l3Step.en (decide (a1_1.toList = ([98] : List UInt8)))))) else (some (spec_l3Step.en false)))) else (some (spec_l3Step.en false)))) else (some (spec_l3Step.en false)))) := by kernel_rfl
theorem spec_l3Step.sf (k : Nat) (a0 : Int) (a1_0 : Int) (a1_1 : ByteArray) (a1_2 : Int) (a1_3 : Int) : R.start Try.prog xhn spec_l3Step.O 0 Try.f112 spec_l3Step.fh k [.int .i64 a0, .agg [.int .i64 a1_0, .str a1_1, .int .i64 a1_2, .int .i64 a1_3]] [] = (spec_l3Step.f a0 a1_0 a1_1 a1_2 a1_3).map (spec_l3Step.en) := by
  rw [spec_l3Step.ef]
  simp only [spec_l3Step.f, R.map_ite, R.map_bind, R.map_none, R.map_some, R.wr64_eq]
theorem spec_l3Step.ok (k : Nat) : spec_l3Step.tw.Ok Try.prog k := by
  intro md hmd a r h
  refine fn_ok (H := xhn) (fh := spec_l3Step.fh) (O := spec_l3Step.O) (k := k) Try.func112 (by kernel_rfl) (by kernel_rfl) (fun j _ => (Tw.orc_sound spec_l1In.dok (spec_l1In.ok j) (fun _ => rfl) noO_sound)) (by kernel_rfl) (m := 0) rfl ?_
  refine (spec_l3Step.sf k a.1 a.2.1 a.2.2.1 a.2.2.2.1 a.2.2.2.2).trans ?_
  exact congrArg (Option.map _) h
def spec_l3Before.f (a0_0 : Int) (a0_1 : ByteArray) (a0_2 : Int) (a0_3 : Int) (a1_0 : Int) (a1_1 : ByteArray) (a1_2 : Int) (a1_3 : Int) : Option (Bool) := (if a0_0 = a1_0 then (if a0_1.toList = a1_1.toList then (some (decide (a0_2 < a1_2))) else (some (Op.bytesLess a0_1.toList a1_1.toList))) else (some (decide (a0_0 < a1_0))))
def spec_l3Before.en (r : Bool) : Res := (.lit r, [])
def spec_l3Before.dec : List AV → List R.Obj → Option (Int × ByteArray × Int × Int × Int × ByteArray × Int × Int)
  | [.agg [.int .i64 a0_0, .str a0_1, .int .i64 a0_2, .int .i64 a0_3], .agg [.int .i64 a1_0, .str a1_1, .int .i64 a1_2, .int .i64 a1_3]], [] => some (a0_0, a0_1, a0_2, a0_3, a1_0, a1_1, a1_2, a1_3)
  | _, _ => none
def spec_l3Before.tw : Tw := ⟨113, Int × ByteArray × Int × Int × Int × ByteArray × Int × Int, Bool, spec_l3Before.dec, fun a => [.agg [.int .i64 a.1, .str a.2.1, .int .i64 a.2.2.1, .int .i64 a.2.2.2.1], .agg [.int .i64 a.2.2.2.2.1, .str a.2.2.2.2.2.1, .int .i64 a.2.2.2.2.2.2.1, .int .i64 a.2.2.2.2.2.2.2]], fun a => [], fun k a => spec_l3Before.f a.1 a.2.1 a.2.2.1 a.2.2.2.1 a.2.2.2.2.1 a.2.2.2.2.2.1 a.2.2.2.2.2.2.1 a.2.2.2.2.2.2.2, fun a r => spec_l3Before.en r, true⟩
theorem spec_l3Before.dok : spec_l3Before.tw.DecOk := by
  intro args hc a h
  have h : spec_l3Before.dec args hc = some a := h
  unfold spec_l3Before.dec at h
  split at h
  · cases h; exact ⟨rfl, rfl⟩
  · cases h
noncomputable def spec_l3Before.O (k : Nat) : Oracle := noO
def spec_l3Before.fh : FH := ⟨fun i => match i with | _ => none, [], false⟩
set_option maxRecDepth 100000 in
theorem spec_l3Before.ef (k : Nat) (a0_0 : Int) (a0_1 : ByteArray) (a0_2 : Int) (a0_3 : Int) (a1_0 : Int) (a1_1 : ByteArray) (a1_2 : Int) (a1_3 : Int) : R.start Try.prog xhn spec_l3Before.O 0 Try.f113 spec_l3Before.fh k [.agg [.int .i64 a0_0, .str a0_1, .int .i64 a0_2, .int .i64 a0_3], .agg [.int .i64 a1_0, .str a1_1, .int .i64 a1_2, .int .i64 a1_3]] [] = (if a0_0 = a1_0 then (if a0_1.toList = a1_1.toList then (some (spec_l3Before.en (decide (a0_2 < a1_2)))) else (some (spec_l3Before.en (Op.bytesLess a0_1.toList a1_1.toList)))) else (some (spec_l3Before.en (decide (a0_0 < a1_0))))) := by kernel_rfl
theorem spec_l3Before.sf (k : Nat) (a0_0 : Int) (a0_1 : ByteArray) (a0_2 : Int) (a0_3 : Int) (a1_0 : Int) (a1_1 : ByteArray) (a1_2 : Int) (a1_3 : Int) : R.start Try.prog xhn spec_l3Before.O 0 Try.f113 spec_l3Before.fh k [.agg [.int .i64 a0_0, .str a0_1, .int .i64 a0_2, .int .i64 a0_3], .agg [.int .i64 a1_0, .str a1_1, .int .i64 a1_2, .int .i64 a1_3]] [] = (spec_l3Before.f a0_0 a0_1 a0_2 a0_3 a1_0 a1_1 a1_2 a1_3).map (spec_l3Before.en) := by
  rw [spec_l3Before.ef]
  simp only [spec_l3Before.f, R.map_ite, R.map_bind, R.map_none, R.map_some, R.wr64_eq]
theorem spec_l3Before.ok (k : Nat) : spec_l3Before.tw.Ok Try.prog k := by
  intro md hmd a r h
  refine fn_ok (H := xhn) (fh := spec_l3Before.fh) (O := spec_l3Before.O) (k := k) Try.func113 (by kernel_rfl) (by kernel_rfl) (fun j _ => noO_sound) (by kernel_rfl) (m := 0) rfl ?_
  refine (spec_l3Before.sf k a.1 a.2.1 a.2.2.1 a.2.2.2.1 a.2.2.2.2.1 a.2.2.2.2.2.1 a.2.2.2.2.2.2.1 a.2.2.2.2.2.2.2).trans ?_
  exact congrArg (Option.map _) h
def spec_AutomatonValid.l0 : Nat → (List Stp) → Int → Int → Int → (List Int) → (List Int) → (List Stp) → Option (Bool)
  | 0, _, _, _, _, _, _, _ => none
  | k + 1, x32, x33, x34, y0_0, y0_1, y0_2, y0_3 => (if x34 < x33 then (if 0 ≤ x34 then (if x34 < (x32.length : Int) then ((spec_l3Step.f y0_0 ((rdT x32 x34).f0) ((rdT x32 x34).f1) ((rdT x32 x34).f2) ((rdT x32 x34).f3)).bind fun t4 => (if t4 = true then (if x34 > 0 then (if 0 ≤ (wrap64 (x34 - 1)) then (if (wrap64 (x34 - 1)) < (y0_3.length : Int) then ((spec_l3Before.f ((rdT y0_3 (wrap64 (x34 - 1))).f0) ((rdT y0_3 (wrap64 (x34 - 1))).f1) ((rdT y0_3 (wrap64 (x34 - 1))).f2) ((rdT y0_3 (wrap64 (x34 - 1))).f3) ((rdT x32 x34).f0) ((rdT x32 x34).f1) ((rdT x32 x34).f2) ((rdT x32 x34).f3)).bind fun t5 => (if t5 = true then (spec_AutomatonValid.l0 k x32 x33 (wrap64 (x34 + 1)) y0_0 y0_1 y0_2 y0_3) else (some false))) else none) else none) else (spec_AutomatonValid.l0 k x32 x33 (wrap64 (x34 + 1)) y0_0 y0_1 y0_2 y0_3)) else (some false))) else none) else none) else (some true))
def spec_AutomatonValid.f (k : Nat) (a0_0 : Int) (l0_1 : List Int) (l0_2 : List Int) (l0_3 : List Stp) : Option (Bool) := ((spec_l1In.f a0_0 1 4).bind fun t1 => (if t1 = true then ((spec_l3Marks.f k a0_0 l0_1).bind fun t2 => (if t2 = true then ((spec_l3Marks.f k a0_0 l0_2).bind fun t3 => (if t3 = true then (if (l0_3.length : Int) > 24 then (some false) else (spec_AutomatonValid.l0 k l0_3 (l0_3.length : Int) 0 a0_0 l0_1 l0_2 l0_3)) else (some false))) else (some false))) else (some false)))
def spec_AutomatonValid.en (r : Bool) : Res := (.lit r, [])
def spec_AutomatonValid.dec : List AV → List R.Obj → Option (Int × (List Int) × (List Int) × (List Stp))
  | [.agg [.int .i64 a0_0, .imm (.I .i64 l0_1), .imm (.I .i64 l0_2), .imm (.T l0_3)]], [] => some (a0_0, l0_1, l0_2, l0_3)
  | _, _ => none
def spec_AutomatonValid.tw : Tw := ⟨58, Int × (List Int) × (List Int) × (List Stp), Bool, spec_AutomatonValid.dec, fun a => [.agg [.int .i64 a.1, .imm (.I .i64 a.2.1), .imm (.I .i64 a.2.2.1), .imm (.T a.2.2.2)]], fun a => [], fun k a => spec_AutomatonValid.f k a.1 a.2.1 a.2.2.1 a.2.2.2, fun a r => spec_AutomatonValid.en r, true⟩
theorem spec_AutomatonValid.dok : spec_AutomatonValid.tw.DecOk := by
  intro args hc a h
  have h : spec_AutomatonValid.dec args hc = some a := h
  unfold spec_AutomatonValid.dec at h
  split at h
  · cases h; exact ⟨rfl, rfl⟩
  · cases h
noncomputable def spec_AutomatonValid.O (k : Nat) : Oracle := (spec_l1In.tw.orc k (spec_l3Marks.tw.orc k (spec_l3Step.tw.orc k (spec_l3Before.tw.orc k noO))))
def spec_AutomatonValid.fh : FH := ⟨fun i => match i with | 4 => some [(1, 0), (32, 0), (33, 0), (34, 0)] | _ => none, [], false⟩
noncomputable def spec_AutomatonValid.x0 (k : Nat) (x32 : List Stp) (x33 : Int) (x34 : Int) (y0_0 : Int) (y0_1 : List Int) (y0_2 : List Int) (y0_3 : List Stp) : Option Res := R.exec Try.prog xhn spec_AutomatonValid.O 0 Try.f58 spec_AutomatonValid.fh k (R.point Try.f58 4) ⟨[(1, .ptr 0 0), (32, .imm (.T x32)), (33, .int .i64 x33), (34, .int .i64 x34)], [(0, .box false [.int .i64 y0_0, .imm (.I .i64 y0_1), .imm (.I .i64 y0_2), .imm (.T y0_3)])], 3⟩
set_option maxRecDepth 100000 in
theorem spec_AutomatonValid.e0 (k : Nat) (x32 : List Stp) (x33 : Int) (x34 : Int) (y0_0 : Int) (y0_1 : List Int) (y0_2 : List Int) (y0_3 : List Stp) : spec_AutomatonValid.x0 (k + 1) x32 x33 x34 y0_0 y0_1 y0_2 y0_3 = (if x34 < x33 then (if 0 ≤ x34 then (if x34 < (x32.length : Int) then ((spec_l3Step.f y0_0 ((rdT x32 x34).f0) ((rdT x32 x34).f1) ((rdT x32 x34).f2) ((rdT x32 x34).f3)).bind fun t4 => (if t4 = true then (if x34 > 0 then (if 0 ≤ (wr64 (x34 - 1)) then (if (wr64 (x34 - 1)) < (y0_3.length : Int) then ((spec_l3Before.f ((rdT y0_3 (wr64 (x34 - 1))).f0) ((rdT y0_3 (wr64 (x34 - 1))).f1) ((rdT y0_3 (wr64 (x34 - 1))).f2) ((rdT y0_3 (wr64 (x34 - 1))).f3) ((rdT x32 x34).f0) ((rdT x32 x34).f1) ((rdT x32 x34).f2) ((rdT x32 x34).f3)).bind fun t5 => (if t5 = true then (spec_AutomatonValid.x0 k x32 x33 (wr64 (x34 + 1)) y0_0 y0_1 y0_2 y0_3) else (some (spec_AutomatonValid.en false)))) else none) else none) else (spec_AutomatonValid.x0 k x32 x33 (wr64 (x34 + 1)) y0_0 y0_1 y0_2 y0_3)) else (some (spec_AutomatonValid.en false)))) else none) else none) else (some (spec_AutomatonValid.en true))) := by kernel_rfl
set_option maxRecDepth 100000 in
theorem spec_AutomatonValid.ef (k : Nat) (a0_0 : Int) (l0_1 : List Int) (l0_2 : List Int) (l0_3 : List Stp) : R.start Try.prog xhn spec_AutomatonValid.O 0 Try.f58 spec_AutomatonValid.fh k [.agg [.int .i64 a0_0, .imm (.I .i64 l0_1), .imm (.I .i64 l0_2), .imm (.T l0_3)]] [] = ((spec_l1In.f a0_0 1 4).bind fun t1 => (if t1 = true then ((spec_l3Marks.f k a0_0 l0_1).bind fun t2 => (if t2 = true then ((spec_l3Marks.f k a0_0 l0_2).bind fun t3 => (if t3 = true then (if (l0_3.length : Int) > 24 then (some (spec_AutomatonValid.en false)) else (spec_AutomatonValid.x0 k l0_3 (l0_3.length : Int) 0 a0_0 l0_1 l0_2 l0_3)) else (some (spec_AutomatonValid.en false)))) else (some (spec_AutomatonValid.en false)))) else (some (spec_AutomatonValid.en false)))) := by kernel_rfl
theorem spec_AutomatonValid.link : ∀ k, (∀ (x32 : List Stp) (x33 : Int) (x34 : Int) (y0_0 : Int) (y0_1 : List Int) (y0_2 : List Int) (y0_3 : List Stp), spec_AutomatonValid.x0 k x32 x33 x34 y0_0 y0_1 y0_2 y0_3 = (spec_AutomatonValid.l0 k x32 x33 x34 y0_0 y0_1 y0_2 y0_3).map (spec_AutomatonValid.en))
  | 0 => fun _ _ _ _ _ _ _ => by simp only [spec_AutomatonValid.l0, R.map_none]; rfl
  | k + 1 => by
    have ih0 := spec_AutomatonValid.link k
    · intro x32 x33 x34 y0_0 y0_1 y0_2 y0_3
      rw [spec_AutomatonValid.e0]
      simp only [spec_AutomatonValid.l0, R.map_ite, R.map_bind, R.map_none, R.map_some, R.wr64_eq, ← ih0]
theorem spec_AutomatonValid.sf (k : Nat) (a0_0 : Int) (l0_1 : List Int) (l0_2 : List Int) (l0_3 : List Stp) : R.start Try.prog xhn spec_AutomatonValid.O 0 Try.f58 spec_AutomatonValid.fh k [.agg [.int .i64 a0_0, .imm (.I .i64 l0_1), .imm (.I .i64 l0_2), .imm (.T l0_3)]] [] = (spec_AutomatonValid.f k a0_0 l0_1 l0_2 l0_3).map (spec_AutomatonValid.en) := by
  have ih0 := spec_AutomatonValid.link k
  rw [spec_AutomatonValid.ef]
  simp only [spec_AutomatonValid.f, R.map_ite, R.map_bind, R.map_none, R.map_some, R.wr64_eq, ← ih0]
theorem spec_AutomatonValid.ok (k : Nat) : spec_AutomatonValid.tw.Ok Try.prog k := by
  intro md hmd a r h
  refine fn_ok (H := xhn) (fh := spec_AutomatonValid.fh) (O := spec_AutomatonValid.O) (k := k) Try.func58 (by kernel_rfl) (by kernel_rfl) (fun j _ => (Tw.orc_sound spec_l1In.dok (spec_l1In.ok j) (fun _ => rfl) (Tw.orc_sound spec_l3Marks.dok (spec_l3Marks.ok j) (fun _ => rfl) (Tw.orc_sound spec_l3Step.dok (spec_l3Step.ok j) (fun _ => rfl) (Tw.orc_sound spec_l3Before.dok (spec_l3Before.ok j) (fun _ => rfl) noO_sound))))) (by kernel_rfl) (m := 0) rfl ?_
  refine (spec_AutomatonValid.sf k a.1 a.2.1 a.2.2.1 a.2.2.2).trans ?_
  exact congrArg (Option.map _) h
def spec_l5Two.f (k : Nat) (a0_0 : Int) (l0_1 : List Int) (l0_2 : List Int) (l0_3 : List Stp) (a1_0 : Int) (l1_1 : List Int) (l1_2 : List Int) (l1_3 : List Stp) : Option (Bool) := ((spec_AutomatonValid.f k a0_0 l0_1 l0_2 l0_3).bind fun t1 => (if t1 = true then ((spec_AutomatonValid.f k a1_0 l1_1 l1_2 l1_3).bind fun t2 => (some t2)) else (some false)))
def spec_l5Two.en (r : Bool) : Res := (.lit r, [])
def spec_l5Two.dec : List AV → List R.Obj → Option (Int × (List Int) × (List Int) × (List Stp) × Int × (List Int) × (List Int) × (List Stp))
  | [.agg [.int .i64 a0_0, .imm (.I .i64 l0_1), .imm (.I .i64 l0_2), .imm (.T l0_3)], .agg [.int .i64 a1_0, .imm (.I .i64 l1_1), .imm (.I .i64 l1_2), .imm (.T l1_3)]], [] => some (a0_0, l0_1, l0_2, l0_3, a1_0, l1_1, l1_2, l1_3)
  | _, _ => none
def spec_l5Two.tw : Tw := ⟨69, Int × (List Int) × (List Int) × (List Stp) × Int × (List Int) × (List Int) × (List Stp), Bool, spec_l5Two.dec, fun a => [.agg [.int .i64 a.1, .imm (.I .i64 a.2.1), .imm (.I .i64 a.2.2.1), .imm (.T a.2.2.2.1)], .agg [.int .i64 a.2.2.2.2.1, .imm (.I .i64 a.2.2.2.2.2.1), .imm (.I .i64 a.2.2.2.2.2.2.1), .imm (.T a.2.2.2.2.2.2.2)]], fun a => [], fun k a => spec_l5Two.f k a.1 a.2.1 a.2.2.1 a.2.2.2.1 a.2.2.2.2.1 a.2.2.2.2.2.1 a.2.2.2.2.2.2.1 a.2.2.2.2.2.2.2, fun a r => spec_l5Two.en r, true⟩
theorem spec_l5Two.dok : spec_l5Two.tw.DecOk := by
  intro args hc a h
  have h : spec_l5Two.dec args hc = some a := h
  unfold spec_l5Two.dec at h
  split at h
  · cases h; exact ⟨rfl, rfl⟩
  · cases h
noncomputable def spec_l5Two.O (k : Nat) : Oracle := (spec_AutomatonValid.tw.orc k noO)
def spec_l5Two.fh : FH := ⟨fun i => match i with | _ => none, [], false⟩
set_option maxRecDepth 100000 in
theorem spec_l5Two.ef (k : Nat) (a0_0 : Int) (l0_1 : List Int) (l0_2 : List Int) (l0_3 : List Stp) (a1_0 : Int) (l1_1 : List Int) (l1_2 : List Int) (l1_3 : List Stp) : R.start Try.prog xhn spec_l5Two.O 0 Try.f69 spec_l5Two.fh k [.agg [.int .i64 a0_0, .imm (.I .i64 l0_1), .imm (.I .i64 l0_2), .imm (.T l0_3)], .agg [.int .i64 a1_0, .imm (.I .i64 l1_1), .imm (.I .i64 l1_2), .imm (.T l1_3)]] [] = ((spec_AutomatonValid.f k a0_0 l0_1 l0_2 l0_3).bind fun t1 => (if t1 = true then ((spec_AutomatonValid.f k a1_0 l1_1 l1_2 l1_3).bind fun t2 => (some (spec_l5Two.en t2))) else (some (spec_l5Two.en false)))) := by kernel_rfl
theorem spec_l5Two.sf (k : Nat) (a0_0 : Int) (l0_1 : List Int) (l0_2 : List Int) (l0_3 : List Stp) (a1_0 : Int) (l1_1 : List Int) (l1_2 : List Int) (l1_3 : List Stp) : R.start Try.prog xhn spec_l5Two.O 0 Try.f69 spec_l5Two.fh k [.agg [.int .i64 a0_0, .imm (.I .i64 l0_1), .imm (.I .i64 l0_2), .imm (.T l0_3)], .agg [.int .i64 a1_0, .imm (.I .i64 l1_1), .imm (.I .i64 l1_2), .imm (.T l1_3)]] [] = (spec_l5Two.f k a0_0 l0_1 l0_2 l0_3 a1_0 l1_1 l1_2 l1_3).map (spec_l5Two.en) := by
  rw [spec_l5Two.ef]
  simp only [spec_l5Two.f, R.map_ite, R.map_bind, R.map_none, R.map_some, R.wr64_eq]
theorem spec_l5Two.ok (k : Nat) : spec_l5Two.tw.Ok Try.prog k := by
  intro md hmd a r h
  refine fn_ok (H := xhn) (fh := spec_l5Two.fh) (O := spec_l5Two.O) (k := k) Try.func69 (by kernel_rfl) (by kernel_rfl) (fun j _ => (Tw.orc_sound spec_AutomatonValid.dok (spec_AutomatonValid.ok j) (fun _ => rfl) noO_sound)) (by kernel_rfl) (m := 0) rfl ?_
  refine (spec_l5Two.sf k a.1 a.2.1 a.2.2.1 a.2.2.2.1 a.2.2.2.2.1 a.2.2.2.2.2.1 a.2.2.2.2.2.2.1 a.2.2.2.2.2.2.2).trans ?_
  exact congrArg (Option.map _) h
def spec_l5Beside.l0 : Nat → (List Stp) → Int → Int → Int → (List Int) → (List Int) → (List Stp) → Int → (List Stp) → Option (Int × (List Int) × (List Int) × (List Stp))
  | 0, _, _, _, _, _, _, _, _, _ => none
  | k + 1, x21, x22, x23, y0_0, y0_1, y0_2, y0_3, y2_0, y8 => (if x23 < x22 then (if 0 ≤ x23 then (if x23 < (x21.length : Int) then (if y8.length < 3518437208883 then (spec_l5Beside.l0 k x21 x22 (wrap64 (x23 + 1)) y0_0 y0_1 y0_2 y0_3 y2_0 (y8 ++ [(⟨(wrap64 ((rdT x21 x23).f0 + y0_0)), (rdT x21 x23).f1, (wrap64 ((rdT x21 x23).f2 + y0_0)), (rdT x21 x23).f3⟩ : Stp)])) else none) else none) else none) else (some (y2_0, ([] : List Int), ([] : List Int), y8)))
def spec_l5Beside.f (k : Nat) (a0_0 : Int) (l0_1 : List Int) (l0_2 : List Int) (l0_3 : List Stp) (a1_0 : Int) (l1_1 : List Int) (l1_2 : List Int) (l1_3 : List Stp) : Option (Int × (List Int) × (List Int) × (List Stp)) := (if ([] : List Stp).length + l0_3.length ≤ 3518437208883 then (spec_l5Beside.l0 k l1_3 (l1_3.length : Int) 0 a0_0 l0_1 l0_2 l0_3 (wrap64 (a0_0 + a1_0)) (([] : List Stp) ++ l0_3)) else none)
def spec_l5Beside.en (r : Int × (List Int) × (List Int) × (List Stp)) : Res := (.agg [.int .i64 r.1, .sl 0 0, .sl 1 0, .sl 2 0], [.arr 3 0 (.I .i64 r.2.1) false, .arr 3 0 (.I .i64 r.2.2.1) false, .arr 67 0 (.T r.2.2.2) false])
def spec_l5Beside.dec : List AV → List R.Obj → Option (Int × (List Int) × (List Int) × (List Stp) × Int × (List Int) × (List Int) × (List Stp))
  | [.agg [.int .i64 a0_0, .imm (.I .i64 l0_1), .imm (.I .i64 l0_2), .imm (.T l0_3)], .agg [.int .i64 a1_0, .imm (.I .i64 l1_1), .imm (.I .i64 l1_2), .imm (.T l1_3)]], [] => some (a0_0, l0_1, l0_2, l0_3, a1_0, l1_1, l1_2, l1_3)
  | _, _ => none
def spec_l5Beside.tw : Tw := ⟨76, Int × (List Int) × (List Int) × (List Stp) × Int × (List Int) × (List Int) × (List Stp), Int × (List Int) × (List Int) × (List Stp), spec_l5Beside.dec, fun a => [.agg [.int .i64 a.1, .imm (.I .i64 a.2.1), .imm (.I .i64 a.2.2.1), .imm (.T a.2.2.2.1)], .agg [.int .i64 a.2.2.2.2.1, .imm (.I .i64 a.2.2.2.2.2.1), .imm (.I .i64 a.2.2.2.2.2.2.1), .imm (.T a.2.2.2.2.2.2.2)]], fun a => [], fun k a => spec_l5Beside.f k a.1 a.2.1 a.2.2.1 a.2.2.2.1 a.2.2.2.2.1 a.2.2.2.2.2.1 a.2.2.2.2.2.2.1 a.2.2.2.2.2.2.2, fun a r => spec_l5Beside.en r, true⟩
theorem spec_l5Beside.dok : spec_l5Beside.tw.DecOk := by
  intro args hc a h
  have h : spec_l5Beside.dec args hc = some a := h
  unfold spec_l5Beside.dec at h
  split at h
  · cases h; exact ⟨rfl, rfl⟩
  · cases h
noncomputable def spec_l5Beside.O (k : Nat) : Oracle := noO
def spec_l5Beside.fh : FH := ⟨fun i => match i with | 3 => some [(2, 0), (4, 0), (5, 0), (21, 0), (22, 0), (23, 0)] | _ => none, [(true, 3), (true, 3), (true, 67)], false⟩
noncomputable def spec_l5Beside.x0 (k : Nat) (x21 : List Stp) (x22 : Int) (x23 : Int) (y0_0 : Int) (y0_1 : List Int) (y0_2 : List Int) (y0_3 : List Stp) (y2_0 : Int) (y8 : List Stp) : Option Res := R.exec Try.prog xhn spec_l5Beside.O 0 Try.f76 spec_l5Beside.fh k (R.point Try.f76 3) ⟨[(2, .ptr 0 0), (4, .ptr 1 0), (5, .ptr 2 0), (21, .imm (.T x21)), (22, .int .i64 x22), (23, .int .i64 x23)], [(0, .box false [.int .i64 y0_0, .imm (.I .i64 y0_1), .imm (.I .i64 y0_2), .imm (.T y0_3)]), (1, .box false [.int .i64 0, .sl 3 0, .sl 4 0, .sl 5 0]), (2, .box false [.int .i64 y2_0, .sl 6 0, .sl 7 0, .sl 8 0]), (3, .arr 3 0 (.I .i64 ([] : List Int)) false), (4, .arr 3 0 (.I .i64 ([] : List Int)) false), (5, .arr 67 0 (.T ([] : List Stp)) false), (6, .arr 3 0 (.I .i64 ([] : List Int)) false), (7, .arr 3 0 (.I .i64 ([] : List Int)) false), (8, .arr 67 0 (.T y8) false)], 11⟩
set_option maxRecDepth 100000 in
theorem spec_l5Beside.e0 (k : Nat) (x21 : List Stp) (x22 : Int) (x23 : Int) (y0_0 : Int) (y0_1 : List Int) (y0_2 : List Int) (y0_3 : List Stp) (y2_0 : Int) (y8 : List Stp) : spec_l5Beside.x0 (k + 1) x21 x22 x23 y0_0 y0_1 y0_2 y0_3 y2_0 y8 = (if x23 < x22 then (if 0 ≤ x23 then (if x23 < (x21.length : Int) then (if y8.length < 3518437208883 then (spec_l5Beside.x0 k x21 x22 (wr64 (x23 + 1)) y0_0 y0_1 y0_2 y0_3 y2_0 (y8 ++ [(⟨(wr64 ((rdT x21 x23).f0 + y0_0)), (rdT x21 x23).f1, (wr64 ((rdT x21 x23).f2 + y0_0)), (rdT x21 x23).f3⟩ : Stp)])) else none) else none) else none) else (some (spec_l5Beside.en (y2_0, ([] : List Int), ([] : List Int), y8)))) := by kernel_rfl
set_option maxRecDepth 100000 in
theorem spec_l5Beside.ef (k : Nat) (a0_0 : Int) (l0_1 : List Int) (l0_2 : List Int) (l0_3 : List Stp) (a1_0 : Int) (l1_1 : List Int) (l1_2 : List Int) (l1_3 : List Stp) : R.start Try.prog xhn spec_l5Beside.O 0 Try.f76 spec_l5Beside.fh k [.agg [.int .i64 a0_0, .imm (.I .i64 l0_1), .imm (.I .i64 l0_2), .imm (.T l0_3)], .agg [.int .i64 a1_0, .imm (.I .i64 l1_1), .imm (.I .i64 l1_2), .imm (.T l1_3)]] [] = (if ([] : List Stp).length + l0_3.length ≤ 3518437208883 then (spec_l5Beside.x0 k l1_3 (l1_3.length : Int) 0 a0_0 l0_1 l0_2 l0_3 (wr64 (a0_0 + a1_0)) (([] : List Stp) ++ l0_3)) else none) := by kernel_rfl
theorem spec_l5Beside.link : ∀ k, (∀ (x21 : List Stp) (x22 : Int) (x23 : Int) (y0_0 : Int) (y0_1 : List Int) (y0_2 : List Int) (y0_3 : List Stp) (y2_0 : Int) (y8 : List Stp), spec_l5Beside.x0 k x21 x22 x23 y0_0 y0_1 y0_2 y0_3 y2_0 y8 = (spec_l5Beside.l0 k x21 x22 x23 y0_0 y0_1 y0_2 y0_3 y2_0 y8).map (spec_l5Beside.en))
  | 0 => fun _ _ _ _ _ _ _ _ _ => by simp only [spec_l5Beside.l0, R.map_none]; rfl
  | k + 1 => by
    have ih0 := spec_l5Beside.link k
    · intro x21 x22 x23 y0_0 y0_1 y0_2 y0_3 y2_0 y8
      rw [spec_l5Beside.e0]
      simp only [spec_l5Beside.l0, R.map_ite, R.map_bind, R.map_none, R.map_some, R.wr64_eq, ← ih0]
theorem spec_l5Beside.sf (k : Nat) (a0_0 : Int) (l0_1 : List Int) (l0_2 : List Int) (l0_3 : List Stp) (a1_0 : Int) (l1_1 : List Int) (l1_2 : List Int) (l1_3 : List Stp) : R.start Try.prog xhn spec_l5Beside.O 0 Try.f76 spec_l5Beside.fh k [.agg [.int .i64 a0_0, .imm (.I .i64 l0_1), .imm (.I .i64 l0_2), .imm (.T l0_3)], .agg [.int .i64 a1_0, .imm (.I .i64 l1_1), .imm (.I .i64 l1_2), .imm (.T l1_3)]] [] = (spec_l5Beside.f k a0_0 l0_1 l0_2 l0_3 a1_0 l1_1 l1_2 l1_3).map (spec_l5Beside.en) := by
  have ih0 := spec_l5Beside.link k
  rw [spec_l5Beside.ef]
  simp only [spec_l5Beside.f, R.map_ite, R.map_bind, R.map_none, R.map_some, R.wr64_eq, ← ih0]
theorem spec_l5Beside.ok (k : Nat) : spec_l5Beside.tw.Ok Try.prog k := by
  intro md hmd a r h
  refine fn_ok (H := xhn) (fh := spec_l5Beside.fh) (O := spec_l5Beside.O) (k := k) Try.func76 (by kernel_rfl) (by kernel_rfl) (fun j _ => noO_sound) (by kernel_rfl) (m := 0) rfl ?_
  refine (spec_l5Beside.sf k a.1 a.2.1 a.2.2.1 a.2.2.2.1 a.2.2.2.2.1 a.2.2.2.2.2.1 a.2.2.2.2.2.2.1 a.2.2.2.2.2.2.2).trans ?_
  exact congrArg (Option.map _) h
def spec_l4In.l0 : Nat → Int → (List Int) → Int → Int → Option (Bool)
  | 0, _, _, _, _ => none
  | k + 1, x1, x7, x8, x9 => (if x9 < x8 then (if 0 ≤ x9 then (if x9 < (x7.length : Int) then (if (rdI x7 x9) = x1 then (some true) else (spec_l4In.l0 k x1 x7 x8 (wrap64 (x9 + 1)))) else none) else none) else (some false))
def spec_l4In.f (k : Nat) (l0 : List Int) (a1 : Int) : Option (Bool) := (spec_l4In.l0 k a1 l0 (l0.length : Int) 0)
def spec_l4In.en (r : Bool) : Res := (.lit r, [])
def spec_l4In.dec : List AV → List R.Obj → Option ((List Int) × Int)
  | [.imm (.I .i64 l0), .int .i64 a1], [] => some (l0, a1)
  | _, _ => none
def spec_l4In.tw : Tw := ⟨83, (List Int) × Int, Bool, spec_l4In.dec, fun a => [.imm (.I .i64 a.1), .int .i64 a.2], fun a => [], fun k a => spec_l4In.f k a.1 a.2, fun a r => spec_l4In.en r, true⟩
theorem spec_l4In.dok : spec_l4In.tw.DecOk := by
  intro args hc a h
  have h : spec_l4In.dec args hc = some a := h
  unfold spec_l4In.dec at h
  split at h
  · cases h; exact ⟨rfl, rfl⟩
  · cases h
noncomputable def spec_l4In.O (k : Nat) : Oracle := noO
def spec_l4In.fh : FH := ⟨fun i => match i with | 2 => some [(1, 0), (7, 0), (8, 0), (9, 0)] | _ => none, [], false⟩
noncomputable def spec_l4In.x0 (k : Nat) (x1 : Int) (x7 : List Int) (x8 : Int) (x9 : Int) : Option Res := R.exec Try.prog xhn spec_l4In.O 0 Try.f83 spec_l4In.fh k (R.point Try.f83 2) ⟨[(1, .int .i64 x1), (7, .imm (.I .i64 x7)), (8, .int .i64 x8), (9, .int .i64 x9)], [], 2⟩
set_option maxRecDepth 100000 in
theorem spec_l4In.e0 (k : Nat) (x1 : Int) (x7 : List Int) (x8 : Int) (x9 : Int) : spec_l4In.x0 (k + 1) x1 x7 x8 x9 = (if x9 < x8 then (if 0 ≤ x9 then (if x9 < (x7.length : Int) then (if (rdI x7 x9) = x1 then (some (spec_l4In.en true)) else (spec_l4In.x0 k x1 x7 x8 (wr64 (x9 + 1)))) else none) else none) else (some (spec_l4In.en false))) := by kernel_rfl
set_option maxRecDepth 100000 in
theorem spec_l4In.ef (k : Nat) (l0 : List Int) (a1 : Int) : R.start Try.prog xhn spec_l4In.O 0 Try.f83 spec_l4In.fh k [.imm (.I .i64 l0), .int .i64 a1] [] = (spec_l4In.x0 k a1 l0 (l0.length : Int) 0) := by kernel_rfl
theorem spec_l4In.link : ∀ k, (∀ (x1 : Int) (x7 : List Int) (x8 : Int) (x9 : Int), spec_l4In.x0 k x1 x7 x8 x9 = (spec_l4In.l0 k x1 x7 x8 x9).map (spec_l4In.en))
  | 0 => fun _ _ _ _ => by simp only [spec_l4In.l0, R.map_none]; rfl
  | k + 1 => by
    have ih0 := spec_l4In.link k
    · intro x1 x7 x8 x9
      rw [spec_l4In.e0]
      simp only [spec_l4In.l0, R.map_ite, R.map_bind, R.map_none, R.map_some, R.wr64_eq, ← ih0]
theorem spec_l4In.sf (k : Nat) (l0 : List Int) (a1 : Int) : R.start Try.prog xhn spec_l4In.O 0 Try.f83 spec_l4In.fh k [.imm (.I .i64 l0), .int .i64 a1] [] = (spec_l4In.f k l0 a1).map (spec_l4In.en) := by
  have ih0 := spec_l4In.link k
  rw [spec_l4In.ef]
  simp only [spec_l4In.f, R.map_ite, R.map_bind, R.map_none, R.map_some, R.wr64_eq, ← ih0]
theorem spec_l4In.ok (k : Nat) : spec_l4In.tw.Ok Try.prog k := by
  intro md hmd a r h
  refine fn_ok (H := xhn) (fh := spec_l4In.fh) (O := spec_l4In.O) (k := k) Try.func83 (by kernel_rfl) (by kernel_rfl) (fun j _ => noO_sound) (by kernel_rfl) (m := 0) rfl ?_
  refine (spec_l4In.sf k a.1 a.2).trans ?_
  exact congrArg (Option.map _) h
def spec_l5Empty.l0 : Nat → (List Int) → Int → Int → Int → (List Int) → (List Int) → (List Stp) → Option (Bool)
  | 0, _, _, _, _, _, _, _ => none
  | k + 1, x6, x7, x8, y0_0, y0_1, y0_2, y0_3 => (if x8 < x7 then (if 0 ≤ x8 then (if x8 < (x6.length : Int) then ((spec_l4In.f k y0_2 (rdI x6 x8)).bind fun t1 => (if t1 = true then (some true) else (spec_l5Empty.l0 k x6 x7 (wrap64 (x8 + 1)) y0_0 y0_1 y0_2 y0_3))) else none) else none) else (some false))
def spec_l5Empty.f (k : Nat) (a0_0 : Int) (l0_1 : List Int) (l0_2 : List Int) (l0_3 : List Stp) : Option (Bool) := (spec_l5Empty.l0 k l0_1 (l0_1.length : Int) 0 a0_0 l0_1 l0_2 l0_3)
def spec_l5Empty.en (r : Bool) : Res := (.lit r, [])
def spec_l5Empty.dec : List AV → List R.Obj → Option (Int × (List Int) × (List Int) × (List Stp))
  | [.agg [.int .i64 a0_0, .imm (.I .i64 l0_1), .imm (.I .i64 l0_2), .imm (.T l0_3)]], [] => some (a0_0, l0_1, l0_2, l0_3)
  | _, _ => none
def spec_l5Empty.tw : Tw := ⟨86, Int × (List Int) × (List Int) × (List Stp), Bool, spec_l5Empty.dec, fun a => [.agg [.int .i64 a.1, .imm (.I .i64 a.2.1), .imm (.I .i64 a.2.2.1), .imm (.T a.2.2.2)]], fun a => [], fun k a => spec_l5Empty.f k a.1 a.2.1 a.2.2.1 a.2.2.2, fun a r => spec_l5Empty.en r, true⟩
theorem spec_l5Empty.dok : spec_l5Empty.tw.DecOk := by
  intro args hc a h
  have h : spec_l5Empty.dec args hc = some a := h
  unfold spec_l5Empty.dec at h
  split at h
  · cases h; exact ⟨rfl, rfl⟩
  · cases h
noncomputable def spec_l5Empty.O (k : Nat) : Oracle := (spec_l4In.tw.orc k noO)
def spec_l5Empty.fh : FH := ⟨fun i => match i with | 2 => some [(1, 0), (6, 0), (7, 0), (8, 0)] | _ => none, [], false⟩
noncomputable def spec_l5Empty.x0 (k : Nat) (x6 : List Int) (x7 : Int) (x8 : Int) (y0_0 : Int) (y0_1 : List Int) (y0_2 : List Int) (y0_3 : List Stp) : Option Res := R.exec Try.prog xhn spec_l5Empty.O 0 Try.f86 spec_l5Empty.fh k (R.point Try.f86 2) ⟨[(1, .ptr 0 0), (6, .imm (.I .i64 x6)), (7, .int .i64 x7), (8, .int .i64 x8)], [(0, .box false [.int .i64 y0_0, .imm (.I .i64 y0_1), .imm (.I .i64 y0_2), .imm (.T y0_3)])], 3⟩
set_option maxRecDepth 100000 in
theorem spec_l5Empty.e0 (k : Nat) (x6 : List Int) (x7 : Int) (x8 : Int) (y0_0 : Int) (y0_1 : List Int) (y0_2 : List Int) (y0_3 : List Stp) : spec_l5Empty.x0 (k + 1) x6 x7 x8 y0_0 y0_1 y0_2 y0_3 = (if x8 < x7 then (if 0 ≤ x8 then (if x8 < (x6.length : Int) then ((spec_l4In.f k y0_2 (rdI x6 x8)).bind fun t1 => (if t1 = true then (some (spec_l5Empty.en true)) else (spec_l5Empty.x0 k x6 x7 (wr64 (x8 + 1)) y0_0 y0_1 y0_2 y0_3))) else none) else none) else (some (spec_l5Empty.en false))) := by kernel_rfl
set_option maxRecDepth 100000 in
theorem spec_l5Empty.ef (k : Nat) (a0_0 : Int) (l0_1 : List Int) (l0_2 : List Int) (l0_3 : List Stp) : R.start Try.prog xhn spec_l5Empty.O 0 Try.f86 spec_l5Empty.fh k [.agg [.int .i64 a0_0, .imm (.I .i64 l0_1), .imm (.I .i64 l0_2), .imm (.T l0_3)]] [] = (spec_l5Empty.x0 k l0_1 (l0_1.length : Int) 0 a0_0 l0_1 l0_2 l0_3) := by kernel_rfl
theorem spec_l5Empty.link : ∀ k, (∀ (x6 : List Int) (x7 : Int) (x8 : Int) (y0_0 : Int) (y0_1 : List Int) (y0_2 : List Int) (y0_3 : List Stp), spec_l5Empty.x0 k x6 x7 x8 y0_0 y0_1 y0_2 y0_3 = (spec_l5Empty.l0 k x6 x7 x8 y0_0 y0_1 y0_2 y0_3).map (spec_l5Empty.en))
  | 0 => fun _ _ _ _ _ _ _ => by simp only [spec_l5Empty.l0, R.map_none]; rfl
  | k + 1 => by
    have ih0 := spec_l5Empty.link k
    · intro x6 x7 x8 y0_0 y0_1 y0_2 y0_3
      rw [spec_l5Empty.e0]
      simp only [spec_l5Empty.l0, R.map_ite, R.map_bind, R.map_none, R.map_some, R.wr64_eq, ← ih0]
theorem spec_l5Empty.sf (k : Nat) (a0_0 : Int) (l0_1 : List Int) (l0_2 : List Int) (l0_3 : List Stp) : R.start Try.prog xhn spec_l5Empty.O 0 Try.f86 spec_l5Empty.fh k [.agg [.int .i64 a0_0, .imm (.I .i64 l0_1), .imm (.I .i64 l0_2), .imm (.T l0_3)]] [] = (spec_l5Empty.f k a0_0 l0_1 l0_2 l0_3).map (spec_l5Empty.en) := by
  have ih0 := spec_l5Empty.link k
  rw [spec_l5Empty.ef]
  simp only [spec_l5Empty.f, R.map_ite, R.map_bind, R.map_none, R.map_some, R.wr64_eq, ← ih0]
theorem spec_l5Empty.ok (k : Nat) : spec_l5Empty.tw.Ok Try.prog k := by
  intro md hmd a r h
  refine fn_ok (H := xhn) (fh := spec_l5Empty.fh) (O := spec_l5Empty.O) (k := k) Try.func86 (by kernel_rfl) (by kernel_rfl) (fun j _ => (Tw.orc_sound spec_l4In.dok (spec_l4In.ok j) (fun _ => rfl) noO_sound)) (by kernel_rfl) (m := 0) rfl ?_
  refine (spec_l5Empty.sf k a.1 a.2.1 a.2.2.1 a.2.2.2).trans ?_
  exact congrArg (Option.map _) h
def spec_l5Shift.l0 : Nat → Int → (List Int) → (List Int) → Int → Int → Option (List Int)
  | 0, _, _, _, _, _ => none
  | k + 1, x1, y0, x9, x10, x11 => (if x11 < x10 then (if 0 ≤ x11 then (if x11 < (x9.length : Int) then (if y0.length < 17592186044416 then (spec_l5Shift.l0 k x1 (y0 ++ [(wrap64 ((rdI x9 x11) + x1))]) x9 x10 (wrap64 (x11 + 1))) else none) else none) else none) else (some y0))
def spec_l5Shift.f (k : Nat) (l0 : List Int) (a1 : Int) : Option (List Int) := (spec_l5Shift.l0 k a1 ([] : List Int) l0 (l0.length : Int) 0)
def spec_l5Shift.en (r : List Int) : Res := (.sl 0 0, [.arr 3 0 (.I .i64 r) false])
def spec_l5Shift.dec : List AV → List R.Obj → Option ((List Int) × Int)
  | [.imm (.I .i64 l0), .int .i64 a1], [] => some (l0, a1)
  | _, _ => none
def spec_l5Shift.tw : Tw := ⟨77, (List Int) × Int, List Int, spec_l5Shift.dec, fun a => [.imm (.I .i64 a.1), .int .i64 a.2], fun a => [], fun k a => spec_l5Shift.f k a.1 a.2, fun a r => spec_l5Shift.en r, true⟩
theorem spec_l5Shift.dok : spec_l5Shift.tw.DecOk := by
  intro args hc a h
  have h : spec_l5Shift.dec args hc = some a := h
  unfold spec_l5Shift.dec at h
  split at h
  · cases h; exact ⟨rfl, rfl⟩
  · cases h
noncomputable def spec_l5Shift.O (k : Nat) : Oracle := noO
def spec_l5Shift.fh : FH := ⟨fun i => match i with | 3 => some [(1, 0), (5, 0), (9, 0), (10, 0), (11, 0)] | _ => none, [(true, 3)], false⟩
noncomputable def spec_l5Shift.x0 (k : Nat) (x1 : Int) (y0 : List Int) (x9 : List Int) (x10 : Int) (x11 : Int) : Option Res := R.exec Try.prog xhn spec_l5Shift.O 0 Try.f77 spec_l5Shift.fh k (R.point Try.f77 3) ⟨[(1, .int .i64 x1), (5, .sl 0 0), (9, .imm (.I .i64 x9)), (10, .int .i64 x10), (11, .int .i64 x11)], [(0, .arr 3 0 (.I .i64 y0) false)], 3⟩
set_option maxRecDepth 100000 in
theorem spec_l5Shift.e0 (k : Nat) (x1 : Int) (y0 : List Int) (x9 : List Int) (x10 : Int) (x11 : Int) : spec_l5Shift.x0 (k + 1) x1 y0 x9 x10 x11 = (if x11 < x10 then (if 0 ≤ x11 then (if x11 < (x9.length : Int) then (if y0.length < 17592186044416 then (spec_l5Shift.x0 k x1 (y0 ++ [(wr64 ((rdI x9 x11) + x1))]) x9 x10 (wr64 (x11 + 1))) else none) else none) else none) else (some (spec_l5Shift.en y0))) := by kernel_rfl
set_option maxRecDepth 100000 in
theorem spec_l5Shift.ef (k : Nat) (l0 : List Int) (a1 : Int) : R.start Try.prog xhn spec_l5Shift.O 0 Try.f77 spec_l5Shift.fh k [.imm (.I .i64 l0), .int .i64 a1] [] = (spec_l5Shift.x0 k a1 ([] : List Int) l0 (l0.length : Int) 0) := by kernel_rfl
theorem spec_l5Shift.link : ∀ k, (∀ (x1 : Int) (y0 : List Int) (x9 : List Int) (x10 : Int) (x11 : Int), spec_l5Shift.x0 k x1 y0 x9 x10 x11 = (spec_l5Shift.l0 k x1 y0 x9 x10 x11).map (spec_l5Shift.en))
  | 0 => fun _ _ _ _ _ => by simp only [spec_l5Shift.l0, R.map_none]; rfl
  | k + 1 => by
    have ih0 := spec_l5Shift.link k
    · intro x1 y0 x9 x10 x11
      rw [spec_l5Shift.e0]
      simp only [spec_l5Shift.l0, R.map_ite, R.map_bind, R.map_none, R.map_some, R.wr64_eq, ← ih0]
theorem spec_l5Shift.sf (k : Nat) (l0 : List Int) (a1 : Int) : R.start Try.prog xhn spec_l5Shift.O 0 Try.f77 spec_l5Shift.fh k [.imm (.I .i64 l0), .int .i64 a1] [] = (spec_l5Shift.f k l0 a1).map (spec_l5Shift.en) := by
  have ih0 := spec_l5Shift.link k
  rw [spec_l5Shift.ef]
  simp only [spec_l5Shift.f, R.map_ite, R.map_bind, R.map_none, R.map_some, R.wr64_eq, ← ih0]
theorem spec_l5Shift.ok (k : Nat) : spec_l5Shift.tw.Ok Try.prog k := by
  intro md hmd a r h
  refine fn_ok (H := xhn) (fh := spec_l5Shift.fh) (O := spec_l5Shift.O) (k := k) Try.func77 (by kernel_rfl) (by kernel_rfl) (fun j _ => noO_sound) (by kernel_rfl) (m := 0) rfl ?_
  refine (spec_l5Shift.sf k a.1 a.2).trans ?_
  exact congrArg (Option.map _) h
def spec_l5Whole.f (k : Nat) (a0_0 : Int) (l0_1 : List Int) (l0_2 : List Int) (l0_3 : List Stp) : Option (Int × (List Int) × (List Int) × (List Stp) × Bool) := ((spec_AutomatonValid.f k a0_0 l0_1 l0_2 l0_3).bind fun t1 => (if t1 = true then (some (a0_0, l0_1, l0_2, l0_3, true)) else (some (0, ([] : List Int), ([] : List Int), ([] : List Stp), false))))
def spec_l5Whole.en (r : Int × (List Int) × (List Int) × (List Stp) × Bool) : Res := (.tup [.agg [.int .i64 r.1, .imm (.I .i64 r.2.1), .imm (.I .i64 r.2.2.1), .imm (.T r.2.2.2.1)], .lit r.2.2.2.2], [])
def spec_l5Whole.dec : List AV → List R.Obj → Option (Int × (List Int) × (List Int) × (List Stp))
  | [.agg [.int .i64 a0_0, .imm (.I .i64 l0_1), .imm (.I .i64 l0_2), .imm (.T l0_3)]], [] => some (a0_0, l0_1, l0_2, l0_3)
  | _, _ => none
def spec_l5Whole.tw : Tw := ⟨60, Int × (List Int) × (List Int) × (List Stp), Int × (List Int) × (List Int) × (List Stp) × Bool, spec_l5Whole.dec, fun a => [.agg [.int .i64 a.1, .imm (.I .i64 a.2.1), .imm (.I .i64 a.2.2.1), .imm (.T a.2.2.2)]], fun a => [], fun k a => spec_l5Whole.f k a.1 a.2.1 a.2.2.1 a.2.2.2, fun a r => spec_l5Whole.en r, true⟩
theorem spec_l5Whole.dok : spec_l5Whole.tw.DecOk := by
  intro args hc a h
  have h : spec_l5Whole.dec args hc = some a := h
  unfold spec_l5Whole.dec at h
  split at h
  · cases h; exact ⟨rfl, rfl⟩
  · cases h
noncomputable def spec_l5Whole.O (k : Nat) : Oracle := (spec_AutomatonValid.tw.orc k noO)
def spec_l5Whole.fh : FH := ⟨fun i => match i with | _ => none, [(false, 3), (false, 3), (false, 67)], false⟩
set_option maxRecDepth 100000 in
theorem spec_l5Whole.ef (k : Nat) (a0_0 : Int) (l0_1 : List Int) (l0_2 : List Int) (l0_3 : List Stp) : R.start Try.prog xhn spec_l5Whole.O 0 Try.f60 spec_l5Whole.fh k [.agg [.int .i64 a0_0, .imm (.I .i64 l0_1), .imm (.I .i64 l0_2), .imm (.T l0_3)]] [] = ((spec_AutomatonValid.f k a0_0 l0_1 l0_2 l0_3).bind fun t1 => (if t1 = true then (some (spec_l5Whole.en (a0_0, l0_1, l0_2, l0_3, true))) else (some (spec_l5Whole.en (0, ([] : List Int), ([] : List Int), ([] : List Stp), false))))) := by kernel_rfl
theorem spec_l5Whole.sf (k : Nat) (a0_0 : Int) (l0_1 : List Int) (l0_2 : List Int) (l0_3 : List Stp) : R.start Try.prog xhn spec_l5Whole.O 0 Try.f60 spec_l5Whole.fh k [.agg [.int .i64 a0_0, .imm (.I .i64 l0_1), .imm (.I .i64 l0_2), .imm (.T l0_3)]] [] = (spec_l5Whole.f k a0_0 l0_1 l0_2 l0_3).map (spec_l5Whole.en) := by
  rw [spec_l5Whole.ef]
  simp only [spec_l5Whole.f, R.map_ite, R.map_bind, R.map_none, R.map_some, R.wr64_eq]
theorem spec_l5Whole.ok (k : Nat) : spec_l5Whole.tw.Ok Try.prog k := by
  intro md hmd a r h
  refine fn_ok (H := xhn) (fh := spec_l5Whole.fh) (O := spec_l5Whole.O) (k := k) Try.func60 (by kernel_rfl) (by kernel_rfl) (fun j _ => (Tw.orc_sound spec_AutomatonValid.dok (spec_AutomatonValid.ok j) (fun _ => rfl) noO_sound)) (by kernel_rfl) (m := 0) rfl ?_
  refine (spec_l5Whole.sf k a.1 a.2.1 a.2.2.1 a.2.2.2).trans ?_
  exact congrArg (Option.map _) h
def spec_l3Put.l0 : Nat → (List Stp) → Int → Int → ByteArray → Int → Int → Option (List Stp)
  | 0, _, _, _, _, _, _ => none
  | k + 1, x0, x5, y0_0, y0_1, y0_2, y0_3 => (if x5 < (x0.length : Int) then (if 0 ≤ x5 then ((spec_l3Before.f ((rdT x0 x5).f0) ((rdT x0 x5).f1) ((rdT x0 x5).f2) ((rdT x0 x5).f3) y0_0 y0_1 y0_2 y0_3).bind fun t1 => (if t1 = true then (spec_l3Put.l0 k x0 (wrap64 (x5 + 1)) y0_0 y0_1 y0_2 y0_3) else ((spec_l3Before.f y0_0 y0_1 y0_2 y0_3 ((rdT x0 x5).f0) ((rdT x0 x5).f1) ((rdT x0 x5).f2) ((rdT x0 x5).f3)).bind fun t2 => (if t2 = true then (if x5 ≤ (x0.length : Int) then (if ([] : List Stp).length + ((x0.drop 0).take (x5.toNat - 0)).length ≤ 3518437208883 then (if (([] : List Stp) ++ ((x0.drop 0).take (x5.toNat - 0))).length < 3518437208883 then (if (x0.length : Int) ≤ (x0.length : Int) then (if ((([] : List Stp) ++ ((x0.drop 0).take (x5.toNat - 0))) ++ [(⟨y0_0, y0_1, y0_2, y0_3⟩ : Stp)]).length + ((x0.drop x5.toNat).take (x0.length - x5.toNat)).length ≤ 3518437208883 then (some (((([] : List Stp) ++ ((x0.drop 0).take (x5.toNat - 0))) ++ [(⟨y0_0, y0_1, y0_2, y0_3⟩ : Stp)]) ++ ((x0.drop x5.toNat).take (x0.length - x5.toNat)))) else none) else none) else none) else none) else none) else (if ([] : List Stp).length + x0.length ≤ 3518437208883 then (if x5 < ((([] : List Stp) ++ x0).length : Int) then (some ((([] : List Stp) ++ x0).set x5.toNat (⟨(rdT (([] : List Stp) ++ x0) x5).f0, (rdT (([] : List Stp) ++ x0) x5).f1, (rdT (([] : List Stp) ++ x0) x5).f2, (mn (rdT (([] : List Stp) ++ x0) x5).f3 y0_3)⟩ : Stp))) else none) else none))))) else none) else (if 0 ≤ x5 then (if x5 ≤ (x0.length : Int) then (if ([] : List Stp).length + ((x0.drop 0).take (x5.toNat - 0)).length ≤ 3518437208883 then (if (([] : List Stp) ++ ((x0.drop 0).take (x5.toNat - 0))).length < 3518437208883 then (if (x0.length : Int) ≤ (x0.length : Int) then (if ((([] : List Stp) ++ ((x0.drop 0).take (x5.toNat - 0))) ++ [(⟨y0_0, y0_1, y0_2, y0_3⟩ : Stp)]).length + ((x0.drop x5.toNat).take (x0.length - x5.toNat)).length ≤ 3518437208883 then (some (((([] : List Stp) ++ ((x0.drop 0).take (x5.toNat - 0))) ++ [(⟨y0_0, y0_1, y0_2, y0_3⟩ : Stp)]) ++ ((x0.drop x5.toNat).take (x0.length - x5.toNat)))) else none) else none) else none) else none) else none) else none))
def spec_l3Put.f (k : Nat) (l0 : List Stp) (a1_0 : Int) (a1_1 : ByteArray) (a1_2 : Int) (a1_3 : Int) : Option (List Stp) := (spec_l3Put.l0 k l0 0 a1_0 a1_1 a1_2 a1_3)
def spec_l3Put.en (r : List Stp) : Res := (.sl 0 0, [.arr 67 0 (.T r) false])
def spec_l3Put.dec : List AV → List R.Obj → Option ((List Stp) × Int × ByteArray × Int × Int)
  | [.imm (.T l0), .agg [.int .i64 a1_0, .str a1_1, .int .i64 a1_2, .int .i64 a1_3]], [] => some (l0, a1_0, a1_1, a1_2, a1_3)
  | _, _ => none
def spec_l3Put.tw : Tw := ⟨71, (List Stp) × Int × ByteArray × Int × Int, List Stp, spec_l3Put.dec, fun a => [.imm (.T a.1), .agg [.int .i64 a.2.1, .str a.2.2.1, .int .i64 a.2.2.2.1, .int .i64 a.2.2.2.2]], fun a => [], fun k a => spec_l3Put.f k a.1 a.2.1 a.2.2.1 a.2.2.2.1 a.2.2.2.2, fun a r => spec_l3Put.en r, true⟩
theorem spec_l3Put.dok : spec_l3Put.tw.DecOk := by
  intro args hc a h
  have h : spec_l3Put.dec args hc = some a := h
  unfold spec_l3Put.dec at h
  split at h
  · cases h; exact ⟨rfl, rfl⟩
  · cases h
noncomputable def spec_l3Put.O (k : Nat) : Oracle := (spec_l3Before.tw.orc k noO)
def spec_l3Put.fh : FH := ⟨fun i => match i with | 2 => some [(0, 0), (3, 0), (5, 0)] | _ => none, [(true, 67)], false⟩
noncomputable def spec_l3Put.x0 (k : Nat) (x0 : List Stp) (x5 : Int) (y0_0 : Int) (y0_1 : ByteArray) (y0_2 : Int) (y0_3 : Int) : Option Res := R.exec Try.prog xhn spec_l3Put.O 0 Try.f71 spec_l3Put.fh k (R.point Try.f71 2) ⟨[(0, .imm (.T x0)), (3, .ptr 0 0), (5, .int .i64 x5)], [(0, .box false [.int .i64 y0_0, .str y0_1, .int .i64 y0_2, .int .i64 y0_3])], 3⟩
set_option maxRecDepth 100000 in
theorem spec_l3Put.e0 (k : Nat) (x0 : List Stp) (x5 : Int) (y0_0 : Int) (y0_1 : ByteArray) (y0_2 : Int) (y0_3 : Int) : spec_l3Put.x0 (k + 1) x0 x5 y0_0 y0_1 y0_2 y0_3 = (if x5 < (x0.length : Int) then (if 0 ≤ x5 then ((spec_l3Before.f ((rdT x0 x5).f0) ((rdT x0 x5).f1) ((rdT x0 x5).f2) ((rdT x0 x5).f3) y0_0 y0_1 y0_2 y0_3).bind fun t1 => (if t1 = true then (spec_l3Put.x0 k x0 (wr64 (x5 + 1)) y0_0 y0_1 y0_2 y0_3) else ((spec_l3Before.f y0_0 y0_1 y0_2 y0_3 ((rdT x0 x5).f0) ((rdT x0 x5).f1) ((rdT x0 x5).f2) ((rdT x0 x5).f3)).bind fun t2 => (if t2 = true then (if x5 ≤ (x0.length : Int) then (if ([] : List Stp).length + ((x0.drop 0).take (x5.toNat - 0)).length ≤ 3518437208883 then (if (([] : List Stp) ++ ((x0.drop 0).take (x5.toNat - 0))).length < 3518437208883 then (if (x0.length : Int) ≤ (x0.length : Int) then (if ((([] : List Stp) ++ ((x0.drop 0).take (x5.toNat - 0))) ++ [(⟨y0_0, y0_1, y0_2, y0_3⟩ : Stp)]).length + ((x0.drop x5.toNat).take (x0.length - x5.toNat)).length ≤ 3518437208883 then (some (spec_l3Put.en (((([] : List Stp) ++ ((x0.drop 0).take (x5.toNat - 0))) ++ [(⟨y0_0, y0_1, y0_2, y0_3⟩ : Stp)]) ++ ((x0.drop x5.toNat).take (x0.length - x5.toNat))))) else none) else none) else none) else none) else none) else (if ([] : List Stp).length + x0.length ≤ 3518437208883 then (if x5 < ((([] : List Stp) ++ x0).length : Int) then (some (spec_l3Put.en ((([] : List Stp) ++ x0).set x5.toNat (⟨(rdT (([] : List Stp) ++ x0) x5).f0, (rdT (([] : List Stp) ++ x0) x5).f1, (rdT (([] : List Stp) ++ x0) x5).f2, (mn (rdT (([] : List Stp) ++ x0) x5).f3 y0_3)⟩ : Stp)))) else none) else none))))) else none) else (if 0 ≤ x5 then (if x5 ≤ (x0.length : Int) then (if ([] : List Stp).length + ((x0.drop 0).take (x5.toNat - 0)).length ≤ 3518437208883 then (if (([] : List Stp) ++ ((x0.drop 0).take (x5.toNat - 0))).length < 3518437208883 then (if (x0.length : Int) ≤ (x0.length : Int) then (if ((([] : List Stp) ++ ((x0.drop 0).take (x5.toNat - 0))) ++ [(⟨y0_0, y0_1, y0_2, y0_3⟩ : Stp)]).length + ((x0.drop x5.toNat).take (x0.length - x5.toNat)).length ≤ 3518437208883 then (some (spec_l3Put.en (((([] : List Stp) ++ ((x0.drop 0).take (x5.toNat - 0))) ++ [(⟨y0_0, y0_1, y0_2, y0_3⟩ : Stp)]) ++ ((x0.drop x5.toNat).take (x0.length - x5.toNat))))) else none) else none) else none) else none) else none) else none)) := by
  refine Eq.trans ?_ (R.icong (fun h0 => (R.icong (fun h1 => (R.idropT (p := x5 < (x0.length : Int)) (z := none) h0 (R.bcong fun t1 => (R.icong (fun h2 => rfl) (fun h2 => (R.idropT (p := x5 < (x0.length : Int)) (z := (if 0 ≤ x5 then (if x5 ≤ (x0.length : Int) then (if ([] : List Stp).length + ((x0.drop 0).take (x5.toNat - 0)).length ≤ 3518437208883 then (if (([] : List Stp) ++ ((x0.drop 0).take (x5.toNat - 0))).length < 3518437208883 then (if 0 ≤ x5 then (if x5 ≤ (x0.length : Int) then (if (x0.length : Int) ≤ (x0.length : Int) then (if ((([] : List Stp) ++ ((x0.drop 0).take (x5.toNat - 0))) ++ [(⟨y0_0, y0_1, y0_2, y0_3⟩ : Stp)]).length + ((x0.drop x5.toNat).take (x0.length - x5.toNat)).length ≤ 3518437208883 then (some (spec_l3Put.en (((([] : List Stp) ++ ((x0.drop 0).take (x5.toNat - 0))) ++ [(⟨y0_0, y0_1, y0_2, y0_3⟩ : Stp)]) ++ ((x0.drop x5.toNat).take (x0.length - x5.toNat))))) else none) else none) else none) else none) else none) else none) else none) else none)) h0 (R.idropT (p := 0 ≤ x5) (z := none) h1 (R.idropT (p := x5 < (x0.length : Int)) (z := none) h0 (R.bcong fun t2 => (R.icong (fun h3 => (R.idropT (p := 0 ≤ x5) (z := none) h1 (R.icong (fun h4 => (R.icong (fun h5 => (R.icong (fun h6 => (R.idropT (p := 0 ≤ x5) (z := none) h1 (R.idropT (p := x5 ≤ (x0.length : Int)) (z := none) h4 rfl))) (fun h6 => rfl))) (fun h5 => rfl))) (fun h4 => rfl)))) (fun h3 => (R.icong (fun h4 => (R.idropT (p := 0 ≤ x5) (z := none) h1 (R.icong (fun h5 => (R.idropT (p := 0 ≤ x5) (z := none) h1 (R.idropT (p := x5 < ((([] : List Stp) ++ x0).length : Int)) (z := none) h5 rfl))) (fun h5 => rfl)))) (fun h4 => rfl))))))))))))) (fun h1 => rfl))) (fun h0 => (R.idropF (p := x5 < (x0.length : Int)) (z := (if 0 ≤ x5 then (if x5 < (x0.length : Int) then ((spec_l3Before.f y0_0 y0_1 y0_2 y0_3 ((rdT x0 x5).f0) ((rdT x0 x5).f1) ((rdT x0 x5).f2) ((rdT x0 x5).f3)).bind fun t3 => (if t3 = true then (if 0 ≤ x5 then (if x5 ≤ (x0.length : Int) then (if ([] : List Stp).length + ((x0.drop 0).take (x5.toNat - 0)).length ≤ 3518437208883 then (if (([] : List Stp) ++ ((x0.drop 0).take (x5.toNat - 0))).length < 3518437208883 then (if 0 ≤ x5 then (if x5 ≤ (x0.length : Int) then (if (x0.length : Int) ≤ (x0.length : Int) then (if ((([] : List Stp) ++ ((x0.drop 0).take (x5.toNat - 0))) ++ [(⟨y0_0, y0_1, y0_2, y0_3⟩ : Stp)]).length + ((x0.drop x5.toNat).take (x0.length - x5.toNat)).length ≤ 3518437208883 then (some (spec_l3Put.en (((([] : List Stp) ++ ((x0.drop 0).take (x5.toNat - 0))) ++ [(⟨y0_0, y0_1, y0_2, y0_3⟩ : Stp)]) ++ ((x0.drop x5.toNat).take (x0.length - x5.toNat))))) else none) else none) else none) else none) else none) else none) else none) else none) else (if ([] : List Stp).length + x0.length ≤ 3518437208883 then (if 0 ≤ x5 then (if x5 < ((([] : List Stp) ++ x0).length : Int) then (if 0 ≤ x5 then (if x5 < ((([] : List Stp) ++ x0).length : Int) then (some (spec_l3Put.en ((([] : List Stp) ++ x0).set x5.toNat (⟨(rdT (([] : List Stp) ++ x0) x5).f0, (rdT (([] : List Stp) ++ x0) x5).f1, (rdT (([] : List Stp) ++ x0) x5).f2, (mn (rdT (([] : List Stp) ++ x0) x5).f3 y0_3)⟩ : Stp)))) else none) else none) else none) else none) else none))) else none) else none)) h0 (R.icong (fun h1 => (R.icong (fun h2 => (R.icong (fun h3 => (R.icong (fun h4 => (R.idropT (p := 0 ≤ x5) (z := none) h1 (R.idropT (p := x5 ≤ (x0.length : Int)) (z := none) h2 rfl))) (fun h4 => rfl))) (fun h3 => rfl))) (fun h2 => rfl))) (fun h1 => rfl)))))
  kernel_rfl
set_option maxRecDepth 100000 in
theorem spec_l3Put.ef (k : Nat) (l0 : List Stp) (a1_0 : Int) (a1_1 : ByteArray) (a1_2 : Int) (a1_3 : Int) : R.start Try.prog xhn spec_l3Put.O 0 Try.f71 spec_l3Put.fh k [.imm (.T l0), .agg [.int .i64 a1_0, .str a1_1, .int .i64 a1_2, .int .i64 a1_3]] [] = (spec_l3Put.x0 k l0 0 a1_0 a1_1 a1_2 a1_3) := by kernel_rfl
theorem spec_l3Put.link : ∀ k, (∀ (x0 : List Stp) (x5 : Int) (y0_0 : Int) (y0_1 : ByteArray) (y0_2 : Int) (y0_3 : Int), spec_l3Put.x0 k x0 x5 y0_0 y0_1 y0_2 y0_3 = (spec_l3Put.l0 k x0 x5 y0_0 y0_1 y0_2 y0_3).map (spec_l3Put.en))
  | 0 => fun _ _ _ _ _ _ => by simp only [spec_l3Put.l0, R.map_none]; rfl
  | k + 1 => by
    have ih0 := spec_l3Put.link k
    · intro x0 x5 y0_0 y0_1 y0_2 y0_3
      rw [spec_l3Put.e0]
      simp only [spec_l3Put.l0, R.map_ite, R.map_bind, R.map_none, R.map_some, R.wr64_eq, ← ih0]
theorem spec_l3Put.sf (k : Nat) (l0 : List Stp) (a1_0 : Int) (a1_1 : ByteArray) (a1_2 : Int) (a1_3 : Int) : R.start Try.prog xhn spec_l3Put.O 0 Try.f71 spec_l3Put.fh k [.imm (.T l0), .agg [.int .i64 a1_0, .str a1_1, .int .i64 a1_2, .int .i64 a1_3]] [] = (spec_l3Put.f k l0 a1_0 a1_1 a1_2 a1_3).map (spec_l3Put.en) := by
  have ih0 := spec_l3Put.link k
  rw [spec_l3Put.ef]
  simp only [spec_l3Put.f, R.map_ite, R.map_bind, R.map_none, R.map_some, R.wr64_eq, ← ih0]
theorem spec_l3Put.ok (k : Nat) : spec_l3Put.tw.Ok Try.prog k := by
  intro md hmd a r h
  refine fn_ok (H := xhn) (fh := spec_l3Put.fh) (O := spec_l3Put.O) (k := k) Try.func71 (by kernel_rfl) (by kernel_rfl) (fun j _ => (Tw.orc_sound spec_l3Before.dok (spec_l3Before.ok j) (fun _ => rfl) noO_sound)) (by kernel_rfl) (m := 0) rfl ?_
  refine (spec_l3Put.sf k a.1 a.2.1 a.2.2.1 a.2.2.2.1 a.2.2.2.2).trans ?_
  exact congrArg (Option.map _) h
mutual
def spec_ChainAutomaton.l0 : Nat → (List Stp) → Int → Int → Int → (List Int) → (List Int) → (List Stp) → Int → (List Int) → (List Int) → (List Stp) → Int → (List Int) → (List Int) → (List Stp) → Option (Int × (List Int) × (List Int) × (List Stp) × Bool)
  | 0, _, _, _, _, _, _, _, _, _, _, _, _, _, _, _ => none
  | k + 1, x20, x21, x22, y0_0, y0_1, y0_2, y0_3, y1_0, y1_1, y1_2, y1_3, y3_0, y7, y8, y9 => (if x22 < x21 then (if 0 ≤ x22 then (if x22 < (x20.length : Int) then (spec_ChainAutomaton.l1 k x20 x21 x22 y1_1 (y1_1.length : Int) 0 y0_0 y0_1 y0_2 y0_3 y1_0 y1_1 y1_2 y1_3 y3_0 y7 y8 y9 ((rdT x20 x22).f0) ((rdT x20 x22).f1) ((rdT x20 x22).f2) ((rdT x20 x22).f3)) else none) else none) else (if y7.length + y0_1.length ≤ 17592186044416 then ((spec_l5Empty.f k y0_0 y0_1 y0_2 y0_3).bind fun t3 => (if t3 = true then ((spec_l5Shift.f k y1_1 y0_0).bind fun t4 => (if (y7 ++ y0_1).length + t4.length ≤ 17592186044416 then ((spec_l5Empty.f k y1_0 y1_1 y1_2 y1_3).bind fun t5 => (if t5 = true then (if y8.length + y0_2.length ≤ 17592186044416 then ((spec_l5Shift.f k y1_2 y0_0).bind fun t6 => (if (y8 ++ y0_2).length + t6.length ≤ 17592186044416 then ((spec_l5Whole.f k y3_0 ((y7 ++ y0_1) ++ t4) ((y8 ++ y0_2) ++ t6) y9).bind fun t7 => (some (t7.1, t7.2.1, t7.2.2.1, t7.2.2.2.1, t7.2.2.2.2))) else none)) else none) else ((spec_l5Shift.f k y1_2 y0_0).bind fun t8 => (if y8.length + t8.length ≤ 17592186044416 then ((spec_l5Whole.f k y3_0 ((y7 ++ y0_1) ++ t4) (y8 ++ t8) y9).bind fun t9 => (some (t9.1, t9.2.1, t9.2.2.1, t9.2.2.2.1, t9.2.2.2.2))) else none)))) else none)) else ((spec_l5Empty.f k y1_0 y1_1 y1_2 y1_3).bind fun t10 => (if t10 = true then (if y8.length + y0_2.length ≤ 17592186044416 then ((spec_l5Shift.f k y1_2 y0_0).bind fun t11 => (if (y8 ++ y0_2).length + t11.length ≤ 17592186044416 then ((spec_l5Whole.f k y3_0 (y7 ++ y0_1) ((y8 ++ y0_2) ++ t11) y9).bind fun t12 => (some (t12.1, t12.2.1, t12.2.2.1, t12.2.2.2.1, t12.2.2.2.2))) else none)) else none) else ((spec_l5Shift.f k y1_2 y0_0).bind fun t13 => (if y8.length + t13.length ≤ 17592186044416 then ((spec_l5Whole.f k y3_0 (y7 ++ y0_1) (y8 ++ t13) y9).bind fun t14 => (some (t14.1, t14.2.1, t14.2.2.1, t14.2.2.2.1, t14.2.2.2.2))) else none)))))) else none))
def spec_ChainAutomaton.l1 : Nat → (List Stp) → Int → Int → (List Int) → Int → Int → Int → (List Int) → (List Int) → (List Stp) → Int → (List Int) → (List Int) → (List Stp) → Int → (List Int) → (List Int) → (List Stp) → Int → ByteArray → Int → Int → Option (Int × (List Int) × (List Int) × (List Stp) × Bool)
  | 0, _, _, _, _, _, _, _, _, _, _, _, _, _, _, _, _, _, _, _, _, _, _ => none
  | k + 1, x20, x21, x22, x27, x28, x29, y0_0, y0_1, y0_2, y0_3, y1_0, y1_1, y1_2, y1_3, y3_0, y8, y9, y10, y4_0, y4_1, y4_2, y4_3 => (if x29 < x28 then (if 0 ≤ x29 then (if x29 < (x27.length : Int) then ((spec_l4In.f k y0_2 y4_2).bind fun t15 => (if t15 = true then ((spec_l3Put.f k y10 y4_0 y4_1 (wrap64 ((rdI x27 x29) + y0_0)) y4_3).bind fun t16 => (spec_ChainAutomaton.l1 k x20 x21 x22 x27 x28 (wrap64 (x29 + 1)) y0_0 y0_1 y0_2 y0_3 y1_0 y1_1 y1_2 y1_3 y3_0 y8 y9 t16 y4_0 y4_1 y4_2 y4_3)) else (spec_ChainAutomaton.l1 k x20 x21 x22 x27 x28 (wrap64 (x29 + 1)) y0_0 y0_1 y0_2 y0_3 y1_0 y1_1 y1_2 y1_3 y3_0 y8 y9 y10 y4_0 y4_1 y4_2 y4_3))) else none) else none) else (spec_ChainAutomaton.l0 k x20 x21 (wrap64 (x22 + 1)) y0_0 y0_1 y0_2 y0_3 y1_0 y1_1 y1_2 y1_3 y3_0 y8 y9 y10))
end
def spec_ChainAutomaton.f (k : Nat) (a0_0 : Int) (l0_1 : List Int) (l0_2 : List Int) (l0_3 : List Stp) (a1_0 : Int) (l1_1 : List Int) (l1_2 : List Int) (l1_3 : List Stp) : Option (Int × (List Int) × (List Int) × (List Stp) × Bool) := ((spec_l5Two.f k a0_0 l0_1 l0_2 l0_3 a1_0 l1_1 l1_2 l1_3).bind fun t1 => (if t1 = true then ((spec_l5Beside.f k a0_0 l0_1 l0_2 l0_3 a1_0 l1_1 l1_2 l1_3).bind fun t2 => (spec_ChainAutomaton.l0 k l0_3 (l0_3.length : Int) 0 a0_0 l0_1 l0_2 l0_3 a1_0 l1_1 l1_2 l1_3 t2.1 t2.2.1 t2.2.2.1 t2.2.2.2)) else (some (0, ([] : List Int), ([] : List Int), ([] : List Stp), false))))
def spec_ChainAutomaton.en (r : Int × (List Int) × (List Int) × (List Stp) × Bool) : Res := (.tup [.agg [.int .i64 r.1, .imm (.I .i64 r.2.1), .imm (.I .i64 r.2.2.1), .imm (.T r.2.2.2.1)], .lit r.2.2.2.2], [])
def spec_ChainAutomaton.dec : List AV → List R.Obj → Option (Int × (List Int) × (List Int) × (List Stp) × Int × (List Int) × (List Int) × (List Stp))
  | [.agg [.int .i64 a0_0, .imm (.I .i64 l0_1), .imm (.I .i64 l0_2), .imm (.T l0_3)], .agg [.int .i64 a1_0, .imm (.I .i64 l1_1), .imm (.I .i64 l1_2), .imm (.T l1_3)]], [] => some (a0_0, l0_1, l0_2, l0_3, a1_0, l1_1, l1_2, l1_3)
  | _, _ => none
def spec_ChainAutomaton.tw : Tw := ⟨30, Int × (List Int) × (List Int) × (List Stp) × Int × (List Int) × (List Int) × (List Stp), Int × (List Int) × (List Int) × (List Stp) × Bool, spec_ChainAutomaton.dec, fun a => [.agg [.int .i64 a.1, .imm (.I .i64 a.2.1), .imm (.I .i64 a.2.2.1), .imm (.T a.2.2.2.1)], .agg [.int .i64 a.2.2.2.2.1, .imm (.I .i64 a.2.2.2.2.2.1), .imm (.I .i64 a.2.2.2.2.2.2.1), .imm (.T a.2.2.2.2.2.2.2)]], fun a => [], fun k a => spec_ChainAutomaton.f k a.1 a.2.1 a.2.2.1 a.2.2.2.1 a.2.2.2.2.1 a.2.2.2.2.2.1 a.2.2.2.2.2.2.1 a.2.2.2.2.2.2.2, fun a r => spec_ChainAutomaton.en r, true⟩
theorem spec_ChainAutomaton.dok : spec_ChainAutomaton.tw.DecOk := by
  intro args hc a h
  have h : spec_ChainAutomaton.dec args hc = some a := h
  unfold spec_ChainAutomaton.dec at h
  split at h
  · cases h; exact ⟨rfl, rfl⟩
  · cases h
noncomputable def spec_ChainAutomaton.O (k : Nat) : Oracle := (spec_l5Two.tw.orc k (spec_l5Beside.tw.orc k (spec_l5Empty.tw.orc k (spec_l5Shift.tw.orc k (spec_l5Whole.tw.orc k (spec_l4In.tw.orc k (spec_l3Put.tw.orc k noO)))))))
def spec_ChainAutomaton.fh : FH := ⟨fun i => match i with | 5 => some [(2, 0), (3, 0), (4, 0), (6, 0), (20, 0), (21, 0), (22, 0)] | 8 => some [(2, 0), (3, 0), (4, 0), (6, 0), (8, 0), (20, 0), (21, 0), (22, 0), (27, 0), (28, 0), (29, 0)] | _ => none, [(false, 3), (false, 3), (false, 67)], false⟩
noncomputable def spec_ChainAutomaton.x0 (k : Nat) (x20 : List Stp) (x21 : Int) (x22 : Int) (y0_0 : Int) (y0_1 : List Int) (y0_2 : List Int) (y0_3 : List Stp) (y1_0 : Int) (y1_1 : List Int) (y1_2 : List Int) (y1_3 : List Stp) (y3_0 : Int) (y7 : List Int) (y8 : List Int) (y9 : List Stp) : Option Res := R.exec Try.prog xhn spec_ChainAutomaton.O 0 Try.f30 spec_ChainAutomaton.fh k (R.point Try.f30 5) ⟨[(2, .ptr 0 0), (3, .ptr 1 0), (4, .ptr 2 0), (6, .ptr 3 0), (20, .imm (.T x20)), (21, .int .i64 x21), (22, .int .i64 x22)], [(0, .box false [.int .i64 y0_0, .imm (.I .i64 y0_1), .imm (.I .i64 y0_2), .imm (.T y0_3)]), (1, .box false [.int .i64 y1_0, .imm (.I .i64 y1_1), .imm (.I .i64 y1_2), .imm (.T y1_3)]), (2, .box false [.int .i64 0, .sl 4 0, .sl 5 0, .sl 6 0]), (3, .box false [.int .i64 y3_0, .sl 7 0, .sl 8 0, .sl 9 0]), (4, .arr 3 0 (.I .i64 ([] : List Int)) false), (5, .arr 3 0 (.I .i64 ([] : List Int)) false), (6, .arr 67 0 (.T ([] : List Stp)) false), (7, .arr 3 0 (.I .i64 y7) false), (8, .arr 3 0 (.I .i64 y8) false), (9, .arr 67 0 (.T y9) false)], 12⟩
noncomputable def spec_ChainAutomaton.x1 (k : Nat) (x20 : List Stp) (x21 : Int) (x22 : Int) (x27 : List Int) (x28 : Int) (x29 : Int) (y0_0 : Int) (y0_1 : List Int) (y0_2 : List Int) (y0_3 : List Stp) (y1_0 : Int) (y1_1 : List Int) (y1_2 : List Int) (y1_3 : List Stp) (y3_0 : Int) (y8 : List Int) (y9 : List Int) (y10 : List Stp) (y4_0 : Int) (y4_1 : ByteArray) (y4_2 : Int) (y4_3 : Int) : Option Res := R.exec Try.prog xhn spec_ChainAutomaton.O 0 Try.f30 spec_ChainAutomaton.fh k (R.point Try.f30 8) ⟨[(2, .ptr 0 0), (3, .ptr 1 0), (4, .ptr 2 0), (6, .ptr 3 0), (8, .ptr 4 0), (20, .imm (.T x20)), (21, .int .i64 x21), (22, .int .i64 x22), (27, .imm (.I .i64 x27)), (28, .int .i64 x28), (29, .int .i64 x29)], [(0, .box false [.int .i64 y0_0, .imm (.I .i64 y0_1), .imm (.I .i64 y0_2), .imm (.T y0_3)]), (1, .box false [.int .i64 y1_0, .imm (.I .i64 y1_1), .imm (.I .i64 y1_2), .imm (.T y1_3)]), (2, .box false [.int .i64 0, .sl 5 0, .sl 6 0, .sl 7 0]), (3, .box false [.int .i64 y3_0, .sl 8 0, .sl 9 0, .sl 10 0]), (4, .box false [.int .i64 y4_0, .str y4_1, .int .i64 y4_2, .int .i64 y4_3]), (5, .arr 3 0 (.I .i64 ([] : List Int)) false), (6, .arr 3 0 (.I .i64 ([] : List Int)) false), (7, .arr 67 0 (.T ([] : List Stp)) false), (8, .arr 3 0 (.I .i64 y8) false), (9, .arr 3 0 (.I .i64 y9) false), (10, .arr 67 0 (.T y10) false)], 13⟩
set_option maxRecDepth 100000 in
theorem spec_ChainAutomaton.e0 (k : Nat) (x20 : List Stp) (x21 : Int) (x22 : Int) (y0_0 : Int) (y0_1 : List Int) (y0_2 : List Int) (y0_3 : List Stp) (y1_0 : Int) (y1_1 : List Int) (y1_2 : List Int) (y1_3 : List Stp) (y3_0 : Int) (y7 : List Int) (y8 : List Int) (y9 : List Stp) : spec_ChainAutomaton.x0 (k + 1) x20 x21 x22 y0_0 y0_1 y0_2 y0_3 y1_0 y1_1 y1_2 y1_3 y3_0 y7 y8 y9 = (if x22 < x21 then (if 0 ≤ x22 then (if x22 < (x20.length : Int) then (spec_ChainAutomaton.x1 k x20 x21 x22 y1_1 (y1_1.length : Int) 0 y0_0 y0_1 y0_2 y0_3 y1_0 y1_1 y1_2 y1_3 y3_0 y7 y8 y9 ((rdT x20 x22).f0) ((rdT x20 x22).f1) ((rdT x20 x22).f2) ((rdT x20 x22).f3)) else none) else none) else (if y7.length + y0_1.length ≤ 17592186044416 then ((spec_l5Empty.f k y0_0 y0_1 y0_2 y0_3).bind fun t3 => (if t3 = true then ((spec_l5Shift.f k y1_1 y0_0).bind fun t4 => (if (y7 ++ y0_1).length + t4.length ≤ 17592186044416 then ((spec_l5Empty.f k y1_0 y1_1 y1_2 y1_3).bind fun t5 => (if t5 = true then (if y8.length + y0_2.length ≤ 17592186044416 then ((spec_l5Shift.f k y1_2 y0_0).bind fun t6 => (if (y8 ++ y0_2).length + t6.length ≤ 17592186044416 then ((spec_l5Whole.f k y3_0 ((y7 ++ y0_1) ++ t4) ((y8 ++ y0_2) ++ t6) y9).bind fun t7 => (some (spec_ChainAutomaton.en (t7.1, t7.2.1, t7.2.2.1, t7.2.2.2.1, t7.2.2.2.2)))) else none)) else none) else ((spec_l5Shift.f k y1_2 y0_0).bind fun t8 => (if y8.length + t8.length ≤ 17592186044416 then ((spec_l5Whole.f k y3_0 ((y7 ++ y0_1) ++ t4) (y8 ++ t8) y9).bind fun t9 => (some (spec_ChainAutomaton.en (t9.1, t9.2.1, t9.2.2.1, t9.2.2.2.1, t9.2.2.2.2)))) else none)))) else none)) else ((spec_l5Empty.f k y1_0 y1_1 y1_2 y1_3).bind fun t10 => (if t10 = true then (if y8.length + y0_2.length ≤ 17592186044416 then ((spec_l5Shift.f k y1_2 y0_0).bind fun t11 => (if (y8 ++ y0_2).length + t11.length ≤ 17592186044416 then ((spec_l5Whole.f k y3_0 (y7 ++ y0_1) ((y8 ++ y0_2) ++ t11) y9).bind fun t12 => (some (spec_ChainAutomaton.en (t12.1, t12.2.1, t12.2.2.1, t12.2.2.2.1, t12.2.2.2.2)))) else none)) else none) else ((spec_l5Shift.f k y1_2 y0_0).bind fun t13 => (if y8.length + t13.length ≤ 17592186044416 then ((spec_l5Whole.f k y3_0 (y7 ++ y0_1) (y8 ++ t13) y9).bind fun t14 => (some (spec_ChainAutomaton.en (t14.1, t14.2.1, t14.2.2.1, t14.2.2.2.1, t14.2.2.2.2)))) else none)))))) else none)) := by kernel_rfl
set_option maxRecDepth 100000 in
theorem spec_ChainAutomaton.e1 (k : Nat) (x20 : List Stp) (x21 : Int) (x22 : Int) (x27 : List Int) (x28 : Int) (x29 : Int) (y0_0 : Int) (y0_1 : List Int) (y0_2 : List Int) (y0_3 : List Stp) (y1_0 : Int) (y1_1 : List Int) (y1_2 : List Int) (y1_3 : List Stp) (y3_0 : Int) (y8 : List Int) (y9 : List Int) (y10 : List Stp) (y4_0 : Int) (y4_1 : ByteArray) (y4_2 : Int) (y4_3 : Int) : spec_ChainAutomaton.x1 (k + 1) x20 x21 x22 x27 x28 x29 y0_0 y0_1 y0_2 y0_3 y1_0 y1_1 y1_2 y1_3 y3_0 y8 y9 y10 y4_0 y4_1 y4_2 y4_3 = (if x29 < x28 then (if 0 ≤ x29 then (if x29 < (x27.length : Int) then ((spec_l4In.f k y0_2 y4_2).bind fun t15 => (if t15 = true then ((spec_l3Put.f k y10 y4_0 y4_1 (wr64 ((rdI x27 x29) + y0_0)) y4_3).bind fun t16 => (spec_ChainAutomaton.x1 k x20 x21 x22 x27 x28 (wr64 (x29 + 1)) y0_0 y0_1 y0_2 y0_3 y1_0 y1_1 y1_2 y1_3 y3_0 y8 y9 t16 y4_0 y4_1 y4_2 y4_3)) else (spec_ChainAutomaton.x1 k x20 x21 x22 x27 x28 (wr64 (x29 + 1)) y0_0 y0_1 y0_2 y0_3 y1_0 y1_1 y1_2 y1_3 y3_0 y8 y9 y10 y4_0 y4_1 y4_2 y4_3))) else none) else none) else (spec_ChainAutomaton.x0 k x20 x21 (wr64 (x22 + 1)) y0_0 y0_1 y0_2 y0_3 y1_0 y1_1 y1_2 y1_3 y3_0 y8 y9 y10)) := by kernel_rfl
set_option maxRecDepth 100000 in
theorem spec_ChainAutomaton.ef (k : Nat) (a0_0 : Int) (l0_1 : List Int) (l0_2 : List Int) (l0_3 : List Stp) (a1_0 : Int) (l1_1 : List Int) (l1_2 : List Int) (l1_3 : List Stp) : R.start Try.prog xhn spec_ChainAutomaton.O 0 Try.f30 spec_ChainAutomaton.fh k [.agg [.int .i64 a0_0, .imm (.I .i64 l0_1), .imm (.I .i64 l0_2), .imm (.T l0_3)], .agg [.int .i64 a1_0, .imm (.I .i64 l1_1), .imm (.I .i64 l1_2), .imm (.T l1_3)]] [] = ((spec_l5Two.f k a0_0 l0_1 l0_2 l0_3 a1_0 l1_1 l1_2 l1_3).bind fun t1 => (if t1 = true then ((spec_l5Beside.f k a0_0 l0_1 l0_2 l0_3 a1_0 l1_1 l1_2 l1_3).bind fun t2 => (spec_ChainAutomaton.x0 k l0_3 (l0_3.length : Int) 0 a0_0 l0_1 l0_2 l0_3 a1_0 l1_1 l1_2 l1_3 t2.1 t2.2.1 t2.2.2.1 t2.2.2.2)) else (some (spec_ChainAutomaton.en (0, ([] : List Int), ([] : List Int), ([] : List Stp), false))))) := by kernel_rfl
theorem spec_ChainAutomaton.link : ∀ k, (∀ (x20 : List Stp) (x21 : Int) (x22 : Int) (y0_0 : Int) (y0_1 : List Int) (y0_2 : List Int) (y0_3 : List Stp) (y1_0 : Int) (y1_1 : List Int) (y1_2 : List Int) (y1_3 : List Stp) (y3_0 : Int) (y7 : List Int) (y8 : List Int) (y9 : List Stp), spec_ChainAutomaton.x0 k x20 x21 x22 y0_0 y0_1 y0_2 y0_3 y1_0 y1_1 y1_2 y1_3 y3_0 y7 y8 y9 = (spec_ChainAutomaton.l0 k x20 x21 x22 y0_0 y0_1 y0_2 y0_3 y1_0 y1_1 y1_2 y1_3 y3_0 y7 y8 y9).map (spec_ChainAutomaton.en)) ∧ (∀ (x20 : List Stp) (x21 : Int) (x22 : Int) (x27 : List Int) (x28 : Int) (x29 : Int) (y0_0 : Int) (y0_1 : List Int) (y0_2 : List Int) (y0_3 : List Stp) (y1_0 : Int) (y1_1 : List Int) (y1_2 : List Int) (y1_3 : List Stp) (y3_0 : Int) (y8 : List Int) (y9 : List Int) (y10 : List Stp) (y4_0 : Int) (y4_1 : ByteArray) (y4_2 : Int) (y4_3 : Int), spec_ChainAutomaton.x1 k x20 x21 x22 x27 x28 x29 y0_0 y0_1 y0_2 y0_3 y1_0 y1_1 y1_2 y1_3 y3_0 y8 y9 y10 y4_0 y4_1 y4_2 y4_3 = (spec_ChainAutomaton.l1 k x20 x21 x22 x27 x28 x29 y0_0 y0_1 y0_2 y0_3 y1_0 y1_1 y1_2 y1_3 y3_0 y8 y9 y10 y4_0 y4_1 y4_2 y4_3).map (spec_ChainAutomaton.en))
  | 0 => ⟨fun _ _ _ _ _ _ _ _ _ _ _ _ _ _ _ => by simp only [spec_ChainAutomaton.l0, R.map_none]; rfl, fun _ _ _ _ _ _ _ _ _ _ _ _ _ _ _ _ _ _ _ _ _ _ => by simp only [spec_ChainAutomaton.l1, R.map_none]; rfl⟩
  | k + 1 => by
    obtain ⟨ih0, ih1⟩ := spec_ChainAutomaton.link k
    refine ⟨?_, ?_⟩
    · intro x20 x21 x22 y0_0 y0_1 y0_2 y0_3 y1_0 y1_1 y1_2 y1_3 y3_0 y7 y8 y9
      rw [spec_ChainAutomaton.e0]
      simp only [spec_ChainAutomaton.l0, R.map_ite, R.map_bind, R.map_none, R.map_some, R.wr64_eq, ← ih0, ← ih1]
    · intro x20 x21 x22 x27 x28 x29 y0_0 y0_1 y0_2 y0_3 y1_0 y1_1 y1_2 y1_3 y3_0 y8 y9 y10 y4_0 y4_1 y4_2 y4_3
      rw [spec_ChainAutomaton.e1]
      simp only [spec_ChainAutomaton.l1, R.map_ite, R.map_bind, R.map_none, R.map_some, R.wr64_eq, ← ih0, ← ih1]
theorem spec_ChainAutomaton.sf (k : Nat) (a0_0 : Int) (l0_1 : List Int) (l0_2 : List Int) (l0_3 : List Stp) (a1_0 : Int) (l1_1 : List Int) (l1_2 : List Int) (l1_3 : List Stp) : R.start Try.prog xhn spec_ChainAutomaton.O 0 Try.f30 spec_ChainAutomaton.fh k [.agg [.int .i64 a0_0, .imm (.I .i64 l0_1), .imm (.I .i64 l0_2), .imm (.T l0_3)], .agg [.int .i64 a1_0, .imm (.I .i64 l1_1), .imm (.I .i64 l1_2), .imm (.T l1_3)]] [] = (spec_ChainAutomaton.f k a0_0 l0_1 l0_2 l0_3 a1_0 l1_1 l1_2 l1_3).map (spec_ChainAutomaton.en) := by
  obtain ⟨ih0, ih1⟩ := spec_ChainAutomaton.link k
  rw [spec_ChainAutomaton.ef]
  simp only [spec_ChainAutomaton.f, R.map_ite, R.map_bind, R.map_none, R.map_some, R.wr64_eq, ← ih0, ← ih1]
theorem spec_ChainAutomaton.ok (k : Nat) : spec_ChainAutomaton.tw.Ok Try.prog k := by
  intro md hmd a r h
  refine fn_ok (H := xhn) (fh := spec_ChainAutomaton.fh) (O := spec_ChainAutomaton.O) (k := k) Try.func30 (by kernel_rfl) (by kernel_rfl) (fun j _ => (Tw.orc_sound spec_l5Two.dok (spec_l5Two.ok j) (fun _ => rfl) (Tw.orc_sound spec_l5Beside.dok (spec_l5Beside.ok j) (fun _ => rfl) (Tw.orc_sound spec_l5Empty.dok (spec_l5Empty.ok j) (fun _ => rfl) (Tw.orc_sound spec_l5Shift.dok (spec_l5Shift.ok j) (fun _ => rfl) (Tw.orc_sound spec_l5Whole.dok (spec_l5Whole.ok j) (fun _ => rfl) (Tw.orc_sound spec_l4In.dok (spec_l4In.ok j) (fun _ => rfl) (Tw.orc_sound spec_l3Put.dok (spec_l3Put.ok j) (fun _ => rfl) noO_sound)))))))) (by kernel_rfl) (m := 0) rfl ?_
  refine (spec_ChainAutomaton.sf k a.1 a.2.1 a.2.2.1 a.2.2.2.1 a.2.2.2.2.1 a.2.2.2.2.2.1 a.2.2.2.2.2.2.1 a.2.2.2.2.2.2.2).trans ?_
  exact congrArg (Option.map _) h
def impl_statesOk.l0 : Nat → (List Int) → Int → (List Int) → Int → Int → Option (Bool)
  | 0, _, _, _, _, _ => none
  | k + 1, x0, x1, x7, x8, x9 => (if x9 < x8 then (if 0 ≤ x9 then (if x9 < (x7.length : Int) then (if (rdI x7 x9) < 0 then (some false) else (if (rdI x7 x9) ≥ x1 then (some false) else (if x9 > 0 then (if 0 ≤ (wrap64 (x9 - 1)) then (if (wrap64 (x9 - 1)) < (x0.length : Int) then (if (rdI x0 (wrap64 (x9 - 1))) ≥ (rdI x7 x9) then (some false) else (impl_statesOk.l0 k x0 x1 x7 x8 (wrap64 (x9 + 1)))) else none) else none) else (impl_statesOk.l0 k x0 x1 x7 x8 (wrap64 (x9 + 1)))))) else none) else none) else (some true))
def impl_statesOk.f (k : Nat) (l0 : List Int) (a1 : Int) : Option (Bool) := (impl_statesOk.l0 k l0 a1 l0 (l0.length : Int) 0)
def impl_statesOk.en (r : Bool) : Res := (.lit r, [])
def impl_statesOk.dec : List AV → List R.Obj → Option ((List Int) × Int)
  | [.imm (.I .i64 l0), .int .i64 a1], [] => some (l0, a1)
  | _, _ => none
def impl_statesOk.tw : Tw := ⟨101, (List Int) × Int, Bool, impl_statesOk.dec, fun a => [.imm (.I .i64 a.1), .int .i64 a.2], fun a => [], fun k a => impl_statesOk.f k a.1 a.2, fun a r => impl_statesOk.en r, true⟩
theorem impl_statesOk.dok : impl_statesOk.tw.DecOk := by
  intro args hc a h
  have h : impl_statesOk.dec args hc = some a := h
  unfold impl_statesOk.dec at h
  split at h
  · cases h; exact ⟨rfl, rfl⟩
  · cases h
noncomputable def impl_statesOk.O (k : Nat) : Oracle := noO
def impl_statesOk.fh : FH := ⟨fun i => match i with | 2 => some [(0, 0), (1, 0), (7, 0), (8, 0), (9, 0)] | _ => none, [], false⟩
noncomputable def impl_statesOk.x0 (k : Nat) (x0 : List Int) (x1 : Int) (x7 : List Int) (x8 : Int) (x9 : Int) : Option Res := R.exec Try.prog xhn impl_statesOk.O 0 Try.f101 impl_statesOk.fh k (R.point Try.f101 2) ⟨[(0, .imm (.I .i64 x0)), (1, .int .i64 x1), (7, .imm (.I .i64 x7)), (8, .int .i64 x8), (9, .int .i64 x9)], [], 2⟩
set_option maxRecDepth 100000 in
theorem impl_statesOk.e0 (k : Nat) (x0 : List Int) (x1 : Int) (x7 : List Int) (x8 : Int) (x9 : Int) : impl_statesOk.x0 (k + 1) x0 x1 x7 x8 x9 = (if x9 < x8 then (if 0 ≤ x9 then (if x9 < (x7.length : Int) then (if (rdI x7 x9) < 0 then (some (impl_statesOk.en false)) else (if (rdI x7 x9) ≥ x1 then (some (impl_statesOk.en false)) else (if x9 > 0 then (if 0 ≤ (wr64 (x9 - 1)) then (if (wr64 (x9 - 1)) < (x0.length : Int) then (if (rdI x0 (wr64 (x9 - 1))) ≥ (rdI x7 x9) then (some (impl_statesOk.en false)) else (impl_statesOk.x0 k x0 x1 x7 x8 (wr64 (x9 + 1)))) else none) else none) else (impl_statesOk.x0 k x0 x1 x7 x8 (wr64 (x9 + 1)))))) else none) else none) else (some (impl_statesOk.en true))) := by kernel_rfl
set_option maxRecDepth 100000 in
theorem impl_statesOk.ef (k : Nat) (l0 : List Int) (a1 : Int) : R.start Try.prog xhn impl_statesOk.O 0 Try.f101 impl_statesOk.fh k [.imm (.I .i64 l0), .int .i64 a1] [] = (impl_statesOk.x0 k l0 a1 l0 (l0.length : Int) 0) := by kernel_rfl
theorem impl_statesOk.link : ∀ k, (∀ (x0 : List Int) (x1 : Int) (x7 : List Int) (x8 : Int) (x9 : Int), impl_statesOk.x0 k x0 x1 x7 x8 x9 = (impl_statesOk.l0 k x0 x1 x7 x8 x9).map (impl_statesOk.en))
  | 0 => fun _ _ _ _ _ => by simp only [impl_statesOk.l0, R.map_none]; rfl
  | k + 1 => by
    have ih0 := impl_statesOk.link k
    · intro x0 x1 x7 x8 x9
      rw [impl_statesOk.e0]
      simp only [impl_statesOk.l0, R.map_ite, R.map_bind, R.map_none, R.map_some, R.wr64_eq, ← ih0]
theorem impl_statesOk.sf (k : Nat) (l0 : List Int) (a1 : Int) : R.start Try.prog xhn impl_statesOk.O 0 Try.f101 impl_statesOk.fh k [.imm (.I .i64 l0), .int .i64 a1] [] = (impl_statesOk.f k l0 a1).map (impl_statesOk.en) := by
  have ih0 := impl_statesOk.link k
  rw [impl_statesOk.ef]
  simp only [impl_statesOk.f, R.map_ite, R.map_bind, R.map_none, R.map_some, R.wr64_eq, ← ih0]
theorem impl_statesOk.ok (k : Nat) : impl_statesOk.tw.Ok Try.prog k := by
  intro md hmd a r h
  refine fn_ok (H := xhn) (fh := impl_statesOk.fh) (O := impl_statesOk.O) (k := k) Try.func101 (by kernel_rfl) (by kernel_rfl) (fun j _ => noO_sound) (by kernel_rfl) (m := 0) rfl ?_
  refine (impl_statesOk.sf k a.1 a.2).trans ?_
  exact congrArg (Option.map _) h
def cmp_isNaN_int.f (a0 : Int) : Option (Bool) := (some (!decide (a0 = a0)))
def cmp_isNaN_int.en (r : Bool) : Res := (.lit r, [])
def cmp_isNaN_int.dec : List AV → List R.Obj → Option (Int)
  | [.int .i64 a0], [] => some a0
  | _, _ => none
def cmp_isNaN_int.tw : Tw := ⟨141, Int, Bool, cmp_isNaN_int.dec, fun a => [.int .i64 a], fun a => [], fun k a => cmp_isNaN_int.f a, fun a r => cmp_isNaN_int.en r, true⟩
theorem cmp_isNaN_int.dok : cmp_isNaN_int.tw.DecOk := by
  intro args hc a h
  have h : cmp_isNaN_int.dec args hc = some a := h
  unfold cmp_isNaN_int.dec at h
  split at h
  · cases h; exact ⟨rfl, rfl⟩
  · cases h
noncomputable def cmp_isNaN_int.O (k : Nat) : Oracle := noO
def cmp_isNaN_int.fh : FH := ⟨fun i => match i with | _ => none, [], false⟩
set_option maxRecDepth 100000 in
theorem cmp_isNaN_int.ef (k : Nat) (a0 : Int) : R.start Try.prog xhn cmp_isNaN_int.O 0 Try.f141 cmp_isNaN_int.fh k [.int .i64 a0] [] = (some (cmp_isNaN_int.en (!decide (a0 = a0)))) := by kernel_rfl
theorem cmp_isNaN_int.sf (k : Nat) (a0 : Int) : R.start Try.prog xhn cmp_isNaN_int.O 0 Try.f141 cmp_isNaN_int.fh k [.int .i64 a0] [] = (cmp_isNaN_int.f a0).map (cmp_isNaN_int.en) := by
  rw [cmp_isNaN_int.ef]
  simp only [cmp_isNaN_int.f, R.map_ite, R.map_bind, R.map_none, R.map_some, R.wr64_eq]
theorem cmp_isNaN_int.ok (k : Nat) : cmp_isNaN_int.tw.Ok Try.prog k := by
  intro md hmd a r h
  refine fn_ok (H := xhn) (fh := cmp_isNaN_int.fh) (O := cmp_isNaN_int.O) (k := k) Try.func141 (by kernel_rfl) (by kernel_rfl) (fun j _ => noO_sound) (by kernel_rfl) (m := 0) rfl ?_
  refine (cmp_isNaN_int.sf k a).trans ?_
  exact congrArg (Option.map _) h
def cmp_Compare_int.f (a0 : Int) (a1 : Int) : Option (Int) := ((cmp_isNaN_int.f a0).bind fun t1 => ((cmp_isNaN_int.f a1).bind fun t2 => (if t1 = true then (if t2 = true then (some 0) else (some (-1))) else (if t2 = true then (some 1) else (if a0 < a1 then (some (-1)) else (if a0 > a1 then (some 1) else (some 0)))))))
def cmp_Compare_int.en (r : Int) : Res := (.int .i64 r, [])
def cmp_Compare_int.dec : List AV → List R.Obj → Option (Int × Int)
  | [.int .i64 a0, .int .i64 a1], [] => some (a0, a1)
  | _, _ => none
def cmp_Compare_int.tw : Tw := ⟨125, Int × Int, Int, cmp_Compare_int.dec, fun a => [.int .i64 a.1, .int .i64 a.2], fun a => [], fun k a => cmp_Compare_int.f a.1 a.2, fun a r => cmp_Compare_int.en r, true⟩
theorem cmp_Compare_int.dok : cmp_Compare_int.tw.DecOk := by
  intro args hc a h
  have h : cmp_Compare_int.dec args hc = some a := h
  unfold cmp_Compare_int.dec at h
  split at h
  · cases h; exact ⟨rfl, rfl⟩
  · cases h
noncomputable def cmp_Compare_int.O (k : Nat) : Oracle := (cmp_isNaN_int.tw.orc k noO)
def cmp_Compare_int.fh : FH := ⟨fun i => match i with | _ => none, [], false⟩
set_option maxRecDepth 100000 in
theorem cmp_Compare_int.ef (k : Nat) (a0 : Int) (a1 : Int) : R.start Try.prog xhn cmp_Compare_int.O 0 Try.f125 cmp_Compare_int.fh k [.int .i64 a0, .int .i64 a1] [] = ((cmp_isNaN_int.f a0).bind fun t1 => ((cmp_isNaN_int.f a1).bind fun t2 => (if t1 = true then (if t2 = true then (some (cmp_Compare_int.en 0)) else (some (cmp_Compare_int.en (-1)))) else (if t2 = true then (some (cmp_Compare_int.en 1)) else (if a0 < a1 then (some (cmp_Compare_int.en (-1))) else (if a0 > a1 then (some (cmp_Compare_int.en 1)) else (some (cmp_Compare_int.en 0)))))))) := by kernel_rfl
theorem cmp_Compare_int.sf (k : Nat) (a0 : Int) (a1 : Int) : R.start Try.prog xhn cmp_Compare_int.O 0 Try.f125 cmp_Compare_int.fh k [.int .i64 a0, .int .i64 a1] [] = (cmp_Compare_int.f a0 a1).map (cmp_Compare_int.en) := by
  rw [cmp_Compare_int.ef]
  simp only [cmp_Compare_int.f, R.map_ite, R.map_bind, R.map_none, R.map_some, R.wr64_eq]
theorem cmp_Compare_int.ok (k : Nat) : cmp_Compare_int.tw.Ok Try.prog k := by
  intro md hmd a r h
  refine fn_ok (H := xhn) (fh := cmp_Compare_int.fh) (O := cmp_Compare_int.O) (k := k) Try.func125 (by kernel_rfl) (by kernel_rfl) (fun j _ => (Tw.orc_sound cmp_isNaN_int.dok (cmp_isNaN_int.ok j) (fun _ => rfl) noO_sound)) (by kernel_rfl) (m := 0) rfl ?_
  refine (cmp_Compare_int.sf k a.1 a.2).trans ?_
  exact congrArg (Option.map _) h
def bytealg_CompareString.f (a0 a1 : ByteArray) : Option Int := some (Lib.compareBytes a0.data.toList a1.data.toList)
def bytealg_CompareString.dec : List AV → List R.Obj → Option (ByteArray × ByteArray)
  | [.str a0, .str a1], [] => some (a0, a1)
  | _, _ => none
def bytealg_CompareString.tw : Tw := ⟨142, ByteArray × ByteArray, Int, bytealg_CompareString.dec, fun a => [.str a.1, .str a.2], fun a => [], fun k a => bytealg_CompareString.f a.1 a.2, fun a r => (.int .i64 r, []), true⟩
theorem bytealg_CompareString.dok : bytealg_CompareString.tw.DecOk := by
  intro args hc a h
  have h : bytealg_CompareString.dec args hc = some a := h
  unfold bytealg_CompareString.dec at h
  split at h
  · cases h; exact ⟨rfl, rfl⟩
  · cases h
set_option maxRecDepth 100000 in
set_option maxHeartbeats 8000000 in
theorem bytealg_CompareString.calls (a0 a1 : ByteArray) (w : World) : Calls Try.prog 142 #[.string a0, .string a1] w fun e w' => e = .returned (.int .i64 (Lib.compareBytes a0.data.toList a1.data.toList)) ∧ w' = w := by
  go_enter Try.func142, Try.ntmps142
  go_wp2
  rw [run_callFunc_extern Try.func168 (by kernel_rfl) (by kernel_rfl) (by kernel_rfl) (e := Extern.BytealgCompare.compare) (by kernel_rfl), Lib.run_compareString]
  simp only [Result.andThen]
  rw [Oper.upon_value]
  go_wp2
  go_ret
  exact ⟨rfl, rfl⟩
theorem bytealg_CompareString.ok (k : Nat) : bytealg_CompareString.tw.Ok Try.prog k := by
  intro md hmd a r h
  obtain rfl := Option.some.inj (show some _ = some r from h)
  refine ⟨callable_of Try.func142 (by kernel_rfl) (by kernel_rfl), fun w M I vs E => ?_⟩
  have e : vs = #[.string a.1, .string a.2] := two_of E.len (fun q => (E.args 0 _ _ rfl q).str_inv) (fun q => (E.args 1 _ _ rfl q).str_inv)
  subst e
  refine (bytealg_CompareString.calls a.1 a.2 w).mono fun e w' => ?_
  rintro ⟨rfl, rfl⟩
  exact ⟨_, M, rfl, (E.rel md).weaken (fun κ q => q.elim), .closed (.int _ _)⟩
def strings_Compare.f (a0 : ByteArray) (a1 : ByteArray) : Option (Int) := ((bytealg_CompareString.f a0 a1).bind fun t1 => (some t1))
def strings_Compare.en (r : Int) : Res := (.int .i64 r, [])
def strings_Compare.dec : List AV → List R.Obj → Option (ByteArray × ByteArray)
  | [.str a0, .str a1], [] => some (a0, a1)
  | _, _ => none
def strings_Compare.tw : Tw := ⟨126, ByteArray × ByteArray, Int, strings_Compare.dec, fun a => [.str a.1, .str a.2], fun a => [], fun k a => strings_Compare.f a.1 a.2, fun a r => strings_Compare.en r, true⟩
theorem strings_Compare.dok : strings_Compare.tw.DecOk := by
  intro args hc a h
  have h : strings_Compare.dec args hc = some a := h
  unfold strings_Compare.dec at h
  split at h
  · cases h; exact ⟨rfl, rfl⟩
  · cases h
noncomputable def strings_Compare.O (k : Nat) : Oracle := (bytealg_CompareString.tw.orc k noO)
def strings_Compare.fh : FH := ⟨fun i => match i with | _ => none, [], false⟩
set_option maxRecDepth 100000 in
theorem strings_Compare.ef (k : Nat) (a0 : ByteArray) (a1 : ByteArray) : R.start Try.prog xhn strings_Compare.O 0 Try.f126 strings_Compare.fh k [.str a0, .str a1] [] = ((bytealg_CompareString.f a0 a1).bind fun t1 => (some (strings_Compare.en t1))) := by kernel_rfl
theorem strings_Compare.sf (k : Nat) (a0 : ByteArray) (a1 : ByteArray) : R.start Try.prog xhn strings_Compare.O 0 Try.f126 strings_Compare.fh k [.str a0, .str a1] [] = (strings_Compare.f a0 a1).map (strings_Compare.en) := by
  rw [strings_Compare.ef]
  simp only [strings_Compare.f, R.map_ite, R.map_bind, R.map_none, R.map_some, R.wr64_eq]
theorem strings_Compare.ok (k : Nat) : strings_Compare.tw.Ok Try.prog k := by
  intro md hmd a r h
  refine fn_ok (H := xhn) (fh := strings_Compare.fh) (O := strings_Compare.O) (k := k) Try.func126 (by kernel_rfl) (by kernel_rfl) (fun j _ => (Tw.orc_sound bytealg_CompareString.dok (bytealg_CompareString.ok j) (fun _ => rfl) noO_sound)) (by kernel_rfl) (m := 0) rfl ?_
  refine (strings_Compare.sf k a.1 a.2).trans ?_
  exact congrArg (Option.map _) h
def cmp_Or_int.l0 : Nat → (List Int) → Int → Int → Option (Int)
  | 0, _, _, _ => none
  | k + 1, x6, x7, x8 => (if x8 < x7 then (if 0 ≤ x8 then (if x8 < (x6.length : Int) then (if (rdI x6 x8) = 0 then (cmp_Or_int.l0 k x6 x7 (wrap64 (x8 + 1))) else (some (rdI x6 x8))) else none) else none) else (some 0))
def cmp_Or_int.f (k : Nat) (l0 : List Int) : Option (Int) := (cmp_Or_int.l0 k l0 (l0.length : Int) 0)
def cmp_Or_int.en (r : Int) : Res := (.int .i64 r, [])
def cmp_Or_int.dec : List AV → List R.Obj → Option (List Int)
  | [.imm (.I .i64 l0)], [] => some l0
  | _, _ => none
def cmp_Or_int.tw : Tw := ⟨124, List Int, Int, cmp_Or_int.dec, fun a => [.imm (.I .i64 a)], fun a => [], fun k a => cmp_Or_int.f k a, fun a r => cmp_Or_int.en r, true⟩
theorem cmp_Or_int.dok : cmp_Or_int.tw.DecOk := by
  intro args hc a h
  have h : cmp_Or_int.dec args hc = some a := h
  unfold cmp_Or_int.dec at h
  split at h
  · cases h; exact ⟨rfl, rfl⟩
  · cases h
noncomputable def cmp_Or_int.O (k : Nat) : Oracle := noO
def cmp_Or_int.fh : FH := ⟨fun i => match i with | 3 => some [(3, 0), (6, 0), (7, 0), (8, 0)] | _ => none, [], false⟩
noncomputable def cmp_Or_int.x0 (k : Nat) (x6 : List Int) (x7 : Int) (x8 : Int) : Option Res := R.exec Try.prog xhn cmp_Or_int.O 0 Try.f124 cmp_Or_int.fh k (R.point Try.f124 3) ⟨[(3, .int .i64 0), (6, .imm (.I .i64 x6)), (7, .int .i64 x7), (8, .int .i64 x8)], [], 2⟩
set_option maxRecDepth 100000 in
theorem cmp_Or_int.e0 (k : Nat) (x6 : List Int) (x7 : Int) (x8 : Int) : cmp_Or_int.x0 (k + 1) x6 x7 x8 = (if x8 < x7 then (if 0 ≤ x8 then (if x8 < (x6.length : Int) then (if (rdI x6 x8) = 0 then (cmp_Or_int.x0 k x6 x7 (wr64 (x8 + 1))) else (some (cmp_Or_int.en (rdI x6 x8)))) else none) else none) else (some (cmp_Or_int.en 0))) := by kernel_rfl
set_option maxRecDepth 100000 in
theorem cmp_Or_int.ef (k : Nat) (l0 : List Int) : R.start Try.prog xhn cmp_Or_int.O 0 Try.f124 cmp_Or_int.fh k [.imm (.I .i64 l0)] [] = (cmp_Or_int.x0 k l0 (l0.length : Int) 0) := by kernel_rfl
theorem cmp_Or_int.link : ∀ k, (∀ (x6 : List Int) (x7 : Int) (x8 : Int), cmp_Or_int.x0 k x6 x7 x8 = (cmp_Or_int.l0 k x6 x7 x8).map (cmp_Or_int.en))
  | 0 => fun _ _ _ => by simp only [cmp_Or_int.l0, R.map_none]; rfl
  | k + 1 => by
    have ih0 := cmp_Or_int.link k
    · intro x6 x7 x8
      rw [cmp_Or_int.e0]
      simp only [cmp_Or_int.l0, R.map_ite, R.map_bind, R.map_none, R.map_some, R.wr64_eq, ← ih0]
theorem cmp_Or_int.sf (k : Nat) (l0 : List Int) : R.start Try.prog xhn cmp_Or_int.O 0 Try.f124 cmp_Or_int.fh k [.imm (.I .i64 l0)] [] = (cmp_Or_int.f k l0).map (cmp_Or_int.en) := by
  have ih0 := cmp_Or_int.link k
  rw [cmp_Or_int.ef]
  simp only [cmp_Or_int.f, R.map_ite, R.map_bind, R.map_none, R.map_some, R.wr64_eq, ← ih0]
theorem cmp_Or_int.ok (k : Nat) : cmp_Or_int.tw.Ok Try.prog k := by
  intro md hmd a r h
  refine fn_ok (H := xhn) (fh := cmp_Or_int.fh) (O := cmp_Or_int.O) (k := k) Try.func124 (by kernel_rfl) (by kernel_rfl) (fun j _ => noO_sound) (by kernel_rfl) (m := 0) rfl ?_
  refine (cmp_Or_int.sf k a).trans ?_
  exact congrArg (Option.map _) h
def impl_stepOrder.f (k : Nat) (a0_0 : Int) (a0_1 : ByteArray) (a0_2 : Int) (a0_3 : Int) (a1_0 : Int) (a1_1 : ByteArray) (a1_2 : Int) (a1_3 : Int) : Option (Int) := ((cmp_Compare_int.f a0_0 a1_0).bind fun t1 => ((strings_Compare.f a0_1 a1_1).bind fun t2 => ((cmp_Compare_int.f a0_2 a1_2).bind fun t3 => ((cmp_Or_int.f k ([t1, t2, t3])).bind fun t4 => (some t4)))))
def impl_stepOrder.en (r : Int) : Res := (.int .i64 r, [])
def impl_stepOrder.dec : List AV → List R.Obj → Option (Int × ByteArray × Int × Int × Int × ByteArray × Int × Int)
  | [.agg [.int .i64 a0_0, .str a0_1, .int .i64 a0_2, .int .i64 a0_3], .agg [.int .i64 a1_0, .str a1_1, .int .i64 a1_2, .int .i64 a1_3]], [] => some (a0_0, a0_1, a0_2, a0_3, a1_0, a1_1, a1_2, a1_3)
  | _, _ => none
def impl_stepOrder.tw : Tw := ⟨88, Int × ByteArray × Int × Int × Int × ByteArray × Int × Int, Int, impl_stepOrder.dec, fun a => [.agg [.int .i64 a.1, .str a.2.1, .int .i64 a.2.2.1, .int .i64 a.2.2.2.1], .agg [.int .i64 a.2.2.2.2.1, .str a.2.2.2.2.2.1, .int .i64 a.2.2.2.2.2.2.1, .int .i64 a.2.2.2.2.2.2.2]], fun a => [], fun k a => impl_stepOrder.f k a.1 a.2.1 a.2.2.1 a.2.2.2.1 a.2.2.2.2.1 a.2.2.2.2.2.1 a.2.2.2.2.2.2.1 a.2.2.2.2.2.2.2, fun a r => impl_stepOrder.en r, true⟩
theorem impl_stepOrder.dok : impl_stepOrder.tw.DecOk := by
  intro args hc a h
  have h : impl_stepOrder.dec args hc = some a := h
  unfold impl_stepOrder.dec at h
  split at h
  · cases h; exact ⟨rfl, rfl⟩
  · cases h
noncomputable def impl_stepOrder.O (k : Nat) : Oracle := (cmp_Compare_int.tw.orc k (strings_Compare.tw.orc k (cmp_Or_int.tw.orc k noO)))
def impl_stepOrder.fh : FH := ⟨fun i => match i with | _ => none, [], false⟩
set_option maxRecDepth 100000 in
theorem impl_stepOrder.ef (k : Nat) (a0_0 : Int) (a0_1 : ByteArray) (a0_2 : Int) (a0_3 : Int) (a1_0 : Int) (a1_1 : ByteArray) (a1_2 : Int) (a1_3 : Int) : R.start Try.prog xhn impl_stepOrder.O 0 Try.f88 impl_stepOrder.fh k [.agg [.int .i64 a0_0, .str a0_1, .int .i64 a0_2, .int .i64 a0_3], .agg [.int .i64 a1_0, .str a1_1, .int .i64 a1_2, .int .i64 a1_3]] [] = ((cmp_Compare_int.f a0_0 a1_0).bind fun t1 => ((strings_Compare.f a0_1 a1_1).bind fun t2 => ((cmp_Compare_int.f a0_2 a1_2).bind fun t3 => ((cmp_Or_int.f k ([t1, t2, t3])).bind fun t4 => (some (impl_stepOrder.en t4)))))) := by kernel_rfl
theorem impl_stepOrder.sf (k : Nat) (a0_0 : Int) (a0_1 : ByteArray) (a0_2 : Int) (a0_3 : Int) (a1_0 : Int) (a1_1 : ByteArray) (a1_2 : Int) (a1_3 : Int) : R.start Try.prog xhn impl_stepOrder.O 0 Try.f88 impl_stepOrder.fh k [.agg [.int .i64 a0_0, .str a0_1, .int .i64 a0_2, .int .i64 a0_3], .agg [.int .i64 a1_0, .str a1_1, .int .i64 a1_2, .int .i64 a1_3]] [] = (impl_stepOrder.f k a0_0 a0_1 a0_2 a0_3 a1_0 a1_1 a1_2 a1_3).map (impl_stepOrder.en) := by
  rw [impl_stepOrder.ef]
  simp only [impl_stepOrder.f, R.map_ite, R.map_bind, R.map_none, R.map_some, R.wr64_eq]
theorem impl_stepOrder.ok (k : Nat) : impl_stepOrder.tw.Ok Try.prog k := by
  intro md hmd a r h
  refine fn_ok (H := xhn) (fh := impl_stepOrder.fh) (O := impl_stepOrder.O) (k := k) Try.func88 (by kernel_rfl) (by kernel_rfl) (fun j _ => (Tw.orc_sound cmp_Compare_int.dok (cmp_Compare_int.ok j) (fun _ => rfl) (Tw.orc_sound strings_Compare.dok (strings_Compare.ok j) (fun _ => rfl) (Tw.orc_sound cmp_Or_int.dok (cmp_Or_int.ok j) (fun _ => rfl) noO_sound)))) (by kernel_rfl) (m := 0) rfl ?_
  refine (impl_stepOrder.sf k a.1 a.2.1 a.2.2.1 a.2.2.2.1 a.2.2.2.2.1 a.2.2.2.2.2.1 a.2.2.2.2.2.2.1 a.2.2.2.2.2.2.2).trans ?_
  exact congrArg (Option.map _) h
def impl_AutomatonValid.l0 : Nat → (List Stp) → Int → Int → Int → (List Int) → (List Int) → (List Stp) → Option (Bool)
  | 0, _, _, _, _, _, _, _ => none
  | k + 1, x36, x37, x38, y0_0, y0_1, y0_2, y0_3 => (if x38 < x37 then (if 0 ≤ x38 then (if x38 < (x36.length : Int) then (if (rdT x36 x38).f0 < 0 then (some false) else (if (rdT x36 x38).f0 ≥ y0_0 then (some false) else (if (rdT x36 x38).f2 < 0 then (some false) else (if (rdT x36 x38).f2 ≥ y0_0 then (some false) else (if (rdT x36 x38).f1.toList = ([97] : List UInt8) then (if (rdT x36 x38).f3 < 0 then (some false) else (if (rdT x36 x38).f3 > 3 then (some false) else (if x38 > 0 then (if 0 ≤ (wrap64 (x38 - 1)) then (if (wrap64 (x38 - 1)) < (y0_3.length : Int) then ((impl_stepOrder.f k ((rdT y0_3 (wrap64 (x38 - 1))).f0) ((rdT y0_3 (wrap64 (x38 - 1))).f1) ((rdT y0_3 (wrap64 (x38 - 1))).f2) ((rdT y0_3 (wrap64 (x38 - 1))).f3) ((rdT x36 x38).f0) ((rdT x36 x38).f1) ((rdT x36 x38).f2) ((rdT x36 x38).f3)).bind fun t3 => (if t3 ≥ 0 then (some false) else (impl_AutomatonValid.l0 k x36 x37 (wrap64 (x38 + 1)) y0_0 y0_1 y0_2 y0_3))) else none) else none) else (impl_AutomatonValid.l0 k x36 x37 (wrap64 (x38 + 1)) y0_0 y0_1 y0_2 y0_3)))) else (if (rdT x36 x38).f1.toList = ([98] : List UInt8) then (if (rdT x36 x38).f3 < 0 then (some false) else (if (rdT x36 x38).f3 > 3 then (some false) else (if x38 > 0 then (if 0 ≤ (wrap64 (x38 - 1)) then (if (wrap64 (x38 - 1)) < (y0_3.length : Int) then ((impl_stepOrder.f k ((rdT y0_3 (wrap64 (x38 - 1))).f0) ((rdT y0_3 (wrap64 (x38 - 1))).f1) ((rdT y0_3 (wrap64 (x38 - 1))).f2) ((rdT y0_3 (wrap64 (x38 - 1))).f3) ((rdT x36 x38).f0) ((rdT x36 x38).f1) ((rdT x36 x38).f2) ((rdT x36 x38).f3)).bind fun t4 => (if t4 ≥ 0 then (some false) else (impl_AutomatonValid.l0 k x36 x37 (wrap64 (x38 + 1)) y0_0 y0_1 y0_2 y0_3))) else none) else none) else (impl_AutomatonValid.l0 k x36 x37 (wrap64 (x38 + 1)) y0_0 y0_1 y0_2 y0_3)))) else (some false))))))) else none) else none) else (some true))
def impl_AutomatonValid.f (k : Nat) (a0_0 : Int) (l0_1 : List Int) (l0_2 : List Int) (l0_3 : List Stp) : Option (Bool) := (if a0_0 < 1 then (some false) else (if a0_0 > 4 then (some false) else (if (l0_3.length : Int) > 24 then (some false) else ((impl_statesOk.f k l0_1 a0_0).bind fun t1 => (if t1 = true then ((impl_statesOk.f k l0_2 a0_0).bind fun t2 => (if t2 = true then (impl_AutomatonValid.l0 k l0_3 (l0_3.length : Int) 0 a0_0 l0_1 l0_2 l0_3) else (some false))) else (some false))))))
def impl_AutomatonValid.en (r : Bool) : Res := (.lit r, [])
def impl_AutomatonValid.dec : List AV → List R.Obj → Option (Int × (List Int) × (List Int) × (List Stp))
  | [.agg [.int .i64 a0_0, .imm (.I .i64 l0_1), .imm (.I .i64 l0_2), .imm (.T l0_3)]], [] => some (a0_0, l0_1, l0_2, l0_3)
  | _, _ => none
def impl_AutomatonValid.tw : Tw := ⟨42, Int × (List Int) × (List Int) × (List Stp), Bool, impl_AutomatonValid.dec, fun a => [.agg [.int .i64 a.1, .imm (.I .i64 a.2.1), .imm (.I .i64 a.2.2.1), .imm (.T a.2.2.2)]], fun a => [], fun k a => impl_AutomatonValid.f k a.1 a.2.1 a.2.2.1 a.2.2.2, fun a r => impl_AutomatonValid.en r, true⟩
theorem impl_AutomatonValid.dok : impl_AutomatonValid.tw.DecOk := by
  intro args hc a h
  have h : impl_AutomatonValid.dec args hc = some a := h
  unfold impl_AutomatonValid.dec at h
  split at h
  · cases h; exact ⟨rfl, rfl⟩
  · cases h
noncomputable def impl_AutomatonValid.O (k : Nat) : Oracle := (impl_statesOk.tw.orc k (impl_stepOrder.tw.orc k noO))
def impl_AutomatonValid.fh : FH := ⟨fun i => match i with | 4 => some [(1, 0), (36, 0), (37, 0), (38, 0)] | _ => none, [], false⟩
noncomputable def impl_AutomatonValid.x0 (k : Nat) (x36 : List Stp) (x37 : Int) (x38 : Int) (y0_0 : Int) (y0_1 : List Int) (y0_2 : List Int) (y0_3 : List Stp) : Option Res := R.exec Try.prog xhn impl_AutomatonValid.O 0 Try.f42 impl_AutomatonValid.fh k (R.point Try.f42 4) ⟨[(1, .ptr 0 0), (36, .imm (.T x36)), (37, .int .i64 x37), (38, .int .i64 x38)], [(0, .box false [.int .i64 y0_0, .imm (.I .i64 y0_1), .imm (.I .i64 y0_2), .imm (.T y0_3)])], 3⟩
set_option maxRecDepth 100000 in
theorem impl_AutomatonValid.e0 (k : Nat) (x36 : List Stp) (x37 : Int) (x38 : Int) (y0_0 : Int) (y0_1 : List Int) (y0_2 : List Int) (y0_3 : List Stp) : impl_AutomatonValid.x0 (k + 1) x36 x37 x38 y0_0 y0_1 y0_2 y0_3 = (if x38 < x37 then (if 0 ≤ x38 then (if x38 < (x36.length : Int) then (if (rdT x36 x38).f0 < 0 then (some (impl_AutomatonValid.en false)) else (if (rdT x36 x38).f0 ≥ y0_0 then (some (impl_AutomatonValid.en false)) else (if (rdT x36 x38).f2 < 0 then (some (impl_AutomatonValid.en false)) else (if (rdT x36 x38).f2 ≥ y0_0 then (some (impl_AutomatonValid.en false)) else (if (rdT x36 x38).f1.toList = ([97] : List UInt8) then (if (rdT x36 x38).f3 < 0 then (some (impl_AutomatonValid.en false)) else (if (rdT x36 x38).f3 > 3 then (some (impl_AutomatonValid.en false)) else (if x38 > 0 then (if 0 ≤ (wr64 (x38 - 1)) then (if (wr64 (x38 - 1)) < (y0_3.length : Int) then ((impl_stepOrder.f k ((rdT y0_3 (wr64 (x38 - 1))).f0) ((rdT y0_3 (wr64 (x38 - 1))).f1) ((rdT y0_3 (wr64 (x38 - 1))).f2) ((rdT y0_3 (wr64 (x38 - 1))).f3) ((rdT x36 x38).f0) ((rdT x36 x38).f1) ((rdT x36 x38).f2) ((rdT x36 x38).f3)).bind fun t3 => (if t3 ≥ 0 then (some (impl_AutomatonValid.en false)) else (impl_AutomatonValid.x0 k x36 x37 (wr64 (x38 + 1)) y0_0 y0_1 y0_2 y0_3))) else none) else none) else (impl_AutomatonValid.x0 k x36 x37 (wr64 (x38 + 1)) y0_0 y0_1 y0_2 y0_3)))) else (if (rdT x36 x38).f1.toList = ([98] : List UInt8) then (if (rdT x36 x38).f3 < 0 then (some (impl_AutomatonValid.en false)) else (if (rdT x36 x38).f3 > 3 then (some (impl_AutomatonValid.en false)) else (if x38 > 0 then (if 0 ≤ (wr64 (x38 - 1)) then (if (wr64 (x38 - 1)) < (y0_3.length : Int) then ((impl_stepOrder.f k ((rdT y0_3 (wr64 (x38 - 1))).f0) ((rdT y0_3 (wr64 (x38 - 1))).f1) ((rdT y0_3 (wr64 (x38 - 1))).f2) ((rdT y0_3 (wr64 (x38 - 1))).f3) ((rdT x36 x38).f0) ((rdT x36 x38).f1) ((rdT x36 x38).f2) ((rdT x36 x38).f3)).bind fun t4 => (if t4 ≥ 0 then (some (impl_AutomatonValid.en false)) else (impl_AutomatonValid.x0 k x36 x37 (wr64 (x38 + 1)) y0_0 y0_1 y0_2 y0_3))) else none) else none) else (impl_AutomatonValid.x0 k x36 x37 (wr64 (x38 + 1)) y0_0 y0_1 y0_2 y0_3)))) else (some (impl_AutomatonValid.en false)))))))) else none) else none) else (some (impl_AutomatonValid.en true))) := by kernel_rfl
set_option maxRecDepth 100000 in
theorem impl_AutomatonValid.ef (k : Nat) (a0_0 : Int) (l0_1 : List Int) (l0_2 : List Int) (l0_3 : List Stp) : R.start Try.prog xhn impl_AutomatonValid.O 0 Try.f42 impl_AutomatonValid.fh k [.agg [.int .i64 a0_0, .imm (.I .i64 l0_1), .imm (.I .i64 l0_2), .imm (.T l0_3)]] [] = (if a0_0 < 1 then (some (impl_AutomatonValid.en false)) else (if a0_0 > 4 then (some (impl_AutomatonValid.en false)) else (if (l0_3.length : Int) > 24 then (some (impl_AutomatonValid.en false)) else ((impl_statesOk.f k l0_1 a0_0).bind fun t1 => (if t1 = true then ((impl_statesOk.f k l0_2 a0_0).bind fun t2 => (if t2 = true then (impl_AutomatonValid.x0 k l0_3 (l0_3.length : Int) 0 a0_0 l0_1 l0_2 l0_3) else (some (impl_AutomatonValid.en false)))) else (some (impl_AutomatonValid.en false))))))) := by kernel_rfl
theorem impl_AutomatonValid.link : ∀ k, (∀ (x36 : List Stp) (x37 : Int) (x38 : Int) (y0_0 : Int) (y0_1 : List Int) (y0_2 : List Int) (y0_3 : List Stp), impl_AutomatonValid.x0 k x36 x37 x38 y0_0 y0_1 y0_2 y0_3 = (impl_AutomatonValid.l0 k x36 x37 x38 y0_0 y0_1 y0_2 y0_3).map (impl_AutomatonValid.en))
  | 0 => fun _ _ _ _ _ _ _ => by simp only [impl_AutomatonValid.l0, R.map_none]; rfl
  | k + 1 => by
    have ih0 := impl_AutomatonValid.link k
    · intro x36 x37 x38 y0_0 y0_1 y0_2 y0_3
      rw [impl_AutomatonValid.e0]
      simp only [impl_AutomatonValid.l0, R.map_ite, R.map_bind, R.map_none, R.map_some, R.wr64_eq, ← ih0]
theorem impl_AutomatonValid.sf (k : Nat) (a0_0 : Int) (l0_1 : List Int) (l0_2 : List Int) (l0_3 : List Stp) : R.start Try.prog xhn impl_AutomatonValid.O 0 Try.f42 impl_AutomatonValid.fh k [.agg [.int .i64 a0_0, .imm (.I .i64 l0_1), .imm (.I .i64 l0_2), .imm (.T l0_3)]] [] = (impl_AutomatonValid.f k a0_0 l0_1 l0_2 l0_3).map (impl_AutomatonValid.en) := by
  have ih0 := impl_AutomatonValid.link k
  rw [impl_AutomatonValid.ef]
  simp only [impl_AutomatonValid.f, R.map_ite, R.map_bind, R.map_none, R.map_some, R.wr64_eq, ← ih0]
theorem impl_AutomatonValid.ok (k : Nat) : impl_AutomatonValid.tw.Ok Try.prog k := by
  intro md hmd a r h
  refine fn_ok (H := xhn) (fh := impl_AutomatonValid.fh) (O := impl_AutomatonValid.O) (k := k) Try.func42 (by kernel_rfl) (by kernel_rfl) (fun j _ => (Tw.orc_sound impl_statesOk.dok (impl_statesOk.ok j) (fun _ => rfl) (Tw.orc_sound impl_stepOrder.dok (impl_stepOrder.ok j) (fun _ => rfl) noO_sound))) (by kernel_rfl) (m := 0) rfl ?_
  refine (impl_AutomatonValid.sf k a.1 a.2.1 a.2.2.1 a.2.2.2).trans ?_
  exact congrArg (Option.map _) h
def impl_behind_1.f (a0_0 : Int) (a0_1 : ByteArray) (a0_2 : Int) (a0_3 : Int) (a2_0 : Int) : Option (Int × ByteArray × Int × Int) := (some ((wrap64 (a0_0 + a2_0)), a0_1, (wrap64 (a0_2 + a2_0)), a0_3))
def impl_behind_1.en (a2_0 : Int) (r : Int × ByteArray × Int × Int) : Res := (.agg [.int .i64 r.1, .str r.2.1, .int .i64 r.2.2.1, .int .i64 r.2.2.2], [.box true [.int .i64 a2_0]])
def impl_behind_1.dec : List AV → List R.Obj → Option (Int × ByteArray × Int × Int × Int)
  | [.agg [.int .i64 a0_0, .str a0_1, .int .i64 a0_2, .int .i64 a0_3], .ptr 0 0], [.box true [.int .i64 a2_0]] => some (a0_0, a0_1, a0_2, a0_3, a2_0)
  | _, _ => none
def impl_behind_1.tw : Tw := ⟨122, Int × ByteArray × Int × Int × Int, Int × ByteArray × Int × Int, impl_behind_1.dec, fun a => [.agg [.int .i64 a.1, .str a.2.1, .int .i64 a.2.2.1, .int .i64 a.2.2.2.1], .ptr 0 0], fun a => [.box true [.int .i64 a.2.2.2.2]], fun k a => impl_behind_1.f a.1 a.2.1 a.2.2.1 a.2.2.2.1 a.2.2.2.2, fun a r => impl_behind_1.en a.2.2.2.2 r, true⟩
theorem impl_behind_1.dok : impl_behind_1.tw.DecOk := by
  intro args hc a h
  have h : impl_behind_1.dec args hc = some a := h
  unfold impl_behind_1.dec at h
  split at h
  · cases h; exact ⟨rfl, rfl⟩
  · cases h
noncomputable def impl_behind_1.O (k : Nat) : Oracle := noO
def impl_behind_1.fh : FH := ⟨fun i => match i with | _ => none, [], false⟩
set_option maxRecDepth 100000 in
theorem impl_behind_1.ef (k : Nat) (a0_0 : Int) (a0_1 : ByteArray) (a0_2 : Int) (a0_3 : Int) (a2_0 : Int) : R.start Try.prog xhn impl_behind_1.O 1 Try.f122 impl_behind_1.fh k [.agg [.int .i64 a0_0, .str a0_1, .int .i64 a0_2, .int .i64 a0_3], .ptr 0 0] [.box true [.int .i64 a2_0]] = (some (impl_behind_1.en a2_0 ((wr64 (a0_0 + a2_0)), a0_1, (wr64 (a0_2 + a2_0)), a0_3))) := by kernel_rfl
theorem impl_behind_1.sf (k : Nat) (a0_0 : Int) (a0_1 : ByteArray) (a0_2 : Int) (a0_3 : Int) (a2_0 : Int) : R.start Try.prog xhn impl_behind_1.O 1 Try.f122 impl_behind_1.fh k [.agg [.int .i64 a0_0, .str a0_1, .int .i64 a0_2, .int .i64 a0_3], .ptr 0 0] [.box true [.int .i64 a2_0]] = (impl_behind_1.f a0_0 a0_1 a0_2 a0_3 a2_0).map (impl_behind_1.en a2_0) := by
  rw [impl_behind_1.ef]
  simp only [impl_behind_1.f, R.map_ite, R.map_bind, R.map_none, R.map_some, R.wr64_eq]
theorem impl_behind_1.ok (k : Nat) : impl_behind_1.tw.Ok Try.prog k := by
  intro md hmd a r h
  refine fn_ok (H := xhn) (fh := impl_behind_1.fh) (O := impl_behind_1.O) (k := k) Try.func122 (by kernel_rfl) (by kernel_rfl) (fun j _ => noO_sound) (by kernel_rfl) (m := 1) rfl ?_
  refine (impl_behind_1.sf k a.1 a.2.1 a.2.2.1 a.2.2.2.1 a.2.2.2.2).trans ?_
  exact congrArg (Option.map _) h
def impl_stepped.l0 : Nat → (List Stp) → (List Stp) → Int → Int → Int → Option (List Stp)
  | 0, _, _, _, _, _ => none
  | k + 1, y1, x9, x10, x11, y0_0 => (if x11 < x10 then (if 0 ≤ x11 then (if x11 < (x9.length : Int) then ((impl_behind_1.f ((rdT x9 x11).f0) ((rdT x9 x11).f1) ((rdT x9 x11).f2) ((rdT x9 x11).f3) y0_0).bind fun t1 => (if y1.length < 3518437208883 then (impl_stepped.l0 k (y1 ++ [(⟨t1.1, t1.2.1, t1.2.2.1, t1.2.2.2⟩ : Stp)]) x9 x10 (wrap64 (x11 + 1)) y0_0) else none)) else none) else none) else (some y1))
def impl_stepped.f (k : Nat) (l0 : List Stp) (a2_0 : Int) : Option (List Stp) := (impl_stepped.l0 k ([] : List Stp) l0 (l0.length : Int) 0 a2_0)
def impl_stepped.en (a2_0 : Int) (r : List Stp) : Res := (.sl 1 0, [.box true [.int .i64 a2_0], .arr 67 0 (.T r) false])
def impl_stepped.dec : List AV → List R.Obj → Option ((List Stp) × Int)
  | [.imm (.T l0), .clo 122 [.ptr 0 0]], [.box true [.int .i64 a2_0]] => some (l0, a2_0)
  | _, _ => none
def impl_stepped.tw : Tw := ⟨64, (List Stp) × Int, List Stp, impl_stepped.dec, fun a => [.imm (.T a.1), .clo 122 [.ptr 0 0]], fun a => [.box true [.int .i64 a.2]], fun k a => impl_stepped.f k a.1 a.2, fun a r => impl_stepped.en a.2 r, true⟩
theorem impl_stepped.dok : impl_stepped.tw.DecOk := by
  intro args hc a h
  have h : impl_stepped.dec args hc = some a := h
  unfold impl_stepped.dec at h
  split at h
  · cases h; exact ⟨rfl, rfl⟩
  · cases h
noncomputable def impl_stepped.O (k : Nat) : Oracle := (impl_behind_1.tw.orc k noO)
def impl_stepped.fh : FH := ⟨fun i => match i with | 3 => some [(1, 0), (5, 0), (9, 0), (10, 0), (11, 0)] | _ => none, [(true, 67)], false⟩
noncomputable def impl_stepped.x0 (k : Nat) (y1 : List Stp) (x9 : List Stp) (x10 : Int) (x11 : Int) (y0_0 : Int) : Option Res := R.exec Try.prog xhn impl_stepped.O 1 Try.f64 impl_stepped.fh k (R.point Try.f64 3) ⟨[(1, .clo 122 [.ptr 0 0]), (5, .sl 1 0), (9, .imm (.T x9)), (10, .int .i64 x10), (11, .int .i64 x11)], [(0, .box true [.int .i64 y0_0]), (1, .arr 67 0 (.T y1) false)], 4⟩
set_option maxRecDepth 100000 in
theorem impl_stepped.e0 (k : Nat) (y1 : List Stp) (x9 : List Stp) (x10 : Int) (x11 : Int) (y0_0 : Int) : impl_stepped.x0 (k + 1) y1 x9 x10 x11 y0_0 = (if x11 < x10 then (if 0 ≤ x11 then (if x11 < (x9.length : Int) then ((impl_behind_1.f ((rdT x9 x11).f0) ((rdT x9 x11).f1) ((rdT x9 x11).f2) ((rdT x9 x11).f3) y0_0).bind fun t1 => (if y1.length < 3518437208883 then (impl_stepped.x0 k (y1 ++ [(⟨t1.1, t1.2.1, t1.2.2.1, t1.2.2.2⟩ : Stp)]) x9 x10 (wr64 (x11 + 1)) y0_0) else none)) else none) else none) else (some (impl_stepped.en y0_0 y1))) := by kernel_rfl
set_option maxRecDepth 100000 in
theorem impl_stepped.ef (k : Nat) (l0 : List Stp) (a2_0 : Int) : R.start Try.prog xhn impl_stepped.O 1 Try.f64 impl_stepped.fh k [.imm (.T l0), .clo 122 [.ptr 0 0]] [.box true [.int .i64 a2_0]] = (impl_stepped.x0 k ([] : List Stp) l0 (l0.length : Int) 0 a2_0) := by kernel_rfl
theorem impl_stepped.link : ∀ k, (∀ (y1 : List Stp) (x9 : List Stp) (x10 : Int) (x11 : Int) (y0_0 : Int), impl_stepped.x0 k y1 x9 x10 x11 y0_0 = (impl_stepped.l0 k y1 x9 x10 x11 y0_0).map (impl_stepped.en y0_0))
  | 0 => fun _ _ _ _ _ => by simp only [impl_stepped.l0, R.map_none]; rfl
  | k + 1 => by
    have ih0 := impl_stepped.link k
    · intro y1 x9 x10 x11 y0_0
      rw [impl_stepped.e0]
      simp only [impl_stepped.l0, R.map_ite, R.map_bind, R.map_none, R.map_some, R.wr64_eq, ← ih0]
theorem impl_stepped.sf (k : Nat) (l0 : List Stp) (a2_0 : Int) : R.start Try.prog xhn impl_stepped.O 1 Try.f64 impl_stepped.fh k [.imm (.T l0), .clo 122 [.ptr 0 0]] [.box true [.int .i64 a2_0]] = (impl_stepped.f k l0 a2_0).map (impl_stepped.en a2_0) := by
  have ih0 := impl_stepped.link k
  rw [impl_stepped.ef]
  simp only [impl_stepped.f, R.map_ite, R.map_bind, R.map_none, R.map_some, R.wr64_eq, ← ih0]
theorem impl_stepped.ok (k : Nat) : impl_stepped.tw.Ok Try.prog k := by
  intro md hmd a r h
  refine fn_ok (H := xhn) (fh := impl_stepped.fh) (O := impl_stepped.O) (k := k) Try.func64 (by kernel_rfl) (by kernel_rfl) (fun j _ => (Tw.orc_sound impl_behind_1.dok (impl_behind_1.ok j) (fun _ => rfl) noO_sound)) (by kernel_rfl) (m := 1) rfl ?_
  refine (impl_stepped.sf k a.1 a.2).trans ?_
  exact congrArg (Option.map _) h
def impl_behind.f (k : Nat) (a0_0 : Int) (l0_1 : List Int) (l0_2 : List Int) (l0_3 : List Stp) (a1 : Int) : Option (List Stp) := ((impl_stepped.f k l0_3 a1).bind fun t1 => (some t1))
def impl_behind.en (r : List Stp) : Res := (.sl 0 0, [.arr 67 0 (.T r) false])
def impl_behind.dec : List AV → List R.Obj → Option (Int × (List Int) × (List Int) × (List Stp) × Int)
  | [.agg [.int .i64 a0_0, .imm (.I .i64 l0_1), .imm (.I .i64 l0_2), .imm (.T l0_3)], .int .i64 a1], [] => some (a0_0, l0_1, l0_2, l0_3, a1)
  | _, _ => none
def impl_behind.tw : Tw := ⟨81, Int × (List Int) × (List Int) × (List Stp) × Int, List Stp, impl_behind.dec, fun a => [.agg [.int .i64 a.1, .imm (.I .i64 a.2.1), .imm (.I .i64 a.2.2.1), .imm (.T a.2.2.2.1)], .int .i64 a.2.2.2.2], fun a => [], fun k a => impl_behind.f k a.1 a.2.1 a.2.2.1 a.2.2.2.1 a.2.2.2.2, fun a r => impl_behind.en r, true⟩
theorem impl_behind.dok : impl_behind.tw.DecOk := by
  intro args hc a h
  have h : impl_behind.dec args hc = some a := h
  unfold impl_behind.dec at h
  split at h
  · cases h; exact ⟨rfl, rfl⟩
  · cases h
noncomputable def impl_behind.O (k : Nat) : Oracle := (impl_stepped.tw.orc k noO)
def impl_behind.fh : FH := ⟨fun i => match i with | _ => none, [(true, 67)], false⟩
set_option maxRecDepth 100000 in
theorem impl_behind.ef (k : Nat) (a0_0 : Int) (l0_1 : List Int) (l0_2 : List Int) (l0_3 : List Stp) (a1 : Int) : R.start Try.prog xhn impl_behind.O 0 Try.f81 impl_behind.fh k [.agg [.int .i64 a0_0, .imm (.I .i64 l0_1), .imm (.I .i64 l0_2), .imm (.T l0_3)], .int .i64 a1] [] = ((impl_stepped.f k l0_3 a1).bind fun t1 => (some (impl_behind.en t1))) := by kernel_rfl
theorem impl_behind.sf (k : Nat) (a0_0 : Int) (l0_1 : List Int) (l0_2 : List Int) (l0_3 : List Stp) (a1 : Int) : R.start Try.prog xhn impl_behind.O 0 Try.f81 impl_behind.fh k [.agg [.int .i64 a0_0, .imm (.I .i64 l0_1), .imm (.I .i64 l0_2), .imm (.T l0_3)], .int .i64 a1] [] = (impl_behind.f k a0_0 l0_1 l0_2 l0_3 a1).map (impl_behind.en) := by
  rw [impl_behind.ef]
  simp only [impl_behind.f, R.map_ite, R.map_bind, R.map_none, R.map_some, R.wr64_eq]
theorem impl_behind.ok (k : Nat) : impl_behind.tw.Ok Try.prog k := by
  intro md hmd a r h
  refine fn_ok (H := xhn) (fh := impl_behind.fh) (O := impl_behind.O) (k := k) Try.func81 (by kernel_rfl) (by kernel_rfl) (fun j _ => (Tw.orc_sound impl_stepped.dok (impl_stepped.ok j) (fun _ => rfl) noO_sound)) (by kernel_rfl) (m := 0) rfl ?_
  refine (impl_behind.sf k a.1 a.2.1 a.2.2.1 a.2.2.2.1 a.2.2.2.2).trans ?_
  exact congrArg (Option.map _) h
def slices_Grow_impl_Step_impl_Step.f (a1 : Int) : Option (List Stp) := if 0 ≤ a1 ∧ a1 ≤ 1000000000 then some [] else none
def slices_Grow_impl_Step_impl_Step.dec : List AV → List R.Obj → Option Int
  | [.nilsl, .int .i64 a1], [] => some a1
  | _, _ => none
def slices_Grow_impl_Step_impl_Step.tw : Tw := ⟨121, Int, List Stp, slices_Grow_impl_Step_impl_Step.dec, fun a => [.nilsl, .int .i64 a], fun a => [], fun k a => slices_Grow_impl_Step_impl_Step.f a, fun a r => (.sl 0 0, [.arr 67 0 (.T r) false]), false⟩
theorem slices_Grow_impl_Step_impl_Step.dok : slices_Grow_impl_Step_impl_Step.tw.DecOk := by
  intro args hc a h
  have h : slices_Grow_impl_Step_impl_Step.dec args hc = some a := h
  unfold slices_Grow_impl_Step_impl_Step.dec at h
  split at h
  · cases h; exact ⟨rfl, rfl⟩
  · cases h
theorem slices_Grow_impl_Step_impl_Step.ok (k : Nat) : slices_Grow_impl_Step_impl_Step.tw.Ok Try.prog k := by
  intro md hmd a1 r h
  have h : slices_Grow_impl_Step_impl_Step.f a1 = some r := h
  unfold slices_Grow_impl_Step_impl_Step.f at h
  split at h
  case isFalse => cases h
  rename_i hl
  obtain rfl := Option.some.inj h
  obtain ⟨i0, hi⟩ : ∃ i0, Try.prog.info? 67 = some i0 := Option.isSome_iff_exists.1 (by kernel_rfl)
  have h4 : (Try.prog.info? 67).bind (fun i => i.zero.map fun z => (i.size, i.bytes, z.cells.size)) = some (4, 40, 4) := by kernel_rfl
  rw [hi] at h4
  obtain ⟨z, hz0, hzz⟩ := Option.map_eq_some_iff.1 (show i0.zero.map (fun z => (i0.size, i0.bytes, z.cells.size)) = some (4, 40, 4) from h4)
  simp only [Prod.mk.injEq] at hzz
  obtain ⟨hz1, hz2, hzs⟩ := hzz
  refine ⟨callable_of Try.func121 (by kernel_rfl) (by kernel_rfl), fun w M I vs E => ?_⟩
  refine grow_leaves (c := .T []) (zs := fun _ => []) E hl.1 rfl (Go.Proofs.Any8.slices_Grow_room Try.layGrowT none 0 0 0 w (by omega) (by omega) (by omega) (by omega)) (fun m hm h0 => ?_) (fun q => Bool.noConfusion (show false = true from hmd q))
  refine (Go.Proofs.Any8.slices_Grow_grow Try.layGrowT i0 z hi hz0 (by omega) none 0 0 m [] w (by omega) (by omega) (by rw [hz2]; omega) (by omega) (by simp) (fun _ => rfl) (fun a q => by cases q)).mono fun e' w' => ?_
  rintro ⟨rfl, rfl⟩
  have hG : 0 + m ≤ grownCap w (0 + m) 0 67 := grownCap_ge w _ _ _
  refine ⟨grownCap w (0 + m) 0 67, grownCap_le_maxLen w (0 + m) 0 67 (by unfold maxLen; omega), rfl, _, ?_, rfl⟩
  show _ = grownCap w (0 + m) 0 67 * 4
  simp only [Array.size_append, size_zeroCells, hzs, List.size_toArray, List.length_nil]
  have hG' : 0 + m ≤ grownCap w (0 + m) 0 (Try.layGrowT_ren.t 25) := hG
  show 0 + (0 + m - 0) * 4 + (grownCap w (0 + m) 0 67 - (0 + m)) * 4 = _
  omega
mutual
def slices_Concat_impl_Step_impl_Step.l0 : Nat → (List (List Stp)) → Int → (List (List Stp)) → Int → Int → Option (List Stp)
  | 0, _, _, _, _, _ => none
  | k + 1, x0, x3, x9, x10, x11 => (if x11 < x10 then (if 0 ≤ x11 then (if x11 < (x9.length : Int) then (if (wrap64 (x3 + ((rdM x9 x11).length : Int))) < 0 then none else (slices_Concat_impl_Step_impl_Step.l0 k x0 (wrap64 (x3 + ((rdM x9 x11).length : Int))) x9 x10 (wrap64 (x11 + 1)))) else none) else none) else ((slices_Grow_impl_Step_impl_Step.f x3).bind fun t1 => (slices_Concat_impl_Step_impl_Step.l1 k t1 x0 (x0.length : Int) 0)))
def slices_Concat_impl_Step_impl_Step.l1 : Nat → (List Stp) → (List (List Stp)) → Int → Int → Option (List Stp)
  | 0, _, _, _, _ => none
  | k + 1, y0, x25, x26, x27 => (if x27 < x26 then (if 0 ≤ x27 then (if x27 < (x25.length : Int) then (if y0.length + (rdM x25 x27).length ≤ 3518437208883 then (slices_Concat_impl_Step_impl_Step.l1 k (y0 ++ (rdM x25 x27)) x25 x26 (wrap64 (x27 + 1))) else none) else none) else none) else (some y0))
end
def slices_Concat_impl_Step_impl_Step.f (k : Nat) (l0 : List (List Stp)) : Option (List Stp) := (slices_Concat_impl_Step_impl_Step.l0 k l0 0 l0 (l0.length : Int) 0)
def slices_Concat_impl_Step_impl_Step.en (r : List Stp) : Res := (.sl 0 0, [.arr 67 0 (.T r) false])
def slices_Concat_impl_Step_impl_Step.dec : List AV → List R.Obj → Option (List (List Stp))
  | [.imm (.M l0)], [] => some l0
  | _, _ => none
def slices_Concat_impl_Step_impl_Step.tw : Tw := ⟨80, List (List Stp), List Stp, slices_Concat_impl_Step_impl_Step.dec, fun a => [.imm (.M a)], fun a => [], fun k a => slices_Concat_impl_Step_impl_Step.f k a, fun a r => slices_Concat_impl_Step_impl_Step.en r, false⟩
theorem slices_Concat_impl_Step_impl_Step.dok : slices_Concat_impl_Step_impl_Step.tw.DecOk := by
  intro args hc a h
  have h : slices_Concat_impl_Step_impl_Step.dec args hc = some a := h
  unfold slices_Concat_impl_Step_impl_Step.dec at h
  split at h
  · cases h; exact ⟨rfl, rfl⟩
  · cases h
noncomputable def slices_Concat_impl_Step_impl_Step.O (k : Nat) : Oracle := (slices_Grow_impl_Step_impl_Step.tw.orc k noO)
def slices_Concat_impl_Step_impl_Step.fh : FH := ⟨fun i => match i with | 3 => some [(0, 0), (3, 0), (9, 0), (10, 0), (11, 0)] | 11 => some [(6, 0), (25, 0), (26, 0), (27, 0)] | _ => none, [(true, 67)], false⟩
noncomputable def slices_Concat_impl_Step_impl_Step.x0 (k : Nat) (x0 : List (List Stp)) (x3 : Int) (x9 : List (List Stp)) (x10 : Int) (x11 : Int) : Option Res := R.exec Try.prog xhn slices_Concat_impl_Step_impl_Step.O 0 Try.f80 slices_Concat_impl_Step_impl_Step.fh k (R.point Try.f80 3) ⟨[(0, .imm (.M x0)), (3, .int .i64 x3), (9, .imm (.M x9)), (10, .int .i64 x10), (11, .int .i64 x11)], [], 2⟩
noncomputable def slices_Concat_impl_Step_impl_Step.x1 (k : Nat) (y0 : List Stp) (x25 : List (List Stp)) (x26 : Int) (x27 : Int) : Option Res := R.exec Try.prog xhn slices_Concat_impl_Step_impl_Step.O 0 Try.f80 slices_Concat_impl_Step_impl_Step.fh k (R.point Try.f80 11) ⟨[(6, .sl 0 0), (25, .imm (.M x25)), (26, .int .i64 x26), (27, .int .i64 x27)], [(0, .arr 67 0 (.T y0) false)], 3⟩
set_option maxRecDepth 100000 in
theorem slices_Concat_impl_Step_impl_Step.e0 (k : Nat) (x0 : List (List Stp)) (x3 : Int) (x9 : List (List Stp)) (x10 : Int) (x11 : Int) : slices_Concat_impl_Step_impl_Step.x0 (k + 1) x0 x3 x9 x10 x11 = (if x11 < x10 then (if 0 ≤ x11 then (if x11 < (x9.length : Int) then (if (wr64 (x3 + ((rdM x9 x11).length : Int))) < 0 then none else (slices_Concat_impl_Step_impl_Step.x0 k x0 (wr64 (x3 + ((rdM x9 x11).length : Int))) x9 x10 (wr64 (x11 + 1)))) else none) else none) else ((slices_Grow_impl_Step_impl_Step.f x3).bind fun t1 => (slices_Concat_impl_Step_impl_Step.x1 k t1 x0 (x0.length : Int) 0))) := by kernel_rfl
set_option maxRecDepth 100000 in
theorem slices_Concat_impl_Step_impl_Step.e1 (k : Nat) (y0 : List Stp) (x25 : List (List Stp)) (x26 : Int) (x27 : Int) : slices_Concat_impl_Step_impl_Step.x1 (k + 1) y0 x25 x26 x27 = (if x27 < x26 then (if 0 ≤ x27 then (if x27 < (x25.length : Int) then (if y0.length + (rdM x25 x27).length ≤ 3518437208883 then (slices_Concat_impl_Step_impl_Step.x1 k (y0 ++ (rdM x25 x27)) x25 x26 (wr64 (x27 + 1))) else none) else none) else none) else (some (slices_Concat_impl_Step_impl_Step.en y0))) := by kernel_rfl
set_option maxRecDepth 100000 in
theorem slices_Concat_impl_Step_impl_Step.ef (k : Nat) (l0 : List (List Stp)) : R.start Try.prog xhn slices_Concat_impl_Step_impl_Step.O 0 Try.f80 slices_Concat_impl_Step_impl_Step.fh k [.imm (.M l0)] [] = (slices_Concat_impl_Step_impl_Step.x0 k l0 0 l0 (l0.length : Int) 0) := by kernel_rfl
theorem slices_Concat_impl_Step_impl_Step.link : ∀ k, (∀ (x0 : List (List Stp)) (x3 : Int) (x9 : List (List Stp)) (x10 : Int) (x11 : Int), slices_Concat_impl_Step_impl_Step.x0 k x0 x3 x9 x10 x11 = (slices_Concat_impl_Step_impl_Step.l0 k x0 x3 x9 x10 x11).map (slices_Concat_impl_Step_impl_Step.en)) ∧ (∀ (y0 : List Stp) (x25 : List (List Stp)) (x26 : Int) (x27 : Int), slices_Concat_impl_Step_impl_Step.x1 k y0 x25 x26 x27 = (slices_Concat_impl_Step_impl_Step.l1 k y0 x25 x26 x27).map (slices_Concat_impl_Step_impl_Step.en))
  | 0 => ⟨fun _ _ _ _ _ => by simp only [slices_Concat_impl_Step_impl_Step.l0, R.map_none]; rfl, fun _ _ _ _ => by simp only [slices_Concat_impl_Step_impl_Step.l1, R.map_none]; rfl⟩
  | k + 1 => by
    obtain ⟨ih0, ih1⟩ := slices_Concat_impl_Step_impl_Step.link k
    refine ⟨?_, ?_⟩
    · intro x0 x3 x9 x10 x11
      rw [slices_Concat_impl_Step_impl_Step.e0]
      simp only [slices_Concat_impl_Step_impl_Step.l0, R.map_ite, R.map_bind, R.map_none, R.map_some, R.wr64_eq, ← ih0, ← ih1]
    · intro y0 x25 x26 x27
      rw [slices_Concat_impl_Step_impl_Step.e1]
      simp only [slices_Concat_impl_Step_impl_Step.l1, R.map_ite, R.map_bind, R.map_none, R.map_some, R.wr64_eq, ← ih0, ← ih1]
theorem slices_Concat_impl_Step_impl_Step.sf (k : Nat) (l0 : List (List Stp)) : R.start Try.prog xhn slices_Concat_impl_Step_impl_Step.O 0 Try.f80 slices_Concat_impl_Step_impl_Step.fh k [.imm (.M l0)] [] = (slices_Concat_impl_Step_impl_Step.f k l0).map (slices_Concat_impl_Step_impl_Step.en) := by
  obtain ⟨ih0, ih1⟩ := slices_Concat_impl_Step_impl_Step.link k
  rw [slices_Concat_impl_Step_impl_Step.ef]
  simp only [slices_Concat_impl_Step_impl_Step.f, R.map_ite, R.map_bind, R.map_none, R.map_some, R.wr64_eq, ← ih0, ← ih1]
theorem slices_Concat_impl_Step_impl_Step.ok (k : Nat) : slices_Concat_impl_Step_impl_Step.tw.Ok Try.prog k := by
  intro md hmd a r h
  refine fn_ok (H := xhn) (fh := slices_Concat_impl_Step_impl_Step.fh) (O := slices_Concat_impl_Step_impl_Step.O) (k := k) Try.func80 (by kernel_rfl) (by kernel_rfl) (fun j _ => (Tw.orc_sound slices_Grow_impl_Step_impl_Step.dok (slices_Grow_impl_Step_impl_Step.ok j) (fun q => Bool.noConfusion (show false = true from hmd q)) noO_sound)) (by kernel_rfl) (m := 0) rfl ?_
  refine (slices_Concat_impl_Step_impl_Step.sf k a).trans ?_
  exact congrArg (Option.map _) h
def slices_Index_int_int.l0 : Nat → (List Int) → Int → Int → Int → Option (Int)
  | 0, _, _, _, _ => none
  | k + 1, x0, x1, x7, x8 => (if x8 < x7 then (if 0 ≤ x8 then (if x8 < (x0.length : Int) then (if x1 = (rdI x0 x8) then (some x8) else (slices_Index_int_int.l0 k x0 x1 x7 (wrap64 (x8 + 1)))) else none) else none) else (some (-1)))
def slices_Index_int_int.f (k : Nat) (l0 : List Int) (a1 : Int) : Option (Int) := (slices_Index_int_int.l0 k l0 a1 (l0.length : Int) 0)
def slices_Index_int_int.en (r : Int) : Res := (.int .i64 r, [])
def slices_Index_int_int.dec : List AV → List R.Obj → Option ((List Int) × Int)
  | [.imm (.I .i64 l0), .int .i64 a1], [] => some (l0, a1)
  | _, _ => none
def slices_Index_int_int.tw : Tw := ⟨85, (List Int) × Int, Int, slices_Index_int_int.dec, fun a => [.imm (.I .i64 a.1), .int .i64 a.2], fun a => [], fun k a => slices_Index_int_int.f k a.1 a.2, fun a r => slices_Index_int_int.en r, true⟩
theorem slices_Index_int_int.dok : slices_Index_int_int.tw.DecOk := by
  intro args hc a h
  have h : slices_Index_int_int.dec args hc = some a := h
  unfold slices_Index_int_int.dec at h
  split at h
  · cases h; exact ⟨rfl, rfl⟩
  · cases h
noncomputable def slices_Index_int_int.O (k : Nat) : Oracle := noO
def slices_Index_int_int.fh : FH := ⟨fun i => match i with | 2 => some [(0, 0), (1, 0), (7, 0), (8, 0)] | _ => none, [], false⟩
noncomputable def slices_Index_int_int.x0 (k : Nat) (x0 : List Int) (x1 : Int) (x7 : Int) (x8 : Int) : Option Res := R.exec Try.prog xhn slices_Index_int_int.O 0 Try.f85 slices_Index_int_int.fh k (R.point Try.f85 2) ⟨[(0, .imm (.I .i64 x0)), (1, .int .i64 x1), (7, .int .i64 x7), (8, .int .i64 x8)], [], 2⟩
set_option maxRecDepth 100000 in
theorem slices_Index_int_int.e0 (k : Nat) (x0 : List Int) (x1 : Int) (x7 : Int) (x8 : Int) : slices_Index_int_int.x0 (k + 1) x0 x1 x7 x8 = (if x8 < x7 then (if 0 ≤ x8 then (if x8 < (x0.length : Int) then (if x1 = (rdI x0 x8) then (some (slices_Index_int_int.en x8)) else (slices_Index_int_int.x0 k x0 x1 x7 (wr64 (x8 + 1)))) else none) else none) else (some (slices_Index_int_int.en (-1)))) := by kernel_rfl
set_option maxRecDepth 100000 in
theorem slices_Index_int_int.ef (k : Nat) (l0 : List Int) (a1 : Int) : R.start Try.prog xhn slices_Index_int_int.O 0 Try.f85 slices_Index_int_int.fh k [.imm (.I .i64 l0), .int .i64 a1] [] = (slices_Index_int_int.x0 k l0 a1 (l0.length : Int) 0) := by kernel_rfl
theorem slices_Index_int_int.link : ∀ k, (∀ (x0 : List Int) (x1 : Int) (x7 : Int) (x8 : Int), slices_Index_int_int.x0 k x0 x1 x7 x8 = (slices_Index_int_int.l0 k x0 x1 x7 x8).map (slices_Index_int_int.en))
  | 0 => fun _ _ _ _ => by simp only [slices_Index_int_int.l0, R.map_none]; rfl
  | k + 1 => by
    have ih0 := slices_Index_int_int.link k
    · intro x0 x1 x7 x8
      rw [slices_Index_int_int.e0]
      simp only [slices_Index_int_int.l0, R.map_ite, R.map_bind, R.map_none, R.map_some, R.wr64_eq, ← ih0]
theorem slices_Index_int_int.sf (k : Nat) (l0 : List Int) (a1 : Int) : R.start Try.prog xhn slices_Index_int_int.O 0 Try.f85 slices_Index_int_int.fh k [.imm (.I .i64 l0), .int .i64 a1] [] = (slices_Index_int_int.f k l0 a1).map (slices_Index_int_int.en) := by
  have ih0 := slices_Index_int_int.link k
  rw [slices_Index_int_int.ef]
  simp only [slices_Index_int_int.f, R.map_ite, R.map_bind, R.map_none, R.map_some, R.wr64_eq, ← ih0]
theorem slices_Index_int_int.ok (k : Nat) : slices_Index_int_int.tw.Ok Try.prog k := by
  intro md hmd a r h
  refine fn_ok (H := xhn) (fh := slices_Index_int_int.fh) (O := slices_Index_int_int.O) (k := k) Try.func85 (by kernel_rfl) (by kernel_rfl) (fun j _ => noO_sound) (by kernel_rfl) (m := 0) rfl ?_
  refine (slices_Index_int_int.sf k a.1 a.2).trans ?_
  exact congrArg (Option.map _) h
def slices_Contains_int_int.f (k : Nat) (l0 : List Int) (a1 : Int) : Option (Bool) := ((slices_Index_int_int.f k l0 a1).bind fun t1 => (some (decide (t1 ≥ 0))))
def slices_Contains_int_int.en (r : Bool) : Res := (.lit r, [])
def slices_Contains_int_int.dec : List AV → List R.Obj → Option ((List Int) × Int)
  | [.imm (.I .i64 l0), .int .i64 a1], [] => some (l0, a1)
  | _, _ => none
def slices_Contains_int_int.tw : Tw := ⟨89, (List Int) × Int, Bool, slices_Contains_int_int.dec, fun a => [.imm (.I .i64 a.1), .int .i64 a.2], fun a => [], fun k a => slices_Contains_int_int.f k a.1 a.2, fun a r => slices_Contains_int_int.en r, true⟩
theorem slices_Contains_int_int.dok : slices_Contains_int_int.tw.DecOk := by
  intro args hc a h
  have h : slices_Contains_int_int.dec args hc = some a := h
  unfold slices_Contains_int_int.dec at h
  split at h
  · cases h; exact ⟨rfl, rfl⟩
  · cases h
noncomputable def slices_Contains_int_int.O (k : Nat) : Oracle := (slices_Index_int_int.tw.orc k noO)
def slices_Contains_int_int.fh : FH := ⟨fun i => match i with | _ => none, [], false⟩
set_option maxRecDepth 100000 in
theorem slices_Contains_int_int.ef (k : Nat) (l0 : List Int) (a1 : Int) : R.start Try.prog xhn slices_Contains_int_int.O 0 Try.f89 slices_Contains_int_int.fh k [.imm (.I .i64 l0), .int .i64 a1] [] = ((slices_Index_int_int.f k l0 a1).bind fun t1 => (some (slices_Contains_int_int.en (decide (t1 ≥ 0))))) := by kernel_rfl
theorem slices_Contains_int_int.sf (k : Nat) (l0 : List Int) (a1 : Int) : R.start Try.prog xhn slices_Contains_int_int.O 0 Try.f89 slices_Contains_int_int.fh k [.imm (.I .i64 l0), .int .i64 a1] [] = (slices_Contains_int_int.f k l0 a1).map (slices_Contains_int_int.en) := by
  rw [slices_Contains_int_int.ef]
  simp only [slices_Contains_int_int.f, R.map_ite, R.map_bind, R.map_none, R.map_some, R.wr64_eq]
theorem slices_Contains_int_int.ok (k : Nat) : slices_Contains_int_int.tw.Ok Try.prog k := by
  intro md hmd a r h
  refine fn_ok (H := xhn) (fh := slices_Contains_int_int.fh) (O := slices_Contains_int_int.O) (k := k) Try.func89 (by kernel_rfl) (by kernel_rfl) (fun j _ => (Tw.orc_sound slices_Index_int_int.dok (slices_Index_int_int.ok j) (fun _ => rfl) noO_sound)) (by kernel_rfl) (m := 0) rfl ?_
  refine (slices_Contains_int_int.sf k a.1 a.2).trans ?_
  exact congrArg (Option.map _) h
def slices_Clone_int_int.f (l0 : List Int) : Option (List Int) := if l0.length ≤ 1000000000 then some l0 else none
def slices_Clone_int_int.dec : List AV → List R.Obj → Option (List Int)
  | [.imm (.I .i64 l0)], [] => some l0
  | _, _ => none
def slices_Clone_int_int.tw : Tw := ⟨90, List Int, List Int, slices_Clone_int_int.dec, fun a => [.imm (.I .i64 a)], fun a => [], fun k a => slices_Clone_int_int.f a, fun a r => (.sl 0 0, [.arr 3 0 (.I .i64 r) false]), false⟩
theorem slices_Clone_int_int.dok : slices_Clone_int_int.tw.DecOk := by
  intro args hc a h
  have h : slices_Clone_int_int.dec args hc = some a := h
  unfold slices_Clone_int_int.dec at h
  split at h
  · cases h; exact ⟨rfl, rfl⟩
  · cases h
theorem slices_Clone_int_int.ok (k : Nat) : slices_Clone_int_int.tw.Ok Try.prog k := by
  intro md hmd l0 r h
  have h : slices_Clone_int_int.f l0 = some r := h
  unfold slices_Clone_int_int.f at h
  split at h
  case isFalse => cases h
  rename_i hl
  obtain rfl := Option.some.inj h
  obtain ⟨i0, hi⟩ : ∃ i0, Try.prog.info? 3 = some i0 := Option.isSome_iff_exists.1 (by kernel_rfl)
  have h4 : (Try.prog.info? 3).bind (fun i => i.zero.map fun z => (i.size, i.bytes, z.cells.size)) = some (1, 8, 1) := by kernel_rfl
  rw [hi] at h4
  obtain ⟨z, hz0, hzz⟩ := Option.map_eq_some_iff.1 (show i0.zero.map (fun z => (i0.size, i0.bytes, z.cells.size)) = some (1, 8, 1) from h4)
  simp only [Prod.mk.injEq] at hzz
  obtain ⟨hz1, hz2, hzs⟩ := hzz
  refine ⟨callable_of Try.func90 (by kernel_rfl) (by kernel_rfl), fun w M I vs E => ?_⟩
  have hl' : (Ct.I .i64 l0).len ≤ 1000000000 := hl
  refine clone_leaves (c := .I .i64 l0) rfl E (fun b off cap news n1 n2 n3 => ?_) (fun n cap => Go.Proofs.AnyE.slices_Clone_nil Try.layCloneI n cap w) (fun ad cap => R.clone_zero Try.layCloneI i0 z 1 8 hi hz0 hz1 hz2 hzs (by decide) Try.sizeOf3 ad cap w) (fun q => Bool.noConfusion (show false = true from hmd q))
  exact Go.Proofs.AnyE.slices_Clone Try.layCloneI i0 z 1 8 hi hz0 hz1 hz2 hzs (by decide) Try.sizeOf3 b off _ cap news w n1 (by unfold maxLen; omega) (by omega) n2 n3
def impl_moved.l0 : Nat → Int → (List Int) → (List Int) → Int → Int → Option (List Int)
  | 0, _, _, _, _, _ => none
  | k + 1, x1, y0, x9, x10, x11 => (if x11 < x10 then (if 0 ≤ x11 then (if x11 < (x9.length : Int) then (if y0.length < 17592186044416 then (impl_moved.l0 k x1 (y0 ++ [(wrap64 ((rdI x9 x11) + x1))]) x9 x10 (wrap64 (x11 + 1))) else none) else none) else none) else (some y0))
def impl_moved.f (k : Nat) (l0 : List Int) (a1 : Int) : Option (List Int) := (impl_moved.l0 k a1 ([] : List Int) l0 (l0.length : Int) 0)
def impl_moved.en (r : List Int) : Res := (.sl 0 0, [.arr 3 0 (.I .i64 r) false])
def impl_moved.dec : List AV → List R.Obj → Option ((List Int) × Int)
  | [.imm (.I .i64 l0), .int .i64 a1], [] => some (l0, a1)
  | _, _ => none
def impl_moved.tw : Tw := ⟨79, (List Int) × Int, List Int, impl_moved.dec, fun a => [.imm (.I .i64 a.1), .int .i64 a.2], fun a => [], fun k a => impl_moved.f k a.1 a.2, fun a r => impl_moved.en r, true⟩
theorem impl_moved.dok : impl_moved.tw.DecOk := by
  intro args hc a h
  have h : impl_moved.dec args hc = some a := h
  unfold impl_moved.dec at h
  split at h
  · cases h; exact ⟨rfl, rfl⟩
  · cases h
noncomputable def impl_moved.O (k : Nat) : Oracle := noO
def impl_moved.fh : FH := ⟨fun i => match i with | 3 => some [(1, 0), (5, 0), (9, 0), (10, 0), (11, 0)] | _ => none, [(true, 3)], false⟩
noncomputable def impl_moved.x0 (k : Nat) (x1 : Int) (y0 : List Int) (x9 : List Int) (x10 : Int) (x11 : Int) : Option Res := R.exec Try.prog xhn impl_moved.O 0 Try.f79 impl_moved.fh k (R.point Try.f79 3) ⟨[(1, .int .i64 x1), (5, .sl 0 0), (9, .imm (.I .i64 x9)), (10, .int .i64 x10), (11, .int .i64 x11)], [(0, .arr 3 0 (.I .i64 y0) false)], 3⟩
set_option maxRecDepth 100000 in
theorem impl_moved.e0 (k : Nat) (x1 : Int) (y0 : List Int) (x9 : List Int) (x10 : Int) (x11 : Int) : impl_moved.x0 (k + 1) x1 y0 x9 x10 x11 = (if x11 < x10 then (if 0 ≤ x11 then (if x11 < (x9.length : Int) then (if y0.length < 17592186044416 then (impl_moved.x0 k x1 (y0 ++ [(wr64 ((rdI x9 x11) + x1))]) x9 x10 (wr64 (x11 + 1))) else none) else none) else none) else (some (impl_moved.en y0))) := by kernel_rfl
set_option maxRecDepth 100000 in
theorem impl_moved.ef (k : Nat) (l0 : List Int) (a1 : Int) : R.start Try.prog xhn impl_moved.O 0 Try.f79 impl_moved.fh k [.imm (.I .i64 l0), .int .i64 a1] [] = (impl_moved.x0 k a1 ([] : List Int) l0 (l0.length : Int) 0) := by kernel_rfl
theorem impl_moved.link : ∀ k, (∀ (x1 : Int) (y0 : List Int) (x9 : List Int) (x10 : Int) (x11 : Int), impl_moved.x0 k x1 y0 x9 x10 x11 = (impl_moved.l0 k x1 y0 x9 x10 x11).map (impl_moved.en))
  | 0 => fun _ _ _ _ _ => by simp only [impl_moved.l0, R.map_none]; rfl
  | k + 1 => by
    have ih0 := impl_moved.link k
    · intro x1 y0 x9 x10 x11
      rw [impl_moved.e0]
      simp only [impl_moved.l0, R.map_ite, R.map_bind, R.map_none, R.map_some, R.wr64_eq, ← ih0]
theorem impl_moved.sf (k : Nat) (l0 : List Int) (a1 : Int) : R.start Try.prog xhn impl_moved.O 0 Try.f79 impl_moved.fh k [.imm (.I .i64 l0), .int .i64 a1] [] = (impl_moved.f k l0 a1).map (impl_moved.en) := by
  have ih0 := impl_moved.link k
  rw [impl_moved.ef]
  simp only [impl_moved.f, R.map_ite, R.map_bind, R.map_none, R.map_some, R.wr64_eq, ← ih0]
theorem impl_moved.ok (k : Nat) : impl_moved.tw.Ok Try.prog k := by
  intro md hmd a r h
  refine fn_ok (H := xhn) (fh := impl_moved.fh) (O := impl_moved.O) (k := k) Try.func79 (by kernel_rfl) (by kernel_rfl) (fun j _ => noO_sound) (by kernel_rfl) (m := 0) rfl ?_
  refine (impl_moved.sf k a.1 a.2).trans ?_
  exact congrArg (Option.map _) h
def impl_shared_1.f (k : Nat) (a0 : Int) (l2_0 : List Int) : Option (Bool) := ((slices_Contains_int_int.f k l2_0 a0).bind fun t1 => (some t1))
def impl_shared_1.en (l2_0 : List Int) (r : Bool) : Res := (.lit r, [.box true [.imm (.I .i64 l2_0)]])
def impl_shared_1.dec : List AV → List R.Obj → Option (Int × (List Int))
  | [.int .i64 a0, .ptr 0 0], [.box true [.imm (.I .i64 l2_0)]] => some (a0, l2_0)
  | _, _ => none
def impl_shared_1.tw : Tw := ⟨128, Int × (List Int), Bool, impl_shared_1.dec, fun a => [.int .i64 a.1, .ptr 0 0], fun a => [.box true [.imm (.I .i64 a.2)]], fun k a => impl_shared_1.f k a.1 a.2, fun a r => impl_shared_1.en a.2 r, true⟩
theorem impl_shared_1.dok : impl_shared_1.tw.DecOk := by
  intro args hc a h
  have h : impl_shared_1.dec args hc = some a := h
  unfold impl_shared_1.dec at h
  split at h
  · cases h; exact ⟨rfl, rfl⟩
  · cases h
noncomputable def impl_shared_1.O (k : Nat) : Oracle := (slices_Contains_int_int.tw.orc k noO)
def impl_shared_1.fh : FH := ⟨fun i => match i with | _ => none, [], false⟩
set_option maxRecDepth 100000 in
theorem impl_shared_1.ef (k : Nat) (a0 : Int) (l2_0 : List Int) : R.start Try.prog xhn impl_shared_1.O 1 Try.f128 impl_shared_1.fh k [.int .i64 a0, .ptr 0 0] [.box true [.imm (.I .i64 l2_0)]] = ((slices_Contains_int_int.f k l2_0 a0).bind fun t1 => (some (impl_shared_1.en l2_0 t1))) := by kernel_rfl
theorem impl_shared_1.sf (k : Nat) (a0 : Int) (l2_0 : List Int) : R.start Try.prog xhn impl_shared_1.O 1 Try.f128 impl_shared_1.fh k [.int .i64 a0, .ptr 0 0] [.box true [.imm (.I .i64 l2_0)]] = (impl_shared_1.f k a0 l2_0).map (impl_shared_1.en l2_0) := by
  rw [impl_shared_1.ef]
  simp only [impl_shared_1.f, R.map_ite, R.map_bind, R.map_none, R.map_some, R.wr64_eq]
theorem impl_shared_1.ok (k : Nat) : impl_shared_1.tw.Ok Try.prog k := by
  intro md hmd a r h
  refine fn_ok (H := xhn) (fh := impl_shared_1.fh) (O := impl_shared_1.O) (k := k) Try.func128 (by kernel_rfl) (by kernel_rfl) (fun j _ => (Tw.orc_sound slices_Contains_int_int.dok (slices_Contains_int_int.ok j) (fun _ => rfl) noO_sound)) (by kernel_rfl) (m := 1) rfl ?_
  refine (impl_shared_1.sf k a.1 a.2).trans ?_
  exact congrArg (Option.map _) h
def slices_IndexFunc_int_int.l0 : Nat → (List Int) → Int → Int → (List Int) → Option (Int)
  | 0, _, _, _, _ => none
  | k + 1, x0, x7, x8, y0_0 => (if x8 < x7 then (if 0 ≤ x8 then (if x8 < (x0.length : Int) then ((impl_shared_1.f k (rdI x0 x8) y0_0).bind fun t1 => (if t1 = true then (some x8) else (slices_IndexFunc_int_int.l0 k x0 x7 (wrap64 (x8 + 1)) y0_0))) else none) else none) else (some (-1)))
def slices_IndexFunc_int_int.f (k : Nat) (l0 : List Int) (l2_0 : List Int) : Option (Int) := (slices_IndexFunc_int_int.l0 k l0 (l0.length : Int) 0 l2_0)
def slices_IndexFunc_int_int.en (l2_0 : List Int) (r : Int) : Res := (.int .i64 r, [.box true [.imm (.I .i64 l2_0)]])
def slices_IndexFunc_int_int.dec : List AV → List R.Obj → Option ((List Int) × (List Int))
  | [.imm (.I .i64 l0), .clo 128 [.ptr 0 0]], [.box true [.imm (.I .i64 l2_0)]] => some (l0, l2_0)
  | _, _ => none
def slices_IndexFunc_int_int.tw : Tw := ⟨143, (List Int) × (List Int), Int, slices_IndexFunc_int_int.dec, fun a => [.imm (.I .i64 a.1), .clo 128 [.ptr 0 0]], fun a => [.box true [.imm (.I .i64 a.2)]], fun k a => slices_IndexFunc_int_int.f k a.1 a.2, fun a r => slices_IndexFunc_int_int.en a.2 r, true⟩
theorem slices_IndexFunc_int_int.dok : slices_IndexFunc_int_int.tw.DecOk := by
  intro args hc a h
  have h : slices_IndexFunc_int_int.dec args hc = some a := h
  unfold slices_IndexFunc_int_int.dec at h
  split at h
  · cases h; exact ⟨rfl, rfl⟩
  · cases h
noncomputable def slices_IndexFunc_int_int.O (k : Nat) : Oracle := (impl_shared_1.tw.orc k noO)
def slices_IndexFunc_int_int.fh : FH := ⟨fun i => match i with | 2 => some [(0, 0), (1, 0), (7, 0), (8, 0)] | _ => none, [], false⟩
noncomputable def slices_IndexFunc_int_int.x0 (k : Nat) (x0 : List Int) (x7 : Int) (x8 : Int) (y0_0 : List Int) : Option Res := R.exec Try.prog xhn slices_IndexFunc_int_int.O 1 Try.f143 slices_IndexFunc_int_int.fh k (R.point Try.f143 2) ⟨[(0, .imm (.I .i64 x0)), (1, .clo 128 [.ptr 0 0]), (7, .int .i64 x7), (8, .int .i64 x8)], [(0, .box true [.imm (.I .i64 y0_0)])], 3⟩
set_option maxRecDepth 100000 in
theorem slices_IndexFunc_int_int.e0 (k : Nat) (x0 : List Int) (x7 : Int) (x8 : Int) (y0_0 : List Int) : slices_IndexFunc_int_int.x0 (k + 1) x0 x7 x8 y0_0 = (if x8 < x7 then (if 0 ≤ x8 then (if x8 < (x0.length : Int) then ((impl_shared_1.f k (rdI x0 x8) y0_0).bind fun t1 => (if t1 = true then (some (slices_IndexFunc_int_int.en y0_0 x8)) else (slices_IndexFunc_int_int.x0 k x0 x7 (wr64 (x8 + 1)) y0_0))) else none) else none) else (some (slices_IndexFunc_int_int.en y0_0 (-1)))) := by kernel_rfl
set_option maxRecDepth 100000 in
theorem slices_IndexFunc_int_int.ef (k : Nat) (l0 : List Int) (l2_0 : List Int) : R.start Try.prog xhn slices_IndexFunc_int_int.O 1 Try.f143 slices_IndexFunc_int_int.fh k [.imm (.I .i64 l0), .clo 128 [.ptr 0 0]] [.box true [.imm (.I .i64 l2_0)]] = (slices_IndexFunc_int_int.x0 k l0 (l0.length : Int) 0 l2_0) := by kernel_rfl
theorem slices_IndexFunc_int_int.link : ∀ k, (∀ (x0 : List Int) (x7 : Int) (x8 : Int) (y0_0 : List Int), slices_IndexFunc_int_int.x0 k x0 x7 x8 y0_0 = (slices_IndexFunc_int_int.l0 k x0 x7 x8 y0_0).map (slices_IndexFunc_int_int.en y0_0))
  | 0 => fun _ _ _ _ => by simp only [slices_IndexFunc_int_int.l0, R.map_none]; rfl
  | k + 1 => by
    have ih0 := slices_IndexFunc_int_int.link k
    · intro x0 x7 x8 y0_0
      rw [slices_IndexFunc_int_int.e0]
      simp only [slices_IndexFunc_int_int.l0, R.map_ite, R.map_bind, R.map_none, R.map_some, R.wr64_eq, ← ih0]
theorem slices_IndexFunc_int_int.sf (k : Nat) (l0 : List Int) (l2_0 : List Int) : R.start Try.prog xhn slices_IndexFunc_int_int.O 1 Try.f143 slices_IndexFunc_int_int.fh k [.imm (.I .i64 l0), .clo 128 [.ptr 0 0]] [.box true [.imm (.I .i64 l2_0)]] = (slices_IndexFunc_int_int.f k l0 l2_0).map (slices_IndexFunc_int_int.en l2_0) := by
  have ih0 := slices_IndexFunc_int_int.link k
  rw [slices_IndexFunc_int_int.ef]
  simp only [slices_IndexFunc_int_int.f, R.map_ite, R.map_bind, R.map_none, R.map_some, R.wr64_eq, ← ih0]
theorem slices_IndexFunc_int_int.ok (k : Nat) : slices_IndexFunc_int_int.tw.Ok Try.prog k := by
  intro md hmd a r h
  refine fn_ok (H := xhn) (fh := slices_IndexFunc_int_int.fh) (O := slices_IndexFunc_int_int.O) (k := k) Try.func143 (by kernel_rfl) (by kernel_rfl) (fun j _ => (Tw.orc_sound impl_shared_1.dok (impl_shared_1.ok j) (fun _ => rfl) noO_sound)) (by kernel_rfl) (m := 1) rfl ?_
  refine (slices_IndexFunc_int_int.sf k a.1 a.2).trans ?_
  exact congrArg (Option.map _) h
def slices_ContainsFunc_int_int.f (k : Nat) (l0 : List Int) (l2_0 : List Int) : Option (Bool) := ((slices_IndexFunc_int_int.f k l0 l2_0).bind fun t1 => (some (decide (t1 ≥ 0))))
def slices_ContainsFunc_int_int.en (l2_0 : List Int) (r : Bool) : Res := (.lit r, [.box true [.imm (.I .i64 l2_0)]])
def slices_ContainsFunc_int_int.dec : List AV → List R.Obj → Option ((List Int) × (List Int))
  | [.imm (.I .i64 l0), .clo 128 [.ptr 0 0]], [.box true [.imm (.I .i64 l2_0)]] => some (l0, l2_0)
  | _, _ => none
def slices_ContainsFunc_int_int.tw : Tw := ⟨127, (List Int) × (List Int), Bool, slices_ContainsFunc_int_int.dec, fun a => [.imm (.I .i64 a.1), .clo 128 [.ptr 0 0]], fun a => [.box true [.imm (.I .i64 a.2)]], fun k a => slices_ContainsFunc_int_int.f k a.1 a.2, fun a r => slices_ContainsFunc_int_int.en a.2 r, true⟩
theorem slices_ContainsFunc_int_int.dok : slices_ContainsFunc_int_int.tw.DecOk := by
  intro args hc a h
  have h : slices_ContainsFunc_int_int.dec args hc = some a := h
  unfold slices_ContainsFunc_int_int.dec at h
  split at h
  · cases h; exact ⟨rfl, rfl⟩
  · cases h
noncomputable def slices_ContainsFunc_int_int.O (k : Nat) : Oracle := (slices_IndexFunc_int_int.tw.orc k noO)
def slices_ContainsFunc_int_int.fh : FH := ⟨fun i => match i with | _ => none, [], false⟩
set_option maxRecDepth 100000 in
theorem slices_ContainsFunc_int_int.ef (k : Nat) (l0 : List Int) (l2_0 : List Int) : R.start Try.prog xhn slices_ContainsFunc_int_int.O 1 Try.f127 slices_ContainsFunc_int_int.fh k [.imm (.I .i64 l0), .clo 128 [.ptr 0 0]] [.box true [.imm (.I .i64 l2_0)]] = ((slices_IndexFunc_int_int.f k l0 l2_0).bind fun t1 => (some (slices_ContainsFunc_int_int.en l2_0 (decide (t1 ≥ 0))))) := by kernel_rfl
theorem slices_ContainsFunc_int_int.sf (k : Nat) (l0 : List Int) (l2_0 : List Int) : R.start Try.prog xhn slices_ContainsFunc_int_int.O 1 Try.f127 slices_ContainsFunc_int_int.fh k [.imm (.I .i64 l0), .clo 128 [.ptr 0 0]] [.box true [.imm (.I .i64 l2_0)]] = (slices_ContainsFunc_int_int.f k l0 l2_0).map (slices_ContainsFunc_int_int.en l2_0) := by
  rw [slices_ContainsFunc_int_int.ef]
  simp only [slices_ContainsFunc_int_int.f, R.map_ite, R.map_bind, R.map_none, R.map_some, R.wr64_eq]
theorem slices_ContainsFunc_int_int.ok (k : Nat) : slices_ContainsFunc_int_int.tw.Ok Try.prog k := by
  intro md hmd a r h
  refine fn_ok (H := xhn) (fh := slices_ContainsFunc_int_int.fh) (O := slices_ContainsFunc_int_int.O) (k := k) Try.func127 (by kernel_rfl) (by kernel_rfl) (fun j _ => (Tw.orc_sound slices_IndexFunc_int_int.dok (slices_IndexFunc_int_int.ok j) (fun _ => rfl) noO_sound)) (by kernel_rfl) (m := 1) rfl ?_
  refine (slices_ContainsFunc_int_int.sf k a.1 a.2).trans ?_
  exact congrArg (Option.map _) h
def impl_shared.f (k : Nat) (l0 : List Int) (l1 : List Int) : Option (Bool) := ((slices_ContainsFunc_int_int.f k l0 l1).bind fun t1 => (some t1))
def impl_shared.en (r : Bool) : Res := (.lit r, [])
def impl_shared.dec : List AV → List R.Obj → Option ((List Int) × (List Int))
  | [.imm (.I .i64 l0), .imm (.I .i64 l1)], [] => some (l0, l1)
  | _, _ => none
def impl_shared.tw : Tw := ⟨91, (List Int) × (List Int), Bool, impl_shared.dec, fun a => [.imm (.I .i64 a.1), .imm (.I .i64 a.2)], fun a => [], fun k a => impl_shared.f k a.1 a.2, fun a r => impl_shared.en r, true⟩
theorem impl_shared.dok : impl_shared.tw.DecOk := by
  intro args hc a h
  have h : impl_shared.dec args hc = some a := h
  unfold impl_shared.dec at h
  split at h
  · cases h; exact ⟨rfl, rfl⟩
  · cases h
noncomputable def impl_shared.O (k : Nat) : Oracle := (slices_ContainsFunc_int_int.tw.orc k noO)
def impl_shared.fh : FH := ⟨fun i => match i with | _ => none, [], false⟩
set_option maxRecDepth 100000 in
theorem impl_shared.ef (k : Nat) (l0 : List Int) (l1 : List Int) : R.start Try.prog xhn impl_shared.O 0 Try.f91 impl_shared.fh k [.imm (.I .i64 l0), .imm (.I .i64 l1)] [] = ((slices_ContainsFunc_int_int.f k l0 l1).bind fun t1 => (some (impl_shared.en t1))) := by kernel_rfl
theorem impl_shared.sf (k : Nat) (l0 : List Int) (l1 : List Int) : R.start Try.prog xhn impl_shared.O 0 Try.f91 impl_shared.fh k [.imm (.I .i64 l0), .imm (.I .i64 l1)] [] = (impl_shared.f k l0 l1).map (impl_shared.en) := by
  rw [impl_shared.ef]
  simp only [impl_shared.f, R.map_ite, R.map_bind, R.map_none, R.map_some, R.wr64_eq]
theorem impl_shared.ok (k : Nat) : impl_shared.tw.Ok Try.prog k := by
  intro md hmd a r h
  refine fn_ok (H := xhn) (fh := impl_shared.fh) (O := impl_shared.O) (k := k) Try.func91 (by kernel_rfl) (by kernel_rfl) (fun j _ => (Tw.orc_sound slices_ContainsFunc_int_int.dok (slices_ContainsFunc_int_int.ok j) (fun _ => rfl) noO_sound)) (by kernel_rfl) (m := 0) rfl ?_
  refine (impl_shared.sf k a.1 a.2).trans ?_
  exact congrArg (Option.map _) h
def slices_Clone_impl_Step_impl_Step.f (l0 : List Stp) : Option (List Stp) := if l0.length ≤ 1000000000 then some l0 else none
def slices_Clone_impl_Step_impl_Step.dec : List AV → List R.Obj → Option (List Stp)
  | [.imm (.T l0)], [] => some l0
  | _, _ => none
def slices_Clone_impl_Step_impl_Step.tw : Tw := ⟨115, List Stp, List Stp, slices_Clone_impl_Step_impl_Step.dec, fun a => [.imm (.T a)], fun a => [], fun k a => slices_Clone_impl_Step_impl_Step.f a, fun a r => (.sl 0 0, [.arr 67 0 (.T r) false]), false⟩
theorem slices_Clone_impl_Step_impl_Step.dok : slices_Clone_impl_Step_impl_Step.tw.DecOk := by
  intro args hc a h
  have h : slices_Clone_impl_Step_impl_Step.dec args hc = some a := h
  unfold slices_Clone_impl_Step_impl_Step.dec at h
  split at h
  · cases h; exact ⟨rfl, rfl⟩
  · cases h
theorem slices_Clone_impl_Step_impl_Step.ok (k : Nat) : slices_Clone_impl_Step_impl_Step.tw.Ok Try.prog k := by
  intro md hmd l0 r h
  have h : slices_Clone_impl_Step_impl_Step.f l0 = some r := h
  unfold slices_Clone_impl_Step_impl_Step.f at h
  split at h
  case isFalse => cases h
  rename_i hl
  obtain rfl := Option.some.inj h
  obtain ⟨i0, hi⟩ : ∃ i0, Try.prog.info? 67 = some i0 := Option.isSome_iff_exists.1 (by kernel_rfl)
  have h4 : (Try.prog.info? 67).bind (fun i => i.zero.map fun z => (i.size, i.bytes, z.cells.size)) = some (4, 40, 4) := by kernel_rfl
  rw [hi] at h4
  obtain ⟨z, hz0, hzz⟩ := Option.map_eq_some_iff.1 (show i0.zero.map (fun z => (i0.size, i0.bytes, z.cells.size)) = some (4, 40, 4) from h4)
  simp only [Prod.mk.injEq] at hzz
  obtain ⟨hz1, hz2, hzs⟩ := hzz
  refine ⟨callable_of Try.func115 (by kernel_rfl) (by kernel_rfl), fun w M I vs E => ?_⟩
  have hl' : (Ct.T l0).len ≤ 1000000000 := hl
  refine clone_leaves (c := .T l0) rfl E (fun b off cap news n1 n2 n3 => ?_) (fun n cap => Go.Proofs.AnyE.slices_Clone_nil Try.layCloneT n cap w) (fun ad cap => R.clone_zero Try.layCloneT i0 z 4 40 hi hz0 hz1 hz2 hzs (by decide) Try.sizeOf67 ad cap w) (fun q => Bool.noConfusion (show false = true from hmd q))
  exact Go.Proofs.AnyE.slices_Clone Try.layCloneT i0 z 4 40 hi hz0 hz1 hz2 hzs (by decide) Try.sizeOf67 b off _ cap news w n1 (by unfold maxLen; omega) (by omega) n2 n3
def slices_Sort_int_int.f (l0 : List Int) : Option (List Int) := if l0.length ≤ 1000000000 then some (R.sortI l0) else none
def slices_Sort_int_int.dec : List AV → List R.Obj → Option (List Int)
  | [.sl 0 0], [.arr 3 0 (.I .i64 l0) false] => some l0
  | _, _ => none
def slices_Sort_int_int.tw : Tw := ⟨116, List Int, List Int, slices_Sort_int_int.dec, fun a => [.sl 0 0], fun a => [.arr 3 0 (.I .i64 a) false], fun k a => slices_Sort_int_int.f a, fun a r => (.tup [], [.arr 3 0 (.I .i64 r) false]), false⟩
theorem slices_Sort_int_int.dok : slices_Sort_int_int.tw.DecOk := by
  intro args hc a h
  have h : slices_Sort_int_int.dec args hc = some a := h
  unfold slices_Sort_int_int.dec at h
  split at h
  · cases h; exact ⟨rfl, rfl⟩
  · cases h
theorem slices_Sort_int_int.ok (k : Nat) : slices_Sort_int_int.tw.Ok Try.prog k := by
  intro md hmd l0 r h
  have h : slices_Sort_int_int.f l0 = some r := h
  unfold slices_Sort_int_int.f at h
  split at h
  case isFalse => cases h
  rename_i hl
  obtain rfl := Option.some.inj h
  refine ⟨callable_of Try.func116 (by kernel_rfl) (by kernel_rfl), fun w M I vs E => ?_⟩
  exact sortI_leaves E (fun blk cap hH hb => Go.Proofs.AnyM.slices_Sort_int Try.laySortI blk 0 cap l0 w hH hb (by omega)) (Go.Proofs.AnyM.slices_Sort_int_none Try.laySortI none 0 w)
def slices_SortFunc_impl_Step_impl_Step.f (l0 : List Stp) : Option (List Stp) := if l0.length ≤ 1000000000 then some (R.sortT l0) else none
def slices_SortFunc_impl_Step_impl_Step.dec : List AV → List R.Obj → Option (List Stp)
  | [.sl 0 0, .clo 88 []], [.arr 67 0 (.T l0) false] => some l0
  | _, _ => none
def slices_SortFunc_impl_Step_impl_Step.tw : Tw := ⟨117, List Stp, List Stp, slices_SortFunc_impl_Step_impl_Step.dec, fun a => [.sl 0 0, .clo 88 []], fun a => [.arr 67 0 (.T a) false], fun k a => slices_SortFunc_impl_Step_impl_Step.f a, fun a r => (.tup [], [.arr 67 0 (.T r) false]), false⟩
theorem slices_SortFunc_impl_Step_impl_Step.dok : slices_SortFunc_impl_Step_impl_Step.tw.DecOk := by
  intro args hc a h
  have h : slices_SortFunc_impl_Step_impl_Step.dec args hc = some a := h
  unfold slices_SortFunc_impl_Step_impl_Step.dec at h
  split at h
  · cases h; exact ⟨rfl, rfl⟩
  · cases h
theorem impl_stepOrder.cmp (x y : Stp) : impl_stepOrder.f 4 x.f0 x.f1 x.f2 x.f3 y.f0 y.f1 y.f2 y.f3 = some (R.ordT x y) := by
  have c1 : ∀ a b : Int, cmp_Compare_int.f a b = some (R.cmpI a b) := fun a b => by
    unfold cmp_Compare_int.f cmp_isNaN_int.f R.cmpI
    simp only [decide_true, Bool.not_true, Option.bind_some, Bool.false_eq_true, if_false]
    by_cases h : a < b
    · rw [if_pos h, if_pos h]
    · rw [if_neg h, if_neg h]; by_cases h2 : a > b
      · rw [if_pos h2, if_pos h2]
      · rw [if_neg h2, if_neg h2]
  have w1 : wrap64 ((0 : Int) + 1) = 1 := by unfold wrap64; decide
  have w2 : wrap64 ((1 : Int) + 1) = 2 := by unfold wrap64; decide
  have w3 : wrap64 ((2 : Int) + 1) = 3 := by unfold wrap64; decide
  have c2 : ∀ a b c : Int, cmp_Or_int.f 4 [a, b, c] = some (if a = 0 then (if b = 0 then c else b) else a) := fun a b c => by
    unfold cmp_Or_int.f
    have r0 : rdI [a, b, c] 0 = a := rfl
    have r1 : rdI [a, b, c] 1 = b := rfl
    have r2 : rdI [a, b, c] 2 = c := rfl
    simp only [cmp_Or_int.l0, List.length_cons, List.length_nil, r0, r1, r2, w1, w2, w3]
    by_cases h0 : a = 0
    · by_cases h1 : b = 0
      · by_cases h2 : c = 0
        · simp [h0, h1, h2, r1, r2, w1, w2, w3]
        · simp [h0, h1, h2, r1, r2, w1, w2, w3]
      · simp [h0, h1, r1, r2, w1, w2, w3]
    · simp [h0]
  unfold impl_stepOrder.f strings_Compare.f bytealg_CompareString.f
  simp only [c1, Option.bind_some, c2]
  rfl
theorem slices_SortFunc_impl_Step_impl_Step.ok (k : Nat) : slices_SortFunc_impl_Step_impl_Step.tw.Ok Try.prog k := by
  intro md hmd l0 r h
  have h : slices_SortFunc_impl_Step_impl_Step.f l0 = some r := h
  unfold slices_SortFunc_impl_Step_impl_Step.f at h
  split at h
  case isFalse => cases h
  rename_i hl
  obtain rfl := Option.some.inj h
  refine ⟨callable_of Try.func117 (by kernel_rfl) (by kernel_rfl), fun w M I vs E => ?_⟩
  have eg : ∀ args w, (callFunc 88 args).run Try.prog w = .ok (.enter 88 args) w := enters_of Try.func88 (by kernel_rfl) rfl
  have hcmp : ∀ x y : Stp, CallSpec true Try.prog 88 [.agg [.int .i64 x.f0, .str x.f1, .int .i64 x.f2, .int .i64 x.f3], .agg [.int .i64 y.f0, .str y.f1, .int .i64 y.f2, .int .i64 y.f3]] [] (.int .i64 (R.ordT x y)) [] := fun x y =>
    impl_stepOrder.ok 4 true (fun _ => rfl) (x.f0, x.f1, x.f2, x.f3, y.f0, y.f1, y.f2, y.f3) (R.ordT x y) (impl_stepOrder.cmp x y)
  refine sortT_leaves E (fun blk cap hH hb => ?_) (Go.Proofs.AnyF.slices_SortFunc_none Try.laySortT none 0 _ w)
  exact Go.Proofs.AnyQ.slices_SortFunc_eq Try.laySortT 4 Try.isAgg67 Try.sizeOf67 R.encT (fun _ => rfl) (fun x v hv => by
    simp only [R.encT, List.mem_cons, List.not_mem_nil, or_false] at hv
    rcases hv with rfl | rfl | rfl | rfl <;> rfl) R.ordT R.swoT 88 #[] blk 0 cap l0.toArray w eg (R.cmpLays_of hcmp blk 0 _ w) hH hb (by have q : l0.length ≤ 1000000000 := hl; show List.length l0 < _; omega)
def impl_made.f (k : Nat) (a0 : Int) (l1 : List Int) (l2 : List Int) (l3 : List Stp) : Option (Int × (List Int) × (List Int) × (List Stp) × Bool) := ((slices_Clone_int_int.f l1).bind fun t1 => ((slices_Clone_int_int.f l2).bind fun t2 => ((slices_Clone_impl_Step_impl_Step.f l3).bind fun t3 => ((slices_Sort_int_int.f t1).bind fun t4 => ((slices_Sort_int_int.f t2).bind fun t5 => ((slices_SortFunc_impl_Step_impl_Step.f t3).bind fun t6 => ((impl_AutomatonValid.f k a0 t4 t5 t6).bind fun t7 => (if t7 = true then (some (a0, t4, t5, t6, true)) else (some (0, ([] : List Int), ([] : List Int), ([] : List Stp), false))))))))))
def impl_made.en (r : Int × (List Int) × (List Int) × (List Stp) × Bool) : Res := (.tup [.agg [.int .i64 r.1, .sl 0 0, .sl 1 0, .sl 2 0], .lit r.2.2.2.2], [.arr 3 0 (.I .i64 r.2.1) false, .arr 3 0 (.I .i64 r.2.2.1) false, .arr 67 0 (.T r.2.2.2.1) false])
def impl_made.dec : List AV → List R.Obj → Option (Int × (List Int) × (List Int) × (List Stp))
  | [.int .i64 a0, .imm (.I .i64 l1), .imm (.I .i64 l2), .imm (.T l3)], [] => some (a0, l1, l2, l3)
  | _, _ => none
def impl_made.tw : Tw := ⟨63, Int × (List Int) × (List Int) × (List Stp), Int × (List Int) × (List Int) × (List Stp) × Bool, impl_made.dec, fun a => [.int .i64 a.1, .imm (.I .i64 a.2.1), .imm (.I .i64 a.2.2.1), .imm (.T a.2.2.2)], fun a => [], fun k a => impl_made.f k a.1 a.2.1 a.2.2.1 a.2.2.2, fun a r => impl_made.en r, false⟩
theorem impl_made.dok : impl_made.tw.DecOk := by
  intro args hc a h
  have h : impl_made.dec args hc = some a := h
  unfold impl_made.dec at h
  split at h
  · cases h; exact ⟨rfl, rfl⟩
  · cases h
noncomputable def impl_made.O (k : Nat) : Oracle := (slices_Clone_int_int.tw.orc k (slices_Clone_impl_Step_impl_Step.tw.orc k (slices_Sort_int_int.tw.orc k (slices_SortFunc_impl_Step_impl_Step.tw.orc k (impl_AutomatonValid.tw.orc k noO)))))
def impl_made.fh : FH := ⟨fun i => match i with | _ => none, [(true, 3), (true, 3), (true, 67)], false⟩
set_option maxRecDepth 100000 in
theorem impl_made.ef (k : Nat) (a0 : Int) (l1 : List Int) (l2 : List Int) (l3 : List Stp) : R.start Try.prog xhn impl_made.O 0 Try.f63 impl_made.fh k [.int .i64 a0, .imm (.I .i64 l1), .imm (.I .i64 l2), .imm (.T l3)] [] = ((slices_Clone_int_int.f l1).bind fun t1 => ((slices_Clone_int_int.f l2).bind fun t2 => ((slices_Clone_impl_Step_impl_Step.f l3).bind fun t3 => ((slices_Sort_int_int.f t1).bind fun t4 => ((slices_Sort_int_int.f t2).bind fun t5 => ((slices_SortFunc_impl_Step_impl_Step.f t3).bind fun t6 => ((impl_AutomatonValid.f k a0 t4 t5 t6).bind fun t7 => (if t7 = true then (some (impl_made.en (a0, t4, t5, t6, true))) else (some (impl_made.en (0, ([] : List Int), ([] : List Int), ([] : List Stp), false))))))))))) := by kernel_rfl
theorem impl_made.sf (k : Nat) (a0 : Int) (l1 : List Int) (l2 : List Int) (l3 : List Stp) : R.start Try.prog xhn impl_made.O 0 Try.f63 impl_made.fh k [.int .i64 a0, .imm (.I .i64 l1), .imm (.I .i64 l2), .imm (.T l3)] [] = (impl_made.f k a0 l1 l2 l3).map (impl_made.en) := by
  rw [impl_made.ef]
  simp only [impl_made.f, R.map_ite, R.map_bind, R.map_none, R.map_some, R.wr64_eq]
theorem impl_made.ok (k : Nat) : impl_made.tw.Ok Try.prog k := by
  intro md hmd a r h
  refine fn_ok (H := xhn) (fh := impl_made.fh) (O := impl_made.O) (k := k) Try.func63 (by kernel_rfl) (by kernel_rfl) (fun j _ => (Tw.orc_sound slices_Clone_int_int.dok (slices_Clone_int_int.ok j) (fun q => Bool.noConfusion (show false = true from hmd q)) (Tw.orc_sound slices_Clone_impl_Step_impl_Step.dok (slices_Clone_impl_Step_impl_Step.ok j) (fun q => Bool.noConfusion (show false = true from hmd q)) (Tw.orc_sound slices_Sort_int_int.dok (slices_Sort_int_int.ok j) (fun q => Bool.noConfusion (show false = true from hmd q)) (Tw.orc_sound slices_SortFunc_impl_Step_impl_Step.dok (slices_SortFunc_impl_Step_impl_Step.ok j) (fun q => Bool.noConfusion (show false = true from hmd q)) (Tw.orc_sound impl_AutomatonValid.dok (impl_AutomatonValid.ok j) (fun _ => rfl) noO_sound)))))) (by kernel_rfl) (m := 0) rfl ?_
  refine (impl_made.sf k a.1 a.2.1 a.2.2.1 a.2.2.2).trans ?_
  exact congrArg (Option.map _) h
def impl_ChainAutomaton_1.l0 : Nat → (List Stp) → Int → Int → Int → ByteArray → Int → Int → Option (List Stp)
  | 0, _, _, _, _, _, _, _ => none
  | k + 1, y1, x6, x7, y2_0, y2_1, y2_2, y2_3 => (if x7 < x6 then (if 0 ≤ x7 then (if x7 < (y1.length : Int) then ((impl_stepOrder.f k ((rdT y1 x7).f0) ((rdT y1 x7).f1) ((rdT y1 x7).f2) ((rdT y1 x7).f3) y2_0 y2_1 y2_2 y2_3).bind fun t1 => (if t1 = 0 then (some (y1.set x7.toNat (⟨(rdT y1 x7).f0, (rdT y1 x7).f1, (rdT y1 x7).f2, (mn (rdT y1 x7).f3 y2_3)⟩ : Stp))) else (impl_ChainAutomaton_1.l0 k y1 x6 (wrap64 (x7 + 1)) y2_0 y2_1 y2_2 y2_3))) else none) else none) else (if y1.length < 3518437208883 then (some (y1 ++ [(⟨y2_0, y2_1, y2_2, y2_3⟩ : Stp)])) else none))
def impl_ChainAutomaton_1.f (k : Nat) (a0_0 : Int) (a0_1 : ByteArray) (a0_2 : Int) (a0_3 : Int) (l3 : List Stp) : Option (List Stp) := (impl_ChainAutomaton_1.l0 k l3 (l3.length : Int) 0 a0_0 a0_1 a0_2 a0_3)
def impl_ChainAutomaton_1.en (r : List Stp) : Res := (.tup [], [.box false [.sl 1 1], .arr 67 1 (.T r) false])
def impl_ChainAutomaton_1.dec : List AV → List R.Obj → Option (Int × ByteArray × Int × Int × (List Stp))
  | [.agg [.int .i64 a0_0, .str a0_1, .int .i64 a0_2, .int .i64 a0_3], .ptr 0 0], [.box false [.sl 1 0], .arr 67 0 (.T l3) false] => some (a0_0, a0_1, a0_2, a0_3, l3)
  | _, _ => none
def impl_ChainAutomaton_1.tw : Tw := ⟨87, Int × ByteArray × Int × Int × (List Stp), List Stp, impl_ChainAutomaton_1.dec, fun a => [.agg [.int .i64 a.1, .str a.2.1, .int .i64 a.2.2.1, .int .i64 a.2.2.2.1], .ptr 0 0], fun a => [.box false [.sl 1 0], .arr 67 0 (.T a.2.2.2.2) false], fun k a => impl_ChainAutomaton_1.f k a.1 a.2.1 a.2.2.1 a.2.2.2.1 a.2.2.2.2, fun a r => impl_ChainAutomaton_1.en r, true⟩
theorem impl_ChainAutomaton_1.dok : impl_ChainAutomaton_1.tw.DecOk := by
  intro args hc a h
  have h : impl_ChainAutomaton_1.dec args hc = some a := h
  unfold impl_ChainAutomaton_1.dec at h
  split at h
  · cases h; exact ⟨rfl, rfl⟩
  · cases h
noncomputable def impl_ChainAutomaton_1.O (k : Nat) : Oracle := (impl_stepOrder.tw.orc k noO)
def impl_ChainAutomaton_1.fh : FH := ⟨fun i => match i with | 2 => some [(1, 0), (2, 0), (5, 0), (6, 0), (7, 0)] | _ => none, [], true⟩
noncomputable def impl_ChainAutomaton_1.x0 (k : Nat) (y1 : List Stp) (x6 : Int) (x7 : Int) (y2_0 : Int) (y2_1 : ByteArray) (y2_2 : Int) (y2_3 : Int) : Option Res := R.exec Try.prog xhn impl_ChainAutomaton_1.O 2 Try.f87 impl_ChainAutomaton_1.fh k (R.point Try.f87 2) ⟨[(1, .ptr 0 0), (2, .ptr 2 0), (5, .sl 1 1), (6, .int .i64 x6), (7, .int .i64 x7)], [(0, .box false [.sl 1 1]), (1, .arr 67 1 (.T y1) false), (2, .box false [.int .i64 y2_0, .str y2_1, .int .i64 y2_2, .int .i64 y2_3])], 5⟩
set_option maxRecDepth 100000 in
theorem impl_ChainAutomaton_1.e0 (k : Nat) (y1 : List Stp) (x6 : Int) (x7 : Int) (y2_0 : Int) (y2_1 : ByteArray) (y2_2 : Int) (y2_3 : Int) : impl_ChainAutomaton_1.x0 (k + 1) y1 x6 x7 y2_0 y2_1 y2_2 y2_3 = (if x7 < x6 then (if 0 ≤ x7 then (if x7 < (y1.length : Int) then ((impl_stepOrder.f k ((rdT y1 x7).f0) ((rdT y1 x7).f1) ((rdT y1 x7).f2) ((rdT y1 x7).f3) y2_0 y2_1 y2_2 y2_3).bind fun t1 => (if t1 = 0 then (some (impl_ChainAutomaton_1.en (y1.set x7.toNat (⟨(rdT y1 x7).f0, (rdT y1 x7).f1, (rdT y1 x7).f2, (mn (rdT y1 x7).f3 y2_3)⟩ : Stp)))) else (impl_ChainAutomaton_1.x0 k y1 x6 (wr64 (x7 + 1)) y2_0 y2_1 y2_2 y2_3))) else none) else none) else (if y1.length < 3518437208883 then (some (impl_ChainAutomaton_1.en (y1 ++ [(⟨y2_0, y2_1, y2_2, y2_3⟩ : Stp)]))) else none)) := by
  refine Eq.trans ?_ (R.icong (fun h0 => (R.icong (fun h1 => (R.icong (fun h2 => (R.bcong fun t1 => (R.icong (fun h3 => (R.idropT (p := 0 ≤ x7) (z := none) h1 (R.idropT (p := x7 < (y1.length : Int)) (z := none) h2 rfl))) (fun h3 => rfl)))) (fun h2 => rfl))) (fun h1 => rfl))) (fun h0 => rfl))
  kernel_rfl
set_option maxRecDepth 100000 in
theorem impl_ChainAutomaton_1.ef (k : Nat) (a0_0 : Int) (a0_1 : ByteArray) (a0_2 : Int) (a0_3 : Int) (l3 : List Stp) : R.start Try.prog xhn impl_ChainAutomaton_1.O 2 Try.f87 impl_ChainAutomaton_1.fh k [.agg [.int .i64 a0_0, .str a0_1, .int .i64 a0_2, .int .i64 a0_3], .ptr 0 0] [.box false [.sl 1 0], .arr 67 0 (.T l3) false] = (impl_ChainAutomaton_1.x0 k l3 (l3.length : Int) 0 a0_0 a0_1 a0_2 a0_3) := by kernel_rfl
theorem impl_ChainAutomaton_1.link : ∀ k, (∀ (y1 : List Stp) (x6 : Int) (x7 : Int) (y2_0 : Int) (y2_1 : ByteArray) (y2_2 : Int) (y2_3 : Int), impl_ChainAutomaton_1.x0 k y1 x6 x7 y2_0 y2_1 y2_2 y2_3 = (impl_ChainAutomaton_1.l0 k y1 x6 x7 y2_0 y2_1 y2_2 y2_3).map (impl_ChainAutomaton_1.en))
  | 0 => fun _ _ _ _ _ _ _ => by simp only [impl_ChainAutomaton_1.l0, R.map_none]; rfl
  | k + 1 => by
    have ih0 := impl_ChainAutomaton_1.link k
    · intro y1 x6 x7 y2_0 y2_1 y2_2 y2_3
      rw [impl_ChainAutomaton_1.e0]
      simp only [impl_ChainAutomaton_1.l0, R.map_ite, R.map_bind, R.map_none, R.map_some, R.wr64_eq, ← ih0]
theorem impl_ChainAutomaton_1.sf (k : Nat) (a0_0 : Int) (a0_1 : ByteArray) (a0_2 : Int) (a0_3 : Int) (l3 : List Stp) : R.start Try.prog xhn impl_ChainAutomaton_1.O 2 Try.f87 impl_ChainAutomaton_1.fh k [.agg [.int .i64 a0_0, .str a0_1, .int .i64 a0_2, .int .i64 a0_3], .ptr 0 0] [.box false [.sl 1 0], .arr 67 0 (.T l3) false] = (impl_ChainAutomaton_1.f k a0_0 a0_1 a0_2 a0_3 l3).map (impl_ChainAutomaton_1.en) := by
  have ih0 := impl_ChainAutomaton_1.link k
  rw [impl_ChainAutomaton_1.ef]
  simp only [impl_ChainAutomaton_1.f, R.map_ite, R.map_bind, R.map_none, R.map_some, R.wr64_eq, ← ih0]
theorem impl_ChainAutomaton_1.ok (k : Nat) : impl_ChainAutomaton_1.tw.Ok Try.prog k := by
  intro md hmd a r h
  refine fn_ok (H := xhn) (fh := impl_ChainAutomaton_1.fh) (O := impl_ChainAutomaton_1.O) (k := k) Try.func87 (by kernel_rfl) (by kernel_rfl) (fun j _ => (Tw.orc_sound impl_stepOrder.dok (impl_stepOrder.ok j) (fun _ => rfl) noO_sound)) (by kernel_rfl) (m := 2) rfl ?_
  refine (impl_ChainAutomaton_1.sf k a.1 a.2.1 a.2.2.1 a.2.2.2.1 a.2.2.2.2).trans ?_
  exact congrArg (Option.map _) h
mutual
def impl_ChainAutomaton.l0 : Nat → Int → (List Stp) → Int → Int → Int → (List Int) → (List Int) → (List Stp) → Int → (List Int) → (List Int) → (List Stp) → (List Stp) → Option (Int × (List Int) × (List Int) × (List Stp) × Bool)
  | 0, _, _, _, _, _, _, _, _, _, _, _, _, _ => none
  | k + 1, x6, x35, x36, x37, y0_0, y0_1, y0_2, y0_3, y1_0, y1_1, y1_2, y1_3, y7 => (if x37 < x36 then (if 0 ≤ x37 then (if x37 < (x35.length : Int) then ((slices_Contains_int_int.f k y0_2 ((rdT x35 x37).f2)).bind fun t5 => (if t5 = true then (impl_ChainAutomaton.l1 k x6 x35 x36 x37 y1_1 (y1_1.length : Int) 0 y0_0 y0_1 y0_2 y0_3 y1_0 y1_1 y1_2 y1_3 y7 ((rdT x35 x37).f0) ((rdT x35 x37).f1) ((rdT x35 x37).f2) ((rdT x35 x37).f3)) else (impl_ChainAutomaton.l0 k x6 x35 x36 (wrap64 (x37 + 1)) y0_0 y0_1 y0_2 y0_3 y1_0 y1_1 y1_2 y1_3 y7))) else none) else none) else ((slices_Clone_int_int.f y0_1).bind fun t6 => ((impl_moved.f k y1_2 x6).bind fun t7 => ((impl_shared.f k y0_1 y0_2).bind fun t8 => (if t8 = true then ((impl_moved.f k y1_1 x6).bind fun t9 => (if t6.length + t9.length ≤ 17592186044416 then ((impl_shared.f k y1_1 y1_2).bind fun t10 => (if t10 = true then (if t7.length + y0_2.length ≤ 17592186044416 then ((impl_made.f k (wrap64 (x6 + y1_0)) (t6 ++ t9) (t7 ++ y0_2) y7).bind fun t11 => (some (t11.1, t11.2.1, t11.2.2.1, t11.2.2.2.1, t11.2.2.2.2))) else none) else ((impl_made.f k (wrap64 (x6 + y1_0)) (t6 ++ t9) t7 y7).bind fun t12 => (some (t12.1, t12.2.1, t12.2.2.1, t12.2.2.2.1, t12.2.2.2.2))))) else none)) else ((impl_shared.f k y1_1 y1_2).bind fun t13 => (if t13 = true then (if t7.length + y0_2.length ≤ 17592186044416 then ((impl_made.f k (wrap64 (x6 + y1_0)) t6 (t7 ++ y0_2) y7).bind fun t14 => (some (t14.1, t14.2.1, t14.2.2.1, t14.2.2.2.1, t14.2.2.2.2))) else none) else ((impl_made.f k (wrap64 (x6 + y1_0)) t6 t7 y7).bind fun t15 => (some (t15.1, t15.2.1, t15.2.2.1, t15.2.2.2.1, t15.2.2.2.2))))))))))
def impl_ChainAutomaton.l1 : Nat → Int → (List Stp) → Int → Int → (List Int) → Int → Int → Int → (List Int) → (List Int) → (List Stp) → Int → (List Int) → (List Int) → (List Stp) → (List Stp) → Int → ByteArray → Int → Int → Option (Int × (List Int) × (List Int) × (List Stp) × Bool)
  | 0, _, _, _, _, _, _, _, _, _, _, _, _, _, _, _, _, _, _, _, _ => none
  | k + 1, x6, x35, x36, x37, x47, x48, x49, y0_0, y0_1, y0_2, y0_3, y1_0, y1_1, y1_2, y1_3, y8, y4_0, y4_1, y4_2, y4_3 => (if x49 < x48 then (if 0 ≤ x49 then (if x49 < (x47.length : Int) then ((impl_ChainAutomaton_1.f k y4_0 y4_1 (wrap64 ((rdI x47 x49) + x6)) y4_3 y8).bind fun t16 => (impl_ChainAutomaton.l1 k x6 x35 x36 x37 x47 x48 (wrap64 (x49 + 1)) y0_0 y0_1 y0_2 y0_3 y1_0 y1_1 y1_2 y1_3 t16 y4_0 y4_1 y4_2 y4_3)) else none) else none) else (impl_ChainAutomaton.l0 k x6 x35 x36 (wrap64 (x37 + 1)) y0_0 y0_1 y0_2 y0_3 y1_0 y1_1 y1_2 y1_3 y8))
end
def impl_ChainAutomaton.f (k : Nat) (a0_0 : Int) (l0_1 : List Int) (l0_2 : List Int) (l0_3 : List Stp) (a1_0 : Int) (l1_1 : List Int) (l1_2 : List Int) (l1_3 : List Stp) : Option (Int × (List Int) × (List Int) × (List Stp) × Bool) := ((impl_AutomatonValid.f k a0_0 l0_1 l0_2 l0_3).bind fun t1 => (if t1 = true then ((impl_AutomatonValid.f k a1_0 l1_1 l1_2 l1_3).bind fun t2 => (if t2 = true then ((impl_behind.f k a1_0 l1_1 l1_2 l1_3 a0_0).bind fun t3 => ((slices_Concat_impl_Step_impl_Step.f k ([l0_3, t3])).bind fun t4 => (impl_ChainAutomaton.l0 k a0_0 l0_3 (l0_3.length : Int) 0 a0_0 l0_1 l0_2 l0_3 a1_0 l1_1 l1_2 l1_3 t4))) else (some (0, ([] : List Int), ([] : List Int), ([] : List Stp), false)))) else (some (0, ([] : List Int), ([] : List Int), ([] : List Stp), false))))
def impl_ChainAutomaton.en (r : Int × (List Int) × (List Int) × (List Stp) × Bool) : Res := (.tup [.agg [.int .i64 r.1, .sl 0 0, .sl 1 0, .sl 2 0], .lit r.2.2.2.2], [.arr 3 0 (.I .i64 r.2.1) false, .arr 3 0 (.I .i64 r.2.2.1) false, .arr 67 0 (.T r.2.2.2.1) false])
def impl_ChainAutomaton.dec : List AV → List R.Obj → Option (Int × (List Int) × (List Int) × (List Stp) × Int × (List Int) × (List Int) × (List Stp))
  | [.agg [.int .i64 a0_0, .imm (.I .i64 l0_1), .imm (.I .i64 l0_2), .imm (.T l0_3)], .agg [.int .i64 a1_0, .imm (.I .i64 l1_1), .imm (.I .i64 l1_2), .imm (.T l1_3)]], [] => some (a0_0, l0_1, l0_2, l0_3, a1_0, l1_1, l1_2, l1_3)
  | _, _ => none
def impl_ChainAutomaton.tw : Tw := ⟨31, Int × (List Int) × (List Int) × (List Stp) × Int × (List Int) × (List Int) × (List Stp), Int × (List Int) × (List Int) × (List Stp) × Bool, impl_ChainAutomaton.dec, fun a => [.agg [.int .i64 a.1, .imm (.I .i64 a.2.1), .imm (.I .i64 a.2.2.1), .imm (.T a.2.2.2.1)], .agg [.int .i64 a.2.2.2.2.1, .imm (.I .i64 a.2.2.2.2.2.1), .imm (.I .i64 a.2.2.2.2.2.2.1), .imm (.T a.2.2.2.2.2.2.2)]], fun a => [], fun k a => impl_ChainAutomaton.f k a.1 a.2.1 a.2.2.1 a.2.2.2.1 a.2.2.2.2.1 a.2.2.2.2.2.1 a.2.2.2.2.2.2.1 a.2.2.2.2.2.2.2, fun a r => impl_ChainAutomaton.en r, false⟩
theorem impl_ChainAutomaton.dok : impl_ChainAutomaton.tw.DecOk := by
  intro args hc a h
  have h : impl_ChainAutomaton.dec args hc = some a := h
  unfold impl_ChainAutomaton.dec at h
  split at h
  · cases h; exact ⟨rfl, rfl⟩
  · cases h
noncomputable def impl_ChainAutomaton.O (k : Nat) : Oracle := (impl_AutomatonValid.tw.orc k (impl_behind.tw.orc k (slices_Concat_impl_Step_impl_Step.tw.orc k (slices_Contains_int_int.tw.orc k (slices_Clone_int_int.tw.orc k (impl_moved.tw.orc k (impl_shared.tw.orc k (impl_made.tw.orc k (impl_ChainAutomaton_1.tw.orc k noO)))))))))
def impl_ChainAutomaton.fh : FH := ⟨fun i => match i with | 7 => some [(2, 0), (3, 0), (4, 0), (6, 0), (7, 0), (8, 0), (35, 0), (36, 0), (37, 0)] | 11 => some [(2, 0), (3, 0), (4, 0), (6, 0), (7, 0), (8, 0), (10, 0), (35, 0), (36, 0), (37, 0), (47, 0), (48, 0), (49, 0)] | _ => none, [(true, 3), (true, 3), (true, 67)], false⟩
noncomputable def impl_ChainAutomaton.x0 (k : Nat) (x6 : Int) (x35 : List Stp) (x36 : Int) (x37 : Int) (y0_0 : Int) (y0_1 : List Int) (y0_2 : List Int) (y0_3 : List Stp) (y1_0 : Int) (y1_1 : List Int) (y1_2 : List Int) (y1_3 : List Stp) (y7 : List Stp) : Option Res := R.exec Try.prog xhn impl_ChainAutomaton.O 0 Try.f31 impl_ChainAutomaton.fh k (R.point Try.f31 7) ⟨[(2, .ptr 0 0), (3, .ptr 1 0), (4, .ptr 2 0), (6, .int .i64 x6), (7, .ptr 3 0), (8, .clo 87 [.ptr 3 0]), (35, .imm (.T x35)), (36, .int .i64 x36), (37, .int .i64 x37)], [(0, .box false [.int .i64 y0_0, .imm (.I .i64 y0_1), .imm (.I .i64 y0_2), .imm (.T y0_3)]), (1, .box false [.int .i64 y1_0, .imm (.I .i64 y1_1), .imm (.I .i64 y1_2), .imm (.T y1_3)]), (2, .box false [.int .i64 0, .sl 4 0, .sl 5 0, .sl 6 0]), (3, .box false [.sl 7 0]), (4, .arr 3 0 (.I .i64 ([] : List Int)) false), (5, .arr 3 0 (.I .i64 ([] : List Int)) false), (6, .arr 67 0 (.T ([] : List Stp)) false), (7, .arr 67 0 (.T y7) false)], 10⟩
noncomputable def impl_ChainAutomaton.x1 (k : Nat) (x6 : Int) (x35 : List Stp) (x36 : Int) (x37 : Int) (x47 : List Int) (x48 : Int) (x49 : Int) (y0_0 : Int) (y0_1 : List Int) (y0_2 : List Int) (y0_3 : List Stp) (y1_0 : Int) (y1_1 : List Int) (y1_2 : List Int) (y1_3 : List Stp) (y8 : List Stp) (y4_0 : Int) (y4_1 : ByteArray) (y4_2 : Int) (y4_3 : Int) : Option Res := R.exec Try.prog xhn impl_ChainAutomaton.O 0 Try.f31 impl_ChainAutomaton.fh k (R.point Try.f31 11) ⟨[(2, .ptr 0 0), (3, .ptr 1 0), (4, .ptr 2 0), (6, .int .i64 x6), (7, .ptr 3 0), (8, .clo 87 [.ptr 3 0]), (10, .ptr 4 0), (35, .imm (.T x35)), (36, .int .i64 x36), (37, .int .i64 x37), (47, .imm (.I .i64 x47)), (48, .int .i64 x48), (49, .int .i64 x49)], [(0, .box false [.int .i64 y0_0, .imm (.I .i64 y0_1), .imm (.I .i64 y0_2), .imm (.T y0_3)]), (1, .box false [.int .i64 y1_0, .imm (.I .i64 y1_1), .imm (.I .i64 y1_2), .imm (.T y1_3)]), (2, .box false [.int .i64 0, .sl 5 0, .sl 6 0, .sl 7 0]), (3, .box false [.sl 8 0]), (4, .box false [.int .i64 y4_0, .str y4_1, .int .i64 y4_2, .int .i64 y4_3]), (5, .arr 3 0 (.I .i64 ([] : List Int)) false), (6, .arr 3 0 (.I .i64 ([] : List Int)) false), (7, .arr 67 0 (.T ([] : List Stp)) false), (8, .arr 67 0 (.T y8) false)], 11⟩
set_option maxRecDepth 100000 in
theorem impl_ChainAutomaton.e0 (k : Nat) (x6 : Int) (x35 : List Stp) (x36 : Int) (x37 : Int) (y0_0 : Int) (y0_1 : List Int) (y0_2 : List Int) (y0_3 : List Stp) (y1_0 : Int) (y1_1 : List Int) (y1_2 : List Int) (y1_3 : List Stp) (y7 : List Stp) : impl_ChainAutomaton.x0 (k + 1) x6 x35 x36 x37 y0_0 y0_1 y0_2 y0_3 y1_0 y1_1 y1_2 y1_3 y7 = (if x37 < x36 then (if 0 ≤ x37 then (if x37 < (x35.length : Int) then ((slices_Contains_int_int.f k y0_2 ((rdT x35 x37).f2)).bind fun t5 => (if t5 = true then (impl_ChainAutomaton.x1 k x6 x35 x36 x37 y1_1 (y1_1.length : Int) 0 y0_0 y0_1 y0_2 y0_3 y1_0 y1_1 y1_2 y1_3 y7 ((rdT x35 x37).f0) ((rdT x35 x37).f1) ((rdT x35 x37).f2) ((rdT x35 x37).f3)) else (impl_ChainAutomaton.x0 k x6 x35 x36 (wr64 (x37 + 1)) y0_0 y0_1 y0_2 y0_3 y1_0 y1_1 y1_2 y1_3 y7))) else none) else none) else ((slices_Clone_int_int.f y0_1).bind fun t6 => ((impl_moved.f k y1_2 x6).bind fun t7 => ((impl_shared.f k y0_1 y0_2).bind fun t8 => (if t8 = true then ((impl_moved.f k y1_1 x6).bind fun t9 => (if t6.length + t9.length ≤ 17592186044416 then ((impl_shared.f k y1_1 y1_2).bind fun t10 => (if t10 = true then (if t7.length + y0_2.length ≤ 17592186044416 then ((impl_made.f k (wr64 (x6 + y1_0)) (t6 ++ t9) (t7 ++ y0_2) y7).bind fun t11 => (some (impl_ChainAutomaton.en (t11.1, t11.2.1, t11.2.2.1, t11.2.2.2.1, t11.2.2.2.2)))) else none) else ((impl_made.f k (wr64 (x6 + y1_0)) (t6 ++ t9) t7 y7).bind fun t12 => (some (impl_ChainAutomaton.en (t12.1, t12.2.1, t12.2.2.1, t12.2.2.2.1, t12.2.2.2.2)))))) else none)) else ((impl_shared.f k y1_1 y1_2).bind fun t13 => (if t13 = true then (if t7.length + y0_2.length ≤ 17592186044416 then ((impl_made.f k (wr64 (x6 + y1_0)) t6 (t7 ++ y0_2) y7).bind fun t14 => (some (impl_ChainAutomaton.en (t14.1, t14.2.1, t14.2.2.1, t14.2.2.2.1, t14.2.2.2.2)))) else none) else ((impl_made.f k (wr64 (x6 + y1_0)) t6 t7 y7).bind fun t15 => (some (impl_ChainAutomaton.en (t15.1, t15.2.1, t15.2.2.1, t15.2.2.2.1, t15.2.2.2.2))))))))))) := by kernel_rfl
set_option maxRecDepth 100000 in
theorem impl_ChainAutomaton.e1 (k : Nat) (x6 : Int) (x35 : List Stp) (x36 : Int) (x37 : Int) (x47 : List Int) (x48 : Int) (x49 : Int) (y0_0 : Int) (y0_1 : List Int) (y0_2 : List Int) (y0_3 : List Stp) (y1_0 : Int) (y1_1 : List Int) (y1_2 : List Int) (y1_3 : List Stp) (y8 : List Stp) (y4_0 : Int) (y4_1 : ByteArray) (y4_2 : Int) (y4_3 : Int) : impl_ChainAutomaton.x1 (k + 1) x6 x35 x36 x37 x47 x48 x49 y0_0 y0_1 y0_2 y0_3 y1_0 y1_1 y1_2 y1_3 y8 y4_0 y4_1 y4_2 y4_3 = (if x49 < x48 then (if 0 ≤ x49 then (if x49 < (x47.length : Int) then ((impl_ChainAutomaton_1.f k y4_0 y4_1 (wr64 ((rdI x47 x49) + x6)) y4_3 y8).bind fun t16 => (impl_ChainAutomaton.x1 k x6 x35 x36 x37 x47 x48 (wr64 (x49 + 1)) y0_0 y0_1 y0_2 y0_3 y1_0 y1_1 y1_2 y1_3 t16 y4_0 y4_1 y4_2 y4_3)) else none) else none) else (impl_ChainAutomaton.x0 k x6 x35 x36 (wr64 (x37 + 1)) y0_0 y0_1 y0_2 y0_3 y1_0 y1_1 y1_2 y1_3 y8)) := by kernel_rfl
set_option maxRecDepth 100000 in
theorem impl_ChainAutomaton.ef (k : Nat) (a0_0 : Int) (l0_1 : List Int) (l0_2 : List Int) (l0_3 : List Stp) (a1_0 : Int) (l1_1 : List Int) (l1_2 : List Int) (l1_3 : List Stp) : R.start Try.prog xhn impl_ChainAutomaton.O 0 Try.f31 impl_ChainAutomaton.fh k [.agg [.int .i64 a0_0, .imm (.I .i64 l0_1), .imm (.I .i64 l0_2), .imm (.T l0_3)], .agg [.int .i64 a1_0, .imm (.I .i64 l1_1), .imm (.I .i64 l1_2), .imm (.T l1_3)]] [] = ((impl_AutomatonValid.f k a0_0 l0_1 l0_2 l0_3).bind fun t1 => (if t1 = true then ((impl_AutomatonValid.f k a1_0 l1_1 l1_2 l1_3).bind fun t2 => (if t2 = true then ((impl_behind.f k a1_0 l1_1 l1_2 l1_3 a0_0).bind fun t3 => ((slices_Concat_impl_Step_impl_Step.f k ([l0_3, t3])).bind fun t4 => (impl_ChainAutomaton.x0 k a0_0 l0_3 (l0_3.length : Int) 0 a0_0 l0_1 l0_2 l0_3 a1_0 l1_1 l1_2 l1_3 t4))) else (some (impl_ChainAutomaton.en (0, ([] : List Int), ([] : List Int), ([] : List Stp), false))))) else (some (impl_ChainAutomaton.en (0, ([] : List Int), ([] : List Int), ([] : List Stp), false))))) := by kernel_rfl
theorem impl_ChainAutomaton.link : ∀ k, (∀ (x6 : Int) (x35 : List Stp) (x36 : Int) (x37 : Int) (y0_0 : Int) (y0_1 : List Int) (y0_2 : List Int) (y0_3 : List Stp) (y1_0 : Int) (y1_1 : List Int) (y1_2 : List Int) (y1_3 : List Stp) (y7 : List Stp), impl_ChainAutomaton.x0 k x6 x35 x36 x37 y0_0 y0_1 y0_2 y0_3 y1_0 y1_1 y1_2 y1_3 y7 = (impl_ChainAutomaton.l0 k x6 x35 x36 x37 y0_0 y0_1 y0_2 y0_3 y1_0 y1_1 y1_2 y1_3 y7).map (impl_ChainAutomaton.en)) ∧ (∀ (x6 : Int) (x35 : List Stp) (x36 : Int) (x37 : Int) (x47 : List Int) (x48 : Int) (x49 : Int) (y0_0 : Int) (y0_1 : List Int) (y0_2 : List Int) (y0_3 : List Stp) (y1_0 : Int) (y1_1 : List Int) (y1_2 : List Int) (y1_3 : List Stp) (y8 : List Stp) (y4_0 : Int) (y4_1 : ByteArray) (y4_2 : Int) (y4_3 : Int), impl_ChainAutomaton.x1 k x6 x35 x36 x37 x47 x48 x49 y0_0 y0_1 y0_2 y0_3 y1_0 y1_1 y1_2 y1_3 y8 y4_0 y4_1 y4_2 y4_3 = (impl_ChainAutomaton.l1 k x6 x35 x36 x37 x47 x48 x49 y0_0 y0_1 y0_2 y0_3 y1_0 y1_1 y1_2 y1_3 y8 y4_0 y4_1 y4_2 y4_3).map (impl_ChainAutomaton.en))
  | 0 => ⟨fun _ _ _ _ _ _ _ _ _ _ _ _ _ => by simp only [impl_ChainAutomaton.l0, R.map_none]; rfl, fun _ _ _ _ _ _ _ _ _ _ _ _ _ _ _ _ _ _ _ _ => by simp only [impl_ChainAutomaton.l1, R.map_none]; rfl⟩
  | k + 1 => by
    obtain ⟨ih0, ih1⟩ := impl_ChainAutomaton.link k
    refine ⟨?_, ?_⟩
    · intro x6 x35 x36 x37 y0_0 y0_1 y0_2 y0_3 y1_0 y1_1 y1_2 y1_3 y7
      rw [impl_ChainAutomaton.e0]
      simp only [impl_ChainAutomaton.l0, R.map_ite, R.map_bind, R.map_none, R.map_some, R.wr64_eq, ← ih0, ← ih1]
    · intro x6 x35 x36 x37 x47 x48 x49 y0_0 y0_1 y0_2 y0_3 y1_0 y1_1 y1_2 y1_3 y8 y4_0 y4_1 y4_2 y4_3
      rw [impl_ChainAutomaton.e1]
      simp only [impl_ChainAutomaton.l1, R.map_ite, R.map_bind, R.map_none, R.map_some, R.wr64_eq, ← ih0, ← ih1]
theorem impl_ChainAutomaton.sf (k : Nat) (a0_0 : Int) (l0_1 : List Int) (l0_2 : List Int) (l0_3 : List Stp) (a1_0 : Int) (l1_1 : List Int) (l1_2 : List Int) (l1_3 : List Stp) : R.start Try.prog xhn impl_ChainAutomaton.O 0 Try.f31 impl_ChainAutomaton.fh k [.agg [.int .i64 a0_0, .imm (.I .i64 l0_1), .imm (.I .i64 l0_2), .imm (.T l0_3)], .agg [.int .i64 a1_0, .imm (.I .i64 l1_1), .imm (.I .i64 l1_2), .imm (.T l1_3)]] [] = (impl_ChainAutomaton.f k a0_0 l0_1 l0_2 l0_3 a1_0 l1_1 l1_2 l1_3).map (impl_ChainAutomaton.en) := by
  obtain ⟨ih0, ih1⟩ := impl_ChainAutomaton.link k
  rw [impl_ChainAutomaton.ef]
  simp only [impl_ChainAutomaton.f, R.map_ite, R.map_bind, R.map_none, R.map_some, R.wr64_eq, ← ih0, ← ih1]
theorem impl_ChainAutomaton.ok (k : Nat) : impl_ChainAutomaton.tw.Ok Try.prog k := by
  intro md hmd a r h
  refine fn_ok (H := xhn) (fh := impl_ChainAutomaton.fh) (O := impl_ChainAutomaton.O) (k := k) Try.func31 (by kernel_rfl) (by kernel_rfl) (fun j _ => (Tw.orc_sound impl_AutomatonValid.dok (impl_AutomatonValid.ok j) (fun _ => rfl) (Tw.orc_sound impl_behind.dok (impl_behind.ok j) (fun _ => rfl) (Tw.orc_sound slices_Concat_impl_Step_impl_Step.dok (slices_Concat_impl_Step_impl_Step.ok j) (fun q => Bool.noConfusion (show false = true from hmd q)) (Tw.orc_sound slices_Contains_int_int.dok (slices_Contains_int_int.ok j) (fun _ => rfl) (Tw.orc_sound slices_Clone_int_int.dok (slices_Clone_int_int.ok j) (fun q => Bool.noConfusion (show false = true from hmd q)) (Tw.orc_sound impl_moved.dok (impl_moved.ok j) (fun _ => rfl) (Tw.orc_sound impl_shared.dok (impl_shared.ok j) (fun _ => rfl) (Tw.orc_sound impl_made.dok (impl_made.ok j) (fun q => Bool.noConfusion (show false = true from hmd q)) (Tw.orc_sound impl_ChainAutomaton_1.dok (impl_ChainAutomaton_1.ok j) (fun _ => rfl) noO_sound)))))))))) (by kernel_rfl) (m := 0) rfl ?_
  refine (impl_ChainAutomaton.sf k a.1 a.2.1 a.2.2.1 a.2.2.2.1 a.2.2.2.2.1 a.2.2.2.2.2.1 a.2.2.2.2.2.2.1 a.2.2.2.2.2.2.2).trans ?_
  exact congrArg (Option.map _) h
def laws_eqIntS.l0 : Nat → (List Int) → (List Int) → Int → Option (Bool)
  | 0, _, _, _ => none
  | k + 1, x0, x1, x5 => (if x5 < (x0.length : Int) then (if 0 ≤ x5 then (if x5 < (x1.length : Int) then (if (rdI x0 x5) = (rdI x1 x5) then (laws_eqIntS.l0 k x0 x1 (wrap64 (x5 + 1))) else (some false)) else none) else none) else (some true))
def laws_eqIntS.f (k : Nat) (l0 : List Int) (l1 : List Int) : Option (Bool) := (if (l0.length : Int) = (l1.length : Int) then (laws_eqIntS.l0 k l0 l1 0) else (some false))
def laws_eqIntS.en (r : Bool) : Res := (.lit r, [])
def laws_eqIntS.dec : List AV → List R.Obj → Option ((List Int) × (List Int))
  | [.imm (.I .i64 l0), .imm (.I .i64 l1)], [] => some (l0, l1)
  | _, _ => none
def laws_eqIntS.tw : Tw := ⟨34, (List Int) × (List Int), Bool, laws_eqIntS.dec, fun a => [.imm (.I .i64 a.1), .imm (.I .i64 a.2)], fun a => [], fun k a => laws_eqIntS.f k a.1 a.2, fun a r => laws_eqIntS.en r, true⟩
theorem laws_eqIntS.dok : laws_eqIntS.tw.DecOk := by
  intro args hc a h
  have h : laws_eqIntS.dec args hc = some a := h
  unfold laws_eqIntS.dec at h
  split at h
  · cases h; exact ⟨rfl, rfl⟩
  · cases h
noncomputable def laws_eqIntS.O (k : Nat) : Oracle := noO
def laws_eqIntS.fh : FH := ⟨fun i => match i with | 4 => some [(0, 0), (1, 0), (5, 0)] | _ => none, [], false⟩
noncomputable def laws_eqIntS.x0 (k : Nat) (x0 : List Int) (x1 : List Int) (x5 : Int) : Option Res := R.exec Try.prog xhn laws_eqIntS.O 0 Try.f34 laws_eqIntS.fh k (R.point Try.f34 4) ⟨[(0, .imm (.I .i64 x0)), (1, .imm (.I .i64 x1)), (5, .int .i64 x5)], [], 2⟩
set_option maxRecDepth 100000 in
theorem laws_eqIntS.e0 (k : Nat) (x0 : List Int) (x1 : List Int) (x5 : Int) : laws_eqIntS.x0 (k + 1) x0 x1 x5 = (if x5 < (x0.length : Int) then (if 0 ≤ x5 then (if x5 < (x1.length : Int) then (if (rdI x0 x5) = (rdI x1 x5) then (laws_eqIntS.x0 k x0 x1 (wr64 (x5 + 1))) else (some (laws_eqIntS.en false))) else none) else none) else (some (laws_eqIntS.en true))) := by
  refine Eq.trans ?_ (R.icong (fun h0 => (R.icong (fun h1 => (R.idropT (p := x5 < (x0.length : Int)) (z := none) h0 (R.idropT (p := 0 ≤ x5) (z := none) h1 rfl))) (fun h1 => rfl))) (fun h0 => rfl))
  kernel_rfl
set_option maxRecDepth 100000 in
theorem laws_eqIntS.ef (k : Nat) (l0 : List Int) (l1 : List Int) : R.start Try.prog xhn laws_eqIntS.O 0 Try.f34 laws_eqIntS.fh k [.imm (.I .i64 l0), .imm (.I .i64 l1)] [] = (if (l0.length : Int) = (l1.length : Int) then (laws_eqIntS.x0 k l0 l1 0) else (some (laws_eqIntS.en false))) := by kernel_rfl
theorem laws_eqIntS.link : ∀ k, (∀ (x0 : List Int) (x1 : List Int) (x5 : Int), laws_eqIntS.x0 k x0 x1 x5 = (laws_eqIntS.l0 k x0 x1 x5).map (laws_eqIntS.en))
  | 0 => fun _ _ _ => by simp only [laws_eqIntS.l0, R.map_none]; rfl
  | k + 1 => by
    have ih0 := laws_eqIntS.link k
    · intro x0 x1 x5
      rw [laws_eqIntS.e0]
      simp only [laws_eqIntS.l0, R.map_ite, R.map_bind, R.map_none, R.map_some, R.wr64_eq, ← ih0]
theorem laws_eqIntS.sf (k : Nat) (l0 : List Int) (l1 : List Int) : R.start Try.prog xhn laws_eqIntS.O 0 Try.f34 laws_eqIntS.fh k [.imm (.I .i64 l0), .imm (.I .i64 l1)] [] = (laws_eqIntS.f k l0 l1).map (laws_eqIntS.en) := by
  have ih0 := laws_eqIntS.link k
  rw [laws_eqIntS.ef]
  simp only [laws_eqIntS.f, R.map_ite, R.map_bind, R.map_none, R.map_some, R.wr64_eq, ← ih0]
theorem laws_eqIntS.ok (k : Nat) : laws_eqIntS.tw.Ok Try.prog k := by
  intro md hmd a r h
  refine fn_ok (H := xhn) (fh := laws_eqIntS.fh) (O := laws_eqIntS.O) (k := k) Try.func34 (by kernel_rfl) (by kernel_rfl) (fun j _ => noO_sound) (by kernel_rfl) (m := 0) rfl ?_
  refine (laws_eqIntS.sf k a.1 a.2).trans ?_
  exact congrArg (Option.map _) h
def laws_eqStep.f (a0_0 : Int) (a0_1 : ByteArray) (a0_2 : Int) (a0_3 : Int) (a1_0 : Int) (a1_1 : ByteArray) (a1_2 : Int) (a1_3 : Int) : Option (Bool) := (if a0_0 = a1_0 then (if a0_1.toList = a1_1.toList then (if a0_2 = a1_2 then (if a0_3 = a1_3 then (some true) else (some false)) else (some false)) else (some false)) else (some false))
def laws_eqStep.en (r : Bool) : Res := (.lit r, [])
def laws_eqStep.dec : List AV → List R.Obj → Option (Int × ByteArray × Int × Int × Int × ByteArray × Int × Int)
  | [.agg [.int .i64 a0_0, .str a0_1, .int .i64 a0_2, .int .i64 a0_3], .agg [.int .i64 a1_0, .str a1_1, .int .i64 a1_2, .int .i64 a1_3]], [] => some (a0_0, a0_1, a0_2, a0_3, a1_0, a1_1, a1_2, a1_3)
  | _, _ => none
def laws_eqStep.tw : Tw := ⟨118, Int × ByteArray × Int × Int × Int × ByteArray × Int × Int, Bool, laws_eqStep.dec, fun a => [.agg [.int .i64 a.1, .str a.2.1, .int .i64 a.2.2.1, .int .i64 a.2.2.2.1], .agg [.int .i64 a.2.2.2.2.1, .str a.2.2.2.2.2.1, .int .i64 a.2.2.2.2.2.2.1, .int .i64 a.2.2.2.2.2.2.2]], fun a => [], fun k a => laws_eqStep.f a.1 a.2.1 a.2.2.1 a.2.2.2.1 a.2.2.2.2.1 a.2.2.2.2.2.1 a.2.2.2.2.2.2.1 a.2.2.2.2.2.2.2, fun a r => laws_eqStep.en r, true⟩
theorem laws_eqStep.dok : laws_eqStep.tw.DecOk := by
  intro args hc a h
  have h : laws_eqStep.dec args hc = some a := h
  unfold laws_eqStep.dec at h
  split at h
  · cases h; exact ⟨rfl, rfl⟩
  · cases h
noncomputable def laws_eqStep.O (k : Nat) : Oracle := noO
def laws_eqStep.fh : FH := ⟨fun i => match i with | _ => none, [], false⟩
set_option maxRecDepth 100000 in
theorem laws_eqStep.ef (k : Nat) (a0_0 : Int) (a0_1 : ByteArray) (a0_2 : Int) (a0_3 : Int) (a1_0 : Int) (a1_1 : ByteArray) (a1_2 : Int) (a1_3 : Int) : R.start Try.prog xhn laws_eqStep.O 0 Try.f118 laws_eqStep.fh k [.agg [.int .i64 a0_0, .str a0_1, .int .i64 a0_2, .int .i64 a0_3], .agg [.int .i64 a1_0, .str a1_1, .int .i64 a1_2, .int .i64 a1_3]] [] = (if a0_0 = a1_0 then (if a0_1.toList = a1_1.toList then (if a0_2 = a1_2 then (if a0_3 = a1_3 then (some (laws_eqStep.en true)) else (some (laws_eqStep.en false))) else (some (laws_eqStep.en false))) else (some (laws_eqStep.en false))) else (some (laws_eqStep.en false))) := by kernel_rfl
theorem laws_eqStep.sf (k : Nat) (a0_0 : Int) (a0_1 : ByteArray) (a0_2 : Int) (a0_3 : Int) (a1_0 : Int) (a1_1 : ByteArray) (a1_2 : Int) (a1_3 : Int) : R.start Try.prog xhn laws_eqStep.O 0 Try.f118 laws_eqStep.fh k [.agg [.int .i64 a0_0, .str a0_1, .int .i64 a0_2, .int .i64 a0_3], .agg [.int .i64 a1_0, .str a1_1, .int .i64 a1_2, .int .i64 a1_3]] [] = (laws_eqStep.f a0_0 a0_1 a0_2 a0_3 a1_0 a1_1 a1_2 a1_3).map (laws_eqStep.en) := by
  rw [laws_eqStep.ef]
  simp only [laws_eqStep.f, R.map_ite, R.map_bind, R.map_none, R.map_some, R.wr64_eq]
theorem laws_eqStep.ok (k : Nat) : laws_eqStep.tw.Ok Try.prog k := by
  intro md hmd a r h
  refine fn_ok (H := xhn) (fh := laws_eqStep.fh) (O := laws_eqStep.O) (k := k) Try.func118 (by kernel_rfl) (by kernel_rfl) (fun j _ => noO_sound) (by kernel_rfl) (m := 0) rfl ?_
  refine (laws_eqStep.sf k a.1 a.2.1 a.2.2.1 a.2.2.2.1 a.2.2.2.2.1 a.2.2.2.2.2.1 a.2.2.2.2.2.2.1 a.2.2.2.2.2.2.2).trans ?_
  exact congrArg (Option.map _) h
def laws_eqStepS.l0 : Nat → (List Stp) → (List Stp) → Int → Option (Bool)
  | 0, _, _, _ => none
  | k + 1, x0, x1, x5 => (if x5 < (x0.length : Int) then (if 0 ≤ x5 then (if x5 < (x1.length : Int) then ((laws_eqStep.f ((rdT x0 x5).f0) ((rdT x0 x5).f1) ((rdT x0 x5).f2) ((rdT x0 x5).f3) ((rdT x1 x5).f0) ((rdT x1 x5).f1) ((rdT x1 x5).f2) ((rdT x1 x5).f3)).bind fun t1 => (if t1 = true then (laws_eqStepS.l0 k x0 x1 (wrap64 (x5 + 1))) else (some false))) else none) else none) else (some true))
def laws_eqStepS.f (k : Nat) (l0 : List Stp) (l1 : List Stp) : Option (Bool) := (if (l0.length : Int) = (l1.length : Int) then (laws_eqStepS.l0 k l0 l1 0) else (some false))
def laws_eqStepS.en (r : Bool) : Res := (.lit r, [])
def laws_eqStepS.dec : List AV → List R.Obj → Option ((List Stp) × (List Stp))
  | [.imm (.T l0), .imm (.T l1)], [] => some (l0, l1)
  | _, _ => none
def laws_eqStepS.tw : Tw := ⟨66, (List Stp) × (List Stp), Bool, laws_eqStepS.dec, fun a => [.imm (.T a.1), .imm (.T a.2)], fun a => [], fun k a => laws_eqStepS.f k a.1 a.2, fun a r => laws_eqStepS.en r, true⟩
theorem laws_eqStepS.dok : laws_eqStepS.tw.DecOk := by
  intro args hc a h
  have h : laws_eqStepS.dec args hc = some a := h
  unfold laws_eqStepS.dec at h
  split at h
  · cases h; exact ⟨rfl, rfl⟩
  · cases h
noncomputable def laws_eqStepS.O (k : Nat) : Oracle := (laws_eqStep.tw.orc k noO)
def laws_eqStepS.fh : FH := ⟨fun i => match i with | 4 => some [(0, 0), (1, 0), (5, 0)] | _ => none, [], false⟩
noncomputable def laws_eqStepS.x0 (k : Nat) (x0 : List Stp) (x1 : List Stp) (x5 : Int) : Option Res := R.exec Try.prog xhn laws_eqStepS.O 0 Try.f66 laws_eqStepS.fh k (R.point Try.f66 4) ⟨[(0, .imm (.T x0)), (1, .imm (.T x1)), (5, .int .i64 x5)], [], 2⟩
set_option maxRecDepth 100000 in
theorem laws_eqStepS.e0 (k : Nat) (x0 : List Stp) (x1 : List Stp) (x5 : Int) : laws_eqStepS.x0 (k + 1) x0 x1 x5 = (if x5 < (x0.length : Int) then (if 0 ≤ x5 then (if x5 < (x1.length : Int) then ((laws_eqStep.f ((rdT x0 x5).f0) ((rdT x0 x5).f1) ((rdT x0 x5).f2) ((rdT x0 x5).f3) ((rdT x1 x5).f0) ((rdT x1 x5).f1) ((rdT x1 x5).f2) ((rdT x1 x5).f3)).bind fun t1 => (if t1 = true then (laws_eqStepS.x0 k x0 x1 (wr64 (x5 + 1))) else (some (laws_eqStepS.en false)))) else none) else none) else (some (laws_eqStepS.en true))) := by
  refine Eq.trans ?_ (R.icong (fun h0 => (R.icong (fun h1 => (R.idropT (p := x5 < (x0.length : Int)) (z := none) h0 (R.idropT (p := 0 ≤ x5) (z := none) h1 rfl))) (fun h1 => rfl))) (fun h0 => rfl))
  kernel_rfl
set_option maxRecDepth 100000 in
theorem laws_eqStepS.ef (k : Nat) (l0 : List Stp) (l1 : List Stp) : R.start Try.prog xhn laws_eqStepS.O 0 Try.f66 laws_eqStepS.fh k [.imm (.T l0), .imm (.T l1)] [] = (if (l0.length : Int) = (l1.length : Int) then (laws_eqStepS.x0 k l0 l1 0) else (some (laws_eqStepS.en false))) := by kernel_rfl
theorem laws_eqStepS.link : ∀ k, (∀ (x0 : List Stp) (x1 : List Stp) (x5 : Int), laws_eqStepS.x0 k x0 x1 x5 = (laws_eqStepS.l0 k x0 x1 x5).map (laws_eqStepS.en))
  | 0 => fun _ _ _ => by simp only [laws_eqStepS.l0, R.map_none]; rfl
  | k + 1 => by
    have ih0 := laws_eqStepS.link k
    · intro x0 x1 x5
      rw [laws_eqStepS.e0]
      simp only [laws_eqStepS.l0, R.map_ite, R.map_bind, R.map_none, R.map_some, R.wr64_eq, ← ih0]
theorem laws_eqStepS.sf (k : Nat) (l0 : List Stp) (l1 : List Stp) : R.start Try.prog xhn laws_eqStepS.O 0 Try.f66 laws_eqStepS.fh k [.imm (.T l0), .imm (.T l1)] [] = (laws_eqStepS.f k l0 l1).map (laws_eqStepS.en) := by
  have ih0 := laws_eqStepS.link k
  rw [laws_eqStepS.ef]
  simp only [laws_eqStepS.f, R.map_ite, R.map_bind, R.map_none, R.map_some, R.wr64_eq, ← ih0]
theorem laws_eqStepS.ok (k : Nat) : laws_eqStepS.tw.Ok Try.prog k := by
  intro md hmd a r h
  refine fn_ok (H := xhn) (fh := laws_eqStepS.fh) (O := laws_eqStepS.O) (k := k) Try.func66 (by kernel_rfl) (by kernel_rfl) (fun j _ => (Tw.orc_sound laws_eqStep.dok (laws_eqStep.ok j) (fun _ => rfl) noO_sound)) (by kernel_rfl) (m := 0) rfl ?_
  refine (laws_eqStepS.sf k a.1 a.2).trans ?_
  exact congrArg (Option.map _) h
def laws_eqAutomaton.f (k : Nat) (a0_0 : Int) (l0_1 : List Int) (l0_2 : List Int) (l0_3 : List Stp) (a1_0 : Int) (l1_1 : List Int) (l1_2 : List Int) (l1_3 : List Stp) : Option (Bool) := (if a0_0 = a1_0 then ((laws_eqIntS.f k l0_1 l1_1).bind fun t1 => (if t1 = true then ((laws_eqIntS.f k l0_2 l1_2).bind fun t2 => (if t2 = true then ((laws_eqStepS.f k l0_3 l1_3).bind fun t3 => (if t3 = true then (some true) else (some false))) else (some false))) else (some false))) else (some false))
def laws_eqAutomaton.en (r : Bool) : Res := (.lit r, [])
def laws_eqAutomaton.dec : List AV → List R.Obj → Option (Int × (List Int) × (List Int) × (List Stp) × Int × (List Int) × (List Int) × (List Stp))
  | [.agg [.int .i64 a0_0, .imm (.I .i64 l0_1), .imm (.I .i64 l0_2), .imm (.T l0_3)], .agg [.int .i64 a1_0, .imm (.I .i64 l1_1), .imm (.I .i64 l1_2), .imm (.T l1_3)]], [] => some (a0_0, l0_1, l0_2, l0_3, a1_0, l1_1, l1_2, l1_3)
  | _, _ => none
def laws_eqAutomaton.tw : Tw := ⟨19, Int × (List Int) × (List Int) × (List Stp) × Int × (List Int) × (List Int) × (List Stp), Bool, laws_eqAutomaton.dec, fun a => [.agg [.int .i64 a.1, .imm (.I .i64 a.2.1), .imm (.I .i64 a.2.2.1), .imm (.T a.2.2.2.1)], .agg [.int .i64 a.2.2.2.2.1, .imm (.I .i64 a.2.2.2.2.2.1), .imm (.I .i64 a.2.2.2.2.2.2.1), .imm (.T a.2.2.2.2.2.2.2)]], fun a => [], fun k a => laws_eqAutomaton.f k a.1 a.2.1 a.2.2.1 a.2.2.2.1 a.2.2.2.2.1 a.2.2.2.2.2.1 a.2.2.2.2.2.2.1 a.2.2.2.2.2.2.2, fun a r => laws_eqAutomaton.en r, true⟩
theorem laws_eqAutomaton.dok : laws_eqAutomaton.tw.DecOk := by
  intro args hc a h
  have h : laws_eqAutomaton.dec args hc = some a := h
  unfold laws_eqAutomaton.dec at h
  split at h
  · cases h; exact ⟨rfl, rfl⟩
  · cases h
noncomputable def laws_eqAutomaton.O (k : Nat) : Oracle := (laws_eqIntS.tw.orc k (laws_eqStepS.tw.orc k noO))
def laws_eqAutomaton.fh : FH := ⟨fun i => match i with | _ => none, [], false⟩
set_option maxRecDepth 100000 in
theorem laws_eqAutomaton.ef (k : Nat) (a0_0 : Int) (l0_1 : List Int) (l0_2 : List Int) (l0_3 : List Stp) (a1_0 : Int) (l1_1 : List Int) (l1_2 : List Int) (l1_3 : List Stp) : R.start Try.prog xhn laws_eqAutomaton.O 0 Try.f19 laws_eqAutomaton.fh k [.agg [.int .i64 a0_0, .imm (.I .i64 l0_1), .imm (.I .i64 l0_2), .imm (.T l0_3)], .agg [.int .i64 a1_0, .imm (.I .i64 l1_1), .imm (.I .i64 l1_2), .imm (.T l1_3)]] [] = (if a0_0 = a1_0 then ((laws_eqIntS.f k l0_1 l1_1).bind fun t1 => (if t1 = true then ((laws_eqIntS.f k l0_2 l1_2).bind fun t2 => (if t2 = true then ((laws_eqStepS.f k l0_3 l1_3).bind fun t3 => (if t3 = true then (some (laws_eqAutomaton.en true)) else (some (laws_eqAutomaton.en false)))) else (some (laws_eqAutomaton.en false)))) else (some (laws_eqAutomaton.en false)))) else (some (laws_eqAutomaton.en false))) := by kernel_rfl
theorem laws_eqAutomaton.sf (k : Nat) (a0_0 : Int) (l0_1 : List Int) (l0_2 : List Int) (l0_3 : List Stp) (a1_0 : Int) (l1_1 : List Int) (l1_2 : List Int) (l1_3 : List Stp) : R.start Try.prog xhn laws_eqAutomaton.O 0 Try.f19 laws_eqAutomaton.fh k [.agg [.int .i64 a0_0, .imm (.I .i64 l0_1), .imm (.I .i64 l0_2), .imm (.T l0_3)], .agg [.int .i64 a1_0, .imm (.I .i64 l1_1), .imm (.I .i64 l1_2), .imm (.T l1_3)]] [] = (laws_eqAutomaton.f k a0_0 l0_1 l0_2 l0_3 a1_0 l1_1 l1_2 l1_3).map (laws_eqAutomaton.en) := by
  rw [laws_eqAutomaton.ef]
  simp only [laws_eqAutomaton.f, R.map_ite, R.map_bind, R.map_none, R.map_some, R.wr64_eq]
theorem laws_eqAutomaton.ok (k : Nat) : laws_eqAutomaton.tw.Ok Try.prog k := by
  intro md hmd a r h
  refine fn_ok (H := xhn) (fh := laws_eqAutomaton.fh) (O := laws_eqAutomaton.O) (k := k) Try.func19 (by kernel_rfl) (by kernel_rfl) (fun j _ => (Tw.orc_sound laws_eqIntS.dok (laws_eqIntS.ok j) (fun _ => rfl) (Tw.orc_sound laws_eqStepS.dok (laws_eqStepS.ok j) (fun _ => rfl) noO_sound))) (by kernel_rfl) (m := 0) rfl ?_
  refine (laws_eqAutomaton.sf k a.1 a.2.1 a.2.2.1 a.2.2.2.1 a.2.2.2.2.1 a.2.2.2.2.2.1 a.2.2.2.2.2.2.1 a.2.2.2.2.2.2.2).trans ?_
  exact congrArg (Option.map _) h
def laws_markIntS.l0 : Nat → (List Int) → Int → Int → Option (Int × (List Int))
  | 0, _, _, _ => none
  | k + 1, y0, x1, x5 => (if x5 < (y0.length : Int) then (if 0 ≤ x5 then (laws_markIntS.l0 k (y0.set x5.toNat x1) (wrap64 (x1 + 1)) (wrap64 (x5 + 1))) else none) else (some (x1, y0)))
def laws_markIntS.f (k : Nat) (l2 : List Int) (a1 : Int) : Option (Int × (List Int)) := (laws_markIntS.l0 k l2 a1 0)
def laws_markIntS.en (r : Int × (List Int)) : Res := (.int .i64 r.1, [.arr 3 0 (.I .i64 r.2) false])
def laws_markIntS.dec : List AV → List R.Obj → Option ((List Int) × Int)
  | [.sl 0 0, .int .i64 a1], [.arr 3 0 (.I .i64 l2) false] => some (l2, a1)
  | _, _ => none
def laws_markIntS.tw : Tw := ⟨35, (List Int) × Int, Int × (List Int), laws_markIntS.dec, fun a => [.sl 0 0, .int .i64 a.2], fun a => [.arr 3 0 (.I .i64 a.1) false], fun k a => laws_markIntS.f k a.1 a.2, fun a r => laws_markIntS.en r, true⟩
theorem laws_markIntS.dok : laws_markIntS.tw.DecOk := by
  intro args hc a h
  have h : laws_markIntS.dec args hc = some a := h
  unfold laws_markIntS.dec at h
  split at h
  · cases h; exact ⟨rfl, rfl⟩
  · cases h
noncomputable def laws_markIntS.O (k : Nat) : Oracle := noO
def laws_markIntS.fh : FH := ⟨fun i => match i with | 2 => some [(0, 0), (1, 0), (5, 0)] | _ => none, [], false⟩
noncomputable def laws_markIntS.x0 (k : Nat) (y0 : List Int) (x1 : Int) (x5 : Int) : Option Res := R.exec Try.prog xhn laws_markIntS.O 1 Try.f35 laws_markIntS.fh k (R.point Try.f35 2) ⟨[(0, .sl 0 0), (1, .int .i64 x1), (5, .int .i64 x5)], [(0, .arr 3 0 (.I .i64 y0) false)], 3⟩
set_option maxRecDepth 100000 in
theorem laws_markIntS.e0 (k : Nat) (y0 : List Int) (x1 : Int) (x5 : Int) : laws_markIntS.x0 (k + 1) y0 x1 x5 = (if x5 < (y0.length : Int) then (if 0 ≤ x5 then (laws_markIntS.x0 k (y0.set x5.toNat x1) (wr64 (x1 + 1)) (wr64 (x5 + 1))) else none) else (some (laws_markIntS.en (x1, y0)))) := by
  refine Eq.trans ?_ (R.icong (fun h0 => (R.icong (fun h1 => (R.idropT (p := x5 < (y0.length : Int)) (z := none) h0 rfl)) (fun h1 => rfl))) (fun h0 => rfl))
  kernel_rfl
set_option maxRecDepth 100000 in
theorem laws_markIntS.ef (k : Nat) (l2 : List Int) (a1 : Int) : R.start Try.prog xhn laws_markIntS.O 1 Try.f35 laws_markIntS.fh k [.sl 0 0, .int .i64 a1] [.arr 3 0 (.I .i64 l2) false] = (laws_markIntS.x0 k l2 a1 0) := by kernel_rfl
theorem laws_markIntS.link : ∀ k, (∀ (y0 : List Int) (x1 : Int) (x5 : Int), laws_markIntS.x0 k y0 x1 x5 = (laws_markIntS.l0 k y0 x1 x5).map (laws_markIntS.en))
  | 0 => fun _ _ _ => by simp only [laws_markIntS.l0, R.map_none]; rfl
  | k + 1 => by
    have ih0 := laws_markIntS.link k
    · intro y0 x1 x5
      rw [laws_markIntS.e0]
      simp only [laws_markIntS.l0, R.map_ite, R.map_bind, R.map_none, R.map_some, R.wr64_eq, ← ih0]
theorem laws_markIntS.sf (k : Nat) (l2 : List Int) (a1 : Int) : R.start Try.prog xhn laws_markIntS.O 1 Try.f35 laws_markIntS.fh k [.sl 0 0, .int .i64 a1] [.arr 3 0 (.I .i64 l2) false] = (laws_markIntS.f k l2 a1).map (laws_markIntS.en) := by
  have ih0 := laws_markIntS.link k
  rw [laws_markIntS.ef]
  simp only [laws_markIntS.f, R.map_ite, R.map_bind, R.map_none, R.map_some, R.wr64_eq, ← ih0]
theorem laws_markIntS.ok (k : Nat) : laws_markIntS.tw.Ok Try.prog k := by
  intro md hmd a r h
  refine fn_ok (H := xhn) (fh := laws_markIntS.fh) (O := laws_markIntS.O) (k := k) Try.func35 (by kernel_rfl) (by kernel_rfl) (fun j _ => noO_sound) (by kernel_rfl) (m := 1) rfl ?_
  refine (laws_markIntS.sf k a.1 a.2).trans ?_
  exact congrArg (Option.map _) h
def laws_markText.l0 : Nat → Int → ByteArray → Option (ByteArray)
  | 0, _, _ => none
  | k + 1, x0, x3 => (if x0 > 0 then (if (strOfNums [(((wrap64 (48 + (x0.tmod 10)))) % 256)]).size + x3.size ≤ 9223372036854775807 then (laws_markText.l0 k (wrap64 (x0.tdiv 10)) ((strOfNums [(((wrap64 (48 + (x0.tmod 10)))) % 256)]) ++ x3)) else none) else (if 1 + x3.size ≤ 9223372036854775807 then (some ((⟨#[109]⟩ : ByteArray) ++ x3)) else none))
def laws_markText.f (k : Nat) (a0 : Int) : Option (ByteArray) := (if a0 ≤ 0 then (some (⟨#[109, 48]⟩ : ByteArray)) else (laws_markText.l0 k a0 (⟨#[]⟩ : ByteArray)))
def laws_markText.en (r : ByteArray) : Res := (.str r, [])
def laws_markText.dec : List AV → List R.Obj → Option (Int)
  | [.int .i64 a0], [] => some a0
  | _, _ => none
def laws_markText.tw : Tw := ⟨119, Int, ByteArray, laws_markText.dec, fun a => [.int .i64 a], fun a => [], fun k a => laws_markText.f k a, fun a r => laws_markText.en r, true⟩
theorem laws_markText.dok : laws_markText.tw.DecOk := by
  intro args hc a h
  have h : laws_markText.dec args hc = some a := h
  unfold laws_markText.dec at h
  split at h
  · cases h; exact ⟨rfl, rfl⟩
  · cases h
noncomputable def laws_markText.O (k : Nat) : Oracle := noO
def laws_markText.fh : FH := ⟨fun i => match i with | 4 => some [(0, 0), (3, 0)] | _ => none, [], false⟩
noncomputable def laws_markText.x0 (k : Nat) (x0 : Int) (x3 : ByteArray) : Option Res := R.exec Try.prog xhn laws_markText.O 0 Try.f119 laws_markText.fh k (R.point Try.f119 4) ⟨[(0, .int .i64 x0), (3, .str x3)], [], 2⟩
set_option maxRecDepth 100000 in
theorem laws_markText.e0 (k : Nat) (x0 : Int) (x3 : ByteArray) : laws_markText.x0 (k + 1) x0 x3 = (if x0 > 0 then (if (strOfNums [(((wr64 (48 + (x0.tmod 10)))) % 256)]).size + x3.size ≤ 9223372036854775807 then (laws_markText.x0 k (wr64 (x0.tdiv 10)) ((strOfNums [(((wr64 (48 + (x0.tmod 10)))) % 256)]) ++ x3)) else none) else (if 1 + x3.size ≤ 9223372036854775807 then (some (laws_markText.en ((⟨#[109]⟩ : ByteArray) ++ x3))) else none)) := by kernel_rfl
set_option maxRecDepth 100000 in
theorem laws_markText.ef (k : Nat) (a0 : Int) : R.start Try.prog xhn laws_markText.O 0 Try.f119 laws_markText.fh k [.int .i64 a0] [] = (if a0 ≤ 0 then (some (laws_markText.en (⟨#[109, 48]⟩ : ByteArray))) else (laws_markText.x0 k a0 (⟨#[]⟩ : ByteArray))) := by kernel_rfl
theorem laws_markText.link : ∀ k, (∀ (x0 : Int) (x3 : ByteArray), laws_markText.x0 k x0 x3 = (laws_markText.l0 k x0 x3).map (laws_markText.en))
  | 0 => fun _ _ => by simp only [laws_markText.l0, R.map_none]; rfl
  | k + 1 => by
    have ih0 := laws_markText.link k
    · intro x0 x3
      rw [laws_markText.e0]
      simp only [laws_markText.l0, R.map_ite, R.map_bind, R.map_none, R.map_some, R.wr64_eq, ← ih0]
theorem laws_markText.sf (k : Nat) (a0 : Int) : R.start Try.prog xhn laws_markText.O 0 Try.f119 laws_markText.fh k [.int .i64 a0] [] = (laws_markText.f k a0).map (laws_markText.en) := by
  have ih0 := laws_markText.link k
  rw [laws_markText.ef]
  simp only [laws_markText.f, R.map_ite, R.map_bind, R.map_none, R.map_some, R.wr64_eq, ← ih0]
theorem laws_markText.ok (k : Nat) : laws_markText.tw.Ok Try.prog k := by
  intro md hmd a r h
  refine fn_ok (H := xhn) (fh := laws_markText.fh) (O := laws_markText.O) (k := k) Try.func119 (by kernel_rfl) (by kernel_rfl) (fun j _ => noO_sound) (by kernel_rfl) (m := 0) rfl ?_
  refine (laws_markText.sf k a).trans ?_
  exact congrArg (Option.map _) h
def laws_markStepS.l0 : Nat → (List Stp) → Int → Int → Option (Int × (List Stp))
  | 0, _, _, _ => none
  | k + 1, y0, x1, x5 => (if x5 < (y0.length : Int) then (if 0 ≤ x5 then ((laws_markText.f k (wrap64 (x1 + 1))).bind fun t1 => (if x5 < ((y0.set x5.toNat (⟨x1, (rdT y0 x5).f1, (rdT y0 x5).f2, (rdT y0 x5).f3⟩ : Stp)).length : Int) then (if x5 < (((y0.set x5.toNat (⟨x1, (rdT y0 x5).f1, (rdT y0 x5).f2, (rdT y0 x5).f3⟩ : Stp)).set x5.toNat (⟨(rdT (y0.set x5.toNat (⟨x1, (rdT y0 x5).f1, (rdT y0 x5).f2, (rdT y0 x5).f3⟩ : Stp)) x5).f0, t1, (rdT (y0.set x5.toNat (⟨x1, (rdT y0 x5).f1, (rdT y0 x5).f2, (rdT y0 x5).f3⟩ : Stp)) x5).f2, (rdT (y0.set x5.toNat (⟨x1, (rdT y0 x5).f1, (rdT y0 x5).f2, (rdT y0 x5).f3⟩ : Stp)) x5).f3⟩ : Stp)).length : Int) then (if x5 < ((((y0.set x5.toNat (⟨x1, (rdT y0 x5).f1, (rdT y0 x5).f2, (rdT y0 x5).f3⟩ : Stp)).set x5.toNat (⟨(rdT (y0.set x5.toNat (⟨x1, (rdT y0 x5).f1, (rdT y0 x5).f2, (rdT y0 x5).f3⟩ : Stp)) x5).f0, t1, (rdT (y0.set x5.toNat (⟨x1, (rdT y0 x5).f1, (rdT y0 x5).f2, (rdT y0 x5).f3⟩ : Stp)) x5).f2, (rdT (y0.set x5.toNat (⟨x1, (rdT y0 x5).f1, (rdT y0 x5).f2, (rdT y0 x5).f3⟩ : Stp)) x5).f3⟩ : Stp)).set x5.toNat (⟨(rdT ((y0.set x5.toNat (⟨x1, (rdT y0 x5).f1, (rdT y0 x5).f2, (rdT y0 x5).f3⟩ : Stp)).set x5.toNat (⟨(rdT (y0.set x5.toNat (⟨x1, (rdT y0 x5).f1, (rdT y0 x5).f2, (rdT y0 x5).f3⟩ : Stp)) x5).f0, t1, (rdT (y0.set x5.toNat (⟨x1, (rdT y0 x5).f1, (rdT y0 x5).f2, (rdT y0 x5).f3⟩ : Stp)) x5).f2, (rdT (y0.set x5.toNat (⟨x1, (rdT y0 x5).f1, (rdT y0 x5).f2, (rdT y0 x5).f3⟩ : Stp)) x5).f3⟩ : Stp)) x5).f0, (rdT ((y0.set x5.toNat (⟨x1, (rdT y0 x5).f1, (rdT y0 x5).f2, (rdT y0 x5).f3⟩ : Stp)).set x5.toNat (⟨(rdT (y0.set x5.toNat (⟨x1, (rdT y0 x5).f1, (rdT y0 x5).f2, (rdT y0 x5).f3⟩ : Stp)) x5).f0, t1, (rdT (y0.set x5.toNat (⟨x1, (rdT y0 x5).f1, (rdT y0 x5).f2, (rdT y0 x5).f3⟩ : Stp)) x5).f2, (rdT (y0.set x5.toNat (⟨x1, (rdT y0 x5).f1, (rdT y0 x5).f2, (rdT y0 x5).f3⟩ : Stp)) x5).f3⟩ : Stp)) x5).f1, (wrap64 ((wrap64 (x1 + 1)) + 1)), (rdT ((y0.set x5.toNat (⟨x1, (rdT y0 x5).f1, (rdT y0 x5).f2, (rdT y0 x5).f3⟩ : Stp)).set x5.toNat (⟨(rdT (y0.set x5.toNat (⟨x1, (rdT y0 x5).f1, (rdT y0 x5).f2, (rdT y0 x5).f3⟩ : Stp)) x5).f0, t1, (rdT (y0.set x5.toNat (⟨x1, (rdT y0 x5).f1, (rdT y0 x5).f2, (rdT y0 x5).f3⟩ : Stp)) x5).f2, (rdT (y0.set x5.toNat (⟨x1, (rdT y0 x5).f1, (rdT y0 x5).f2, (rdT y0 x5).f3⟩ : Stp)) x5).f3⟩ : Stp)) x5).f3⟩ : Stp)).length : Int) then (laws_markStepS.l0 k ((((y0.set x5.toNat (⟨x1, (rdT y0 x5).f1, (rdT y0 x5).f2, (rdT y0 x5).f3⟩ : Stp)).set x5.toNat (⟨(rdT (y0.set x5.toNat (⟨x1, (rdT y0 x5).f1, (rdT y0 x5).f2, (rdT y0 x5).f3⟩ : Stp)) x5).f0, t1, (rdT (y0.set x5.toNat (⟨x1, (rdT y0 x5).f1, (rdT y0 x5).f2, (rdT y0 x5).f3⟩ : Stp)) x5).f2, (rdT (y0.set x5.toNat (⟨x1, (rdT y0 x5).f1, (rdT y0 x5).f2, (rdT y0 x5).f3⟩ : Stp)) x5).f3⟩ : Stp)).set x5.toNat (⟨(rdT ((y0.set x5.toNat (⟨x1, (rdT y0 x5).f1, (rdT y0 x5).f2, (rdT y0 x5).f3⟩ : Stp)).set x5.toNat (⟨(rdT (y0.set x5.toNat (⟨x1, (rdT y0 x5).f1, (rdT y0 x5).f2, (rdT y0 x5).f3⟩ : Stp)) x5).f0, t1, (rdT (y0.set x5.toNat (⟨x1, (rdT y0 x5).f1, (rdT y0 x5).f2, (rdT y0 x5).f3⟩ : Stp)) x5).f2, (rdT (y0.set x5.toNat (⟨x1, (rdT y0 x5).f1, (rdT y0 x5).f2, (rdT y0 x5).f3⟩ : Stp)) x5).f3⟩ : Stp)) x5).f0, (rdT ((y0.set x5.toNat (⟨x1, (rdT y0 x5).f1, (rdT y0 x5).f2, (rdT y0 x5).f3⟩ : Stp)).set x5.toNat (⟨(rdT (y0.set x5.toNat (⟨x1, (rdT y0 x5).f1, (rdT y0 x5).f2, (rdT y0 x5).f3⟩ : Stp)) x5).f0, t1, (rdT (y0.set x5.toNat (⟨x1, (rdT y0 x5).f1, (rdT y0 x5).f2, (rdT y0 x5).f3⟩ : Stp)) x5).f2, (rdT (y0.set x5.toNat (⟨x1, (rdT y0 x5).f1, (rdT y0 x5).f2, (rdT y0 x5).f3⟩ : Stp)) x5).f3⟩ : Stp)) x5).f1, (wrap64 ((wrap64 (x1 + 1)) + 1)), (rdT ((y0.set x5.toNat (⟨x1, (rdT y0 x5).f1, (rdT y0 x5).f2, (rdT y0 x5).f3⟩ : Stp)).set x5.toNat (⟨(rdT (y0.set x5.toNat (⟨x1, (rdT y0 x5).f1, (rdT y0 x5).f2, (rdT y0 x5).f3⟩ : Stp)) x5).f0, t1, (rdT (y0.set x5.toNat (⟨x1, (rdT y0 x5).f1, (rdT y0 x5).f2, (rdT y0 x5).f3⟩ : Stp)) x5).f2, (rdT (y0.set x5.toNat (⟨x1, (rdT y0 x5).f1, (rdT y0 x5).f2, (rdT y0 x5).f3⟩ : Stp)) x5).f3⟩ : Stp)) x5).f3⟩ : Stp)).set x5.toNat (⟨(rdT (((y0.set x5.toNat (⟨x1, (rdT y0 x5).f1, (rdT y0 x5).f2, (rdT y0 x5).f3⟩ : Stp)).set x5.toNat (⟨(rdT (y0.set x5.toNat (⟨x1, (rdT y0 x5).f1, (rdT y0 x5).f2, (rdT y0 x5).f3⟩ : Stp)) x5).f0, t1, (rdT (y0.set x5.toNat (⟨x1, (rdT y0 x5).f1, (rdT y0 x5).f2, (rdT y0 x5).f3⟩ : Stp)) x5).f2, (rdT (y0.set x5.toNat (⟨x1, (rdT y0 x5).f1, (rdT y0 x5).f2, (rdT y0 x5).f3⟩ : Stp)) x5).f3⟩ : Stp)).set x5.toNat (⟨(rdT ((y0.set x5.toNat (⟨x1, (rdT y0 x5).f1, (rdT y0 x5).f2, (rdT y0 x5).f3⟩ : Stp)).set x5.toNat (⟨(rdT (y0.set x5.toNat (⟨x1, (rdT y0 x5).f1, (rdT y0 x5).f2, (rdT y0 x5).f3⟩ : Stp)) x5).f0, t1, (rdT (y0.set x5.toNat (⟨x1, (rdT y0 x5).f1, (rdT y0 x5).f2, (rdT y0 x5).f3⟩ : Stp)) x5).f2, (rdT (y0.set x5.toNat (⟨x1, (rdT y0 x5).f1, (rdT y0 x5).f2, (rdT y0 x5).f3⟩ : Stp)) x5).f3⟩ : Stp)) x5).f0, (rdT ((y0.set x5.toNat (⟨x1, (rdT y0 x5).f1, (rdT y0 x5).f2, (rdT y0 x5).f3⟩ : Stp)).set x5.toNat (⟨(rdT (y0.set x5.toNat (⟨x1, (rdT y0 x5).f1, (rdT y0 x5).f2, (rdT y0 x5).f3⟩ : Stp)) x5).f0, t1, (rdT (y0.set x5.toNat (⟨x1, (rdT y0 x5).f1, (rdT y0 x5).f2, (rdT y0 x5).f3⟩ : Stp)) x5).f2, (rdT (y0.set x5.toNat (⟨x1, (rdT y0 x5).f1, (rdT y0 x5).f2, (rdT y0 x5).f3⟩ : Stp)) x5).f3⟩ : Stp)) x5).f1, (wrap64 ((wrap64 (x1 + 1)) + 1)), (rdT ((y0.set x5.toNat (⟨x1, (rdT y0 x5).f1, (rdT y0 x5).f2, (rdT y0 x5).f3⟩ : Stp)).set x5.toNat (⟨(rdT (y0.set x5.toNat (⟨x1, (rdT y0 x5).f1, (rdT y0 x5).f2, (rdT y0 x5).f3⟩ : Stp)) x5).f0, t1, (rdT (y0.set x5.toNat (⟨x1, (rdT y0 x5).f1, (rdT y0 x5).f2, (rdT y0 x5).f3⟩ : Stp)) x5).f2, (rdT (y0.set x5.toNat (⟨x1, (rdT y0 x5).f1, (rdT y0 x5).f2, (rdT y0 x5).f3⟩ : Stp)) x5).f3⟩ : Stp)) x5).f3⟩ : Stp)) x5).f0, (rdT (((y0.set x5.toNat (⟨x1, (rdT y0 x5).f1, (rdT y0 x5).f2, (rdT y0 x5).f3⟩ : Stp)).set x5.toNat (⟨(rdT (y0.set x5.toNat (⟨x1, (rdT y0 x5).f1, (rdT y0 x5).f2, (rdT y0 x5).f3⟩ : Stp)) x5).f0, t1, (rdT (y0.set x5.toNat (⟨x1, (rdT y0 x5).f1, (rdT y0 x5).f2, (rdT y0 x5).f3⟩ : Stp)) x5).f2, (rdT (y0.set x5.toNat (⟨x1, (rdT y0 x5).f1, (rdT y0 x5).f2, (rdT y0 x5).f3⟩ : Stp)) x5).f3⟩ : Stp)).set x5.toNat (⟨(rdT ((y0.set x5.toNat (⟨x1, (rdT y0 x5).f1, (rdT y0 x5).f2, (rdT y0 x5).f3⟩ : Stp)).set x5.toNat (⟨(rdT (y0.set x5.toNat (⟨x1, (rdT y0 x5).f1, (rdT y0 x5).f2, (rdT y0 x5).f3⟩ : Stp)) x5).f0, t1, (rdT (y0.set x5.toNat (⟨x1, (rdT y0 x5).f1, (rdT y0 x5).f2, (rdT y0 x5).f3⟩ : Stp)) x5).f2, (rdT (y0.set x5.toNat (⟨x1, (rdT y0 x5).f1, (rdT y0 x5).f2, (rdT y0 x5).f3⟩ : Stp)) x5).f3⟩ : Stp)) x5).f0, (rdT ((y0.set x5.toNat (⟨x1, (rdT y0 x5).f1, (rdT y0 x5).f2, (rdT y0 x5).f3⟩ : Stp)).set x5.toNat (⟨(rdT (y0.set x5.toNat (⟨x1, (rdT y0 x5).f1, (rdT y0 x5).f2, (rdT y0 x5).f3⟩ : Stp)) x5).f0, t1, (rdT (y0.set x5.toNat (⟨x1, (rdT y0 x5).f1, (rdT y0 x5).f2, (rdT y0 x5).f3⟩ : Stp)) x5).f2, (rdT (y0.set x5.toNat (⟨x1, (rdT y0 x5).f1, (rdT y0 x5).f2, (rdT y0 x5).f3⟩ : Stp)) x5).f3⟩ : Stp)) x5).f1, (wrap64 ((wrap64 (x1 + 1)) + 1)), (rdT ((y0.set x5.toNat (⟨x1, (rdT y0 x5).f1, (rdT y0 x5).f2, (rdT y0 x5).f3⟩ : Stp)).set x5.toNat (⟨(rdT (y0.set x5.toNat (⟨x1, (rdT y0 x5).f1, (rdT y0 x5).f2, (rdT y0 x5).f3⟩ : Stp)) x5).f0, t1, (rdT (y0.set x5.toNat (⟨x1, (rdT y0 x5).f1, (rdT y0 x5).f2, (rdT y0 x5).f3⟩ : Stp)) x5).f2, (rdT (y0.set x5.toNat (⟨x1, (rdT y0 x5).f1, (rdT y0 x5).f2, (rdT y0 x5).f3⟩ : Stp)) x5).f3⟩ : Stp)) x5).f3⟩ : Stp)) x5).f1, (rdT (((y0.set x5.toNat (⟨x1, (rdT y0 x5).f1, (rdT y0 x5).f2, (rdT y0 x5).f3⟩ : Stp)).set x5.toNat (⟨(rdT (y0.set x5.toNat (⟨x1, (rdT y0 x5).f1, (rdT y0 x5).f2, (rdT y0 x5).f3⟩ : Stp)) x5).f0, t1, (rdT (y0.set x5.toNat (⟨x1, (rdT y0 x5).f1, (rdT y0 x5).f2, (rdT y0 x5).f3⟩ : Stp)) x5).f2, (rdT (y0.set x5.toNat (⟨x1, (rdT y0 x5).f1, (rdT y0 x5).f2, (rdT y0 x5).f3⟩ : Stp)) x5).f3⟩ : Stp)).set x5.toNat (⟨(rdT ((y0.set x5.toNat (⟨x1, (rdT y0 x5).f1, (rdT y0 x5).f2, (rdT y0 x5).f3⟩ : Stp)).set x5.toNat (⟨(rdT (y0.set x5.toNat (⟨x1, (rdT y0 x5).f1, (rdT y0 x5).f2, (rdT y0 x5).f3⟩ : Stp)) x5).f0, t1, (rdT (y0.set x5.toNat (⟨x1, (rdT y0 x5).f1, (rdT y0 x5).f2, (rdT y0 x5).f3⟩ : Stp)) x5).f2, (rdT (y0.set x5.toNat (⟨x1, (rdT y0 x5).f1, (rdT y0 x5).f2, (rdT y0 x5).f3⟩ : Stp)) x5).f3⟩ : Stp)) x5).f0, (rdT ((y0.set x5.toNat (⟨x1, (rdT y0 x5).f1, (rdT y0 x5).f2, (rdT y0 x5).f3⟩ : Stp)).set x5.toNat (⟨(rdT (y0.set x5.toNat (⟨x1, (rdT y0 x5).f1, (rdT y0 x5).f2, (rdT y0 x5).f3⟩ : Stp)) x5).f0, t1, (rdT (y0.set x5.toNat (⟨x1, (rdT y0 x5).f1, (rdT y0 x5).f2, (rdT y0 x5).f3⟩ : Stp)) x5).f2, (rdT (y0.set x5.toNat (⟨x1, (rdT y0 x5).f1, (rdT y0 x5).f2, (rdT y0 x5).f3⟩ : Stp)) x5).f3⟩ : Stp)) x5).f1, (wrap64 ((wrap64 (x1 + 1)) + 1)), (rdT ((y0.set x5.toNat (⟨x1, (rdT y0 x5).f1, (rdT y0 x5).f2, (rdT y0 x5).f3⟩ : Stp)).set x5.toNat (⟨(rdT (y0.set x5.toNat (⟨x1, (rdT y0 x5).f1, (rdT y0 x5).f2, (rdT y0 x5).f3⟩ : Stp)) x5).f0, t1, (rdT (y0.set x5.toNat (⟨x1, (rdT y0 x5).f1, (rdT y0 x5).f2, (rdT y0 x5).f3⟩ : Stp)) x5).f2, (rdT (y0.set x5.toNat (⟨x1, (rdT y0 x5).f1, (rdT y0 x5).f2, (rdT y0 x5).f3⟩ : Stp)) x5).f3⟩ : Stp)) x5).f3⟩ : Stp)) x5).f2, (wrap64 ((wrap64 ((wrap64 (x1 + 1)) + 1)) + 1))⟩ : Stp)) (wrap64 ((wrap64 ((wrap64 ((wrap64 (x1 + 1)) + 1)) + 1)) + 1)) (wrap64 (x5 + 1))) else none) else none) else none)) else none) else (some (x1, y0)))
def laws_markStepS.f (k : Nat) (l2 : List Stp) (a1 : Int) : Option (Int × (List Stp)) := (laws_markStepS.l0 k l2 a1 0)
def laws_markStepS.en (r : Int × (List Stp)) : Res := (.int .i64 r.1, [.arr 67 0 (.T r.2) false])
def laws_markStepS.dec : List AV → List R.Obj → Option ((List Stp) × Int)
  | [.sl 0 0, .int .i64 a1], [.arr 67 0 (.T l2) false] => some (l2, a1)
  | _, _ => none
def laws_markStepS.tw : Tw := ⟨67, (List Stp) × Int, Int × (List Stp), laws_markStepS.dec, fun a => [.sl 0 0, .int .i64 a.2], fun a => [.arr 67 0 (.T a.1) false], fun k a => laws_markStepS.f k a.1 a.2, fun a r => laws_markStepS.en r, true⟩
theorem laws_markStepS.dok : laws_markStepS.tw.DecOk := by
  intro args hc a h
  have h : laws_markStepS.dec args hc = some a := h
  unfold laws_markStepS.dec at h
  split at h
  · cases h; exact ⟨rfl, rfl⟩
  · cases h
noncomputable def laws_markStepS.O (k : Nat) : Oracle := (laws_markText.tw.orc k noO)
def laws_markStepS.fh : FH := ⟨fun i => match i with | 2 => some [(0, 0), (1, 0), (5, 0)] | _ => none, [], false⟩
noncomputable def laws_markStepS.x0 (k : Nat) (y0 : List Stp) (x1 : Int) (x5 : Int) : Option Res := R.exec Try.prog xhn laws_markStepS.O 1 Try.f67 laws_markStepS.fh k (R.point Try.f67 2) ⟨[(0, .sl 0 0), (1, .int .i64 x1), (5, .int .i64 x5)], [(0, .arr 67 0 (.T y0) false)], 3⟩
set_option maxRecDepth 100000 in
theorem laws_markStepS.e0 (k : Nat) (y0 : List Stp) (x1 : Int) (x5 : Int) : laws_markStepS.x0 (k + 1) y0 x1 x5 = (if x5 < (y0.length : Int) then (if 0 ≤ x5 then ((laws_markText.f k (wr64 (x1 + 1))).bind fun t1 => (if x5 < ((y0.set x5.toNat (⟨x1, (rdT y0 x5).f1, (rdT y0 x5).f2, (rdT y0 x5).f3⟩ : Stp)).length : Int) then (if x5 < (((y0.set x5.toNat (⟨x1, (rdT y0 x5).f1, (rdT y0 x5).f2, (rdT y0 x5).f3⟩ : Stp)).set x5.toNat (⟨(rdT (y0.set x5.toNat (⟨x1, (rdT y0 x5).f1, (rdT y0 x5).f2, (rdT y0 x5).f3⟩ : Stp)) x5).f0, t1, (rdT (y0.set x5.toNat (⟨x1, (rdT y0 x5).f1, (rdT y0 x5).f2, (rdT y0 x5).f3⟩ : Stp)) x5).f2, (rdT (y0.set x5.toNat (⟨x1, (rdT y0 x5).f1, (rdT y0 x5).f2, (rdT y0 x5).f3⟩ : Stp)) x5).f3⟩ : Stp)).length : Int) then (if x5 < ((((y0.set x5.toNat (⟨x1, (rdT y0 x5).f1, (rdT y0 x5).f2, (rdT y0 x5).f3⟩ : Stp)).set x5.toNat (⟨(rdT (y0.set x5.toNat (⟨x1, (rdT y0 x5).f1, (rdT y0 x5).f2, (rdT y0 x5).f3⟩ : Stp)) x5).f0, t1, (rdT (y0.set x5.toNat (⟨x1, (rdT y0 x5).f1, (rdT y0 x5).f2, (rdT y0 x5).f3⟩ : Stp)) x5).f2, (rdT (y0.set x5.toNat (⟨x1, (rdT y0 x5).f1, (rdT y0 x5).f2, (rdT y0 x5).f3⟩ : Stp)) x5).f3⟩ : Stp)).set x5.toNat (⟨(rdT ((y0.set x5.toNat (⟨x1, (rdT y0 x5).f1, (rdT y0 x5).f2, (rdT y0 x5).f3⟩ : Stp)).set x5.toNat (⟨(rdT (y0.set x5.toNat (⟨x1, (rdT y0 x5).f1, (rdT y0 x5).f2, (rdT y0 x5).f3⟩ : Stp)) x5).f0, t1, (rdT (y0.set x5.toNat (⟨x1, (rdT y0 x5).f1, (rdT y0 x5).f2, (rdT y0 x5).f3⟩ : Stp)) x5).f2, (rdT (y0.set x5.toNat (⟨x1, (rdT y0 x5).f1, (rdT y0 x5).f2, (rdT y0 x5).f3⟩ : Stp)) x5).f3⟩ : Stp)) x5).f0, (rdT ((y0.set x5.toNat (⟨x1, (rdT y0 x5).f1, (rdT y0 x5).f2, (rdT y0 x5).f3⟩ : Stp)).set x5.toNat (⟨(rdT (y0.set x5.toNat (⟨x1, (rdT y0 x5).f1, (rdT y0 x5).f2, (rdT y0 x5).f3⟩ : Stp)) x5).f0, t1, (rdT (y0.set x5.toNat (⟨x1, (rdT y0 x5).f1, (rdT y0 x5).f2, (rdT y0 x5).f3⟩ : Stp)) x5).f2, (rdT (y0.set x5.toNat (⟨x1, (rdT y0 x5).f1, (rdT y0 x5).f2, (rdT y0 x5).f3⟩ : Stp)) x5).f3⟩ : Stp)) x5).f1, (wr64 ((wr64 (x1 + 1)) + 1)), (rdT ((y0.set x5.toNat (⟨x1, (rdT y0 x5).f1, (rdT y0 x5).f2, (rdT y0 x5).f3⟩ : Stp)).set x5.toNat (⟨(rdT (y0.set x5.toNat (⟨x1, (rdT y0 x5).f1, (rdT y0 x5).f2, (rdT y0 x5).f3⟩ : Stp)) x5).f0, t1, (rdT (y0.set x5.toNat (⟨x1, (rdT y0 x5).f1, (rdT y0 x5).f2, (rdT y0 x5).f3⟩ : Stp)) x5).f2, (rdT (y0.set x5.toNat (⟨x1, (rdT y0 x5).f1, (rdT y0 x5).f2, (rdT y0 x5).f3⟩ : Stp)) x5).f3⟩ : Stp)) x5).f3⟩ : Stp)).length : Int) then (laws_markStepS.x0 k ((((y0.set x5.toNat (⟨x1, (rdT y0 x5).f1, (rdT y0 x5).f2, (rdT y0 x5).f3⟩ : Stp)).set x5.toNat (⟨(rdT (y0.set x5.toNat (⟨x1, (rdT y0 x5).f1, (rdT y0 x5).f2, (rdT y0 x5).f3⟩ : Stp)) x5).f0, t1, (rdT (y0.set x5.toNat (⟨x1, (rdT y0 x5).f1, (rdT y0 x5).f2, (rdT y0 x5).f3⟩ : Stp)) x5).f2, (rdT (y0.set x5.toNat (⟨x1, (rdT y0 x5).f1, (rdT y0 x5).f2, (rdT y0 x5).f3⟩ : Stp)) x5).f3⟩ : Stp)).set x5.toNat (⟨(rdT ((y0.set x5.toNat (⟨x1, (rdT y0 x5).f1, (rdT y0 x5).f2, (rdT y0 x5).f3⟩ : Stp)).set x5.toNat (⟨(rdT (y0.set x5.toNat (⟨x1, (rdT y0 x5).f1, (rdT y0 x5).f2, (rdT y0 x5).f3⟩ : Stp)) x5).f0, t1, (rdT (y0.set x5.toNat (⟨x1, (rdT y0 x5).f1, (rdT y0 x5).f2, (rdT y0 x5).f3⟩ : Stp)) x5).f2, (rdT (y0.set x5.toNat (⟨x1, (rdT y0 x5).f1, (rdT y0 x5).f2, (rdT y0 x5).f3⟩ : Stp)) x5).f3⟩ : Stp)) x5).f0, (rdT ((y0.set x5.toNat (⟨x1, (rdT y0 x5).f1, (rdT y0 x5).f2, (rdT y0 x5).f3⟩ : Stp)).set x5.toNat (⟨(rdT (y0.set x5.toNat (⟨x1, (rdT y0 x5).f1, (rdT y0 x5).f2, (rdT y0 x5).f3⟩ : Stp)) x5).f0, t1, (rdT (y0.set x5.toNat (⟨x1, (rdT y0 x5).f1, (rdT y0 x5).f2, (rdT y0 x5).f3⟩ : Stp)) x5).f2, (rdT (y0.set x5.toNat (⟨x1, (rdT y0 x5).f1, (rdT y0 x5).f2, (rdT y0 x5).f3⟩ : Stp)) x5).f3⟩ : Stp)) x5).f1, (wr64 ((wr64 (x1 + 1)) + 1)), (rdT ((y0.set x5.toNat (⟨x1, (rdT y0 x5).f1, (rdT y0 x5).f2, (rdT y0 x5).f3⟩ : Stp)).set x5.toNat (⟨(rdT (y0.set x5.toNat (⟨x1, (rdT y0 x5).f1, (rdT y0 x5).f2, (rdT y0 x5).f3⟩ : Stp)) x5).f0, t1, (rdT (y0.set x5.toNat (⟨x1, (rdT y0 x5).f1, (rdT y0 x5).f2, (rdT y0 x5).f3⟩ : Stp)) x5).f2, (rdT (y0.set x5.toNat (⟨x1, (rdT y0 x5).f1, (rdT y0 x5).f2, (rdT y0 x5).f3⟩ : Stp)) x5).f3⟩ : Stp)) x5).f3⟩ : Stp)).set x5.toNat (⟨(rdT (((y0.set x5.toNat (⟨x1, (rdT y0 x5).f1, (rdT y0 x5).f2, (rdT y0 x5).f3⟩ : Stp)).set x5.toNat (⟨(rdT (y0.set x5.toNat (⟨x1, (rdT y0 x5).f1, (rdT y0 x5).f2, (rdT y0 x5).f3⟩ : Stp)) x5).f0, t1, (rdT (y0.set x5.toNat (⟨x1, (rdT y0 x5).f1, (rdT y0 x5).f2, (rdT y0 x5).f3⟩ : Stp)) x5).f2, (rdT (y0.set x5.toNat (⟨x1, (rdT y0 x5).f1, (rdT y0 x5).f2, (rdT y0 x5).f3⟩ : Stp)) x5).f3⟩ : Stp)).set x5.toNat (⟨(rdT ((y0.set x5.toNat (⟨x1, (rdT y0 x5).f1, (rdT y0 x5).f2, (rdT y0 x5).f3⟩ : Stp)).set x5.toNat (⟨(rdT (y0.set x5.toNat (⟨x1, (rdT y0 x5).f1, (rdT y0 x5).f2, (rdT y0 x5).f3⟩ : Stp)) x5).f0, t1, (rdT (y0.set x5.toNat (⟨x1, (rdT y0 x5).f1, (rdT y0 x5).f2, (rdT y0 x5).f3⟩ : Stp)) x5).f2, (rdT (y0.set x5.toNat (⟨x1, (rdT y0 x5).f1, (rdT y0 x5).f2, (rdT y0 x5).f3⟩ : Stp)) x5).f3⟩ : Stp)) x5).f0, (rdT ((y0.set x5.toNat (⟨x1, (rdT y0 x5).f1, (rdT y0 x5).f2, (rdT y0 x5).f3⟩ : Stp)).set x5.toNat (⟨(rdT (y0.set x5.toNat (⟨x1, (rdT y0 x5).f1, (rdT y0 x5).f2, (rdT y0 x5).f3⟩ : Stp)) x5).f0, t1, (rdT (y0.set x5.toNat (⟨x1, (rdT y0 x5).f1, (rdT y0 x5).f2, (rdT y0 x5).f3⟩ : Stp)) x5).f2, (rdT (y0.set x5.toNat (⟨x1, (rdT y0 x5).f1, (rdT y0 x5).f2, (rdT y0 x5).f3⟩ : Stp)) x5).f3⟩ : Stp)) x5).f1, (wr64 ((wr64 (x1 + 1)) + 1)), (rdT ((y0.set x5.toNat (⟨x1, (rdT y0 x5).f1, (rdT y0 x5).f2, (rdT y0 x5).f3⟩ : Stp)).set x5.toNat (⟨(rdT (y0.set x5.toNat (⟨x1, (rdT y0 x5).f1, (rdT y0 x5).f2, (rdT y0 x5).f3⟩ : Stp)) x5).f0, t1, (rdT (y0.set x5.toNat (⟨x1, (rdT y0 x5).f1, (rdT y0 x5).f2, (rdT y0 x5).f3⟩ : Stp)) x5).f2, (rdT (y0.set x5.toNat (⟨x1, (rdT y0 x5).f1, (rdT y0 x5).f2, (rdT y0 x5).f3⟩ : Stp)) x5).f3⟩ : Stp)) x5).f3⟩ : Stp)) x5).f0, (rdT (((y0.set x5.toNat (⟨x1, (rdT y0 x5).f1, (rdT y0 x5).f2, (rdT y0 x5).f3⟩ : Stp)).set x5.toNat (⟨(rdT (y0.set x5.toNat (⟨x1, (rdT y0 x5).f1, (rdT y0 x5).f2, (rdT y0 x5).f3⟩ : Stp)) x5).f0, t1, (rdT (y0.set x5.toNat (⟨x1, (rdT y0 x5).f1, (rdT y0 x5).f2, (rdT y0 x5).f3⟩ : Stp)) x5).f2, (rdT (y0.set x5.toNat (⟨x1, (rdT y0 x5).f1, (rdT y0 x5).f2, (rdT y0 x5).f3⟩ : Stp)) x5).f3⟩ : Stp)).set x5.toNat (⟨(rdT ((y0.set x5.toNat (⟨x1, (rdT y0 x5).f1, (rdT y0 x5).f2, (rdT y0 x5).f3⟩ : Stp)).set x5.toNat (⟨(rdT (y0.set x5.toNat (⟨x1, (rdT y0 x5).f1, (rdT y0 x5).f2, (rdT y0 x5).f3⟩ : Stp)) x5).f0, t1, (rdT (y0.set x5.toNat (⟨x1, (rdT y0 x5).f1, (rdT y0 x5).f2, (rdT y0 x5).f3⟩ : Stp)) x5).f2, (rdT (y0.set x5.toNat (⟨x1, (rdT y0 x5).f1, (rdT y0 x5).f2, (rdT y0 x5).f3⟩ : Stp)) x5).f3⟩ : Stp)) x5).f0, (rdT ((y0.set x5.toNat (⟨x1, (rdT y0 x5).f1, (rdT y0 x5).f2, (rdT y0 x5).f3⟩ : Stp)).set x5.toNat (⟨(rdT (y0.set x5.toNat (⟨x1, (rdT y0 x5).f1, (rdT y0 x5).f2, (rdT y0 x5).f3⟩ : Stp)) x5).f0, t1, (rdT (y0.set x5.toNat (⟨x1, (rdT y0 x5).f1, (rdT y0 x5).f2, (rdT y0 x5).f3⟩ : Stp)) x5).f2, (rdT (y0.set x5.toNat (⟨x1, (rdT y0 x5).f1, (rdT y0 x5).f2, (rdT y0 x5).f3⟩ : Stp)) x5).f3⟩ : Stp)) x5).f1, (wr64 ((wr64 (x1 + 1)) + 1)), (rdT ((y0.set x5.toNat (⟨x1, (rdT y0 x5).f1, (rdT y0 x5).f2, (rdT y0 x5).f3⟩ : Stp)).set x5.toNat (⟨(rdT (y0.set x5.toNat (⟨x1, (rdT y0 x5).f1, (rdT y0 x5).f2, (rdT y0 x5).f3⟩ : Stp)) x5).f0, t1, (rdT (y0.set x5.toNat (⟨x1, (rdT y0 x5).f1, (rdT y0 x5).f2, (rdT y0 x5).f3⟩ : Stp)) x5).f2, (rdT (y0.set x5.toNat (⟨x1, (rdT y0 x5).f1, (rdT y0 x5).f2, (rdT y0 x5).f3⟩ : Stp)) x5).f3⟩ : Stp)) x5).f3⟩ : Stp)) x5).f1, (rdT (((y0.set x5.toNat (⟨x1, (rdT y0 x5).f1, (rdT y0 x5).f2, (rdT y0 x5).f3⟩ : Stp)).set x5.toNat (⟨(rdT (y0.set x5.toNat (⟨x1, (rdT y0 x5).f1, (rdT y0 x5).f2, (rdT y0 x5).f3⟩ : Stp)) x5).f0, t1, (rdT (y0.set x5.toNat (⟨x1, (rdT y0 x5).f1, (rdT y0 x5).f2, (rdT y0 x5).f3⟩ : Stp)) x5).f2, (rdT (y0.set x5.toNat (⟨x1, (rdT y0 x5).f1, (rdT y0 x5).f2, (rdT y0 x5).f3⟩ : Stp)) x5).f3⟩ : Stp)).set x5.toNat (⟨(rdT ((y0.set x5.toNat (⟨x1, (rdT y0 x5).f1, (rdT y0 x5).f2, (rdT y0 x5).f3⟩ : Stp)).set x5.toNat (⟨(rdT (y0.set x5.toNat (⟨x1, (rdT y0 x5).f1, (rdT y0 x5).f2, (rdT y0 x5).f3⟩ : Stp)) x5).f0, t1, (rdT (y0.set x5.toNat (⟨x1, (rdT y0 x5).f1, (rdT y0 x5).f2, (rdT y0 x5).f3⟩ : Stp)) x5).f2, (rdT (y0.set x5.toNat (⟨x1, (rdT y0 x5).f1, (rdT y0 x5).f2, (rdT y0 x5).f3⟩ : Stp)) x5).f3⟩ : Stp)) x5).f0, (rdT ((y0.set x5.toNat (⟨x1, (rdT y0 x5).f1, (rdT y0 x5).f2, (rdT y0 x5).f3⟩ : Stp)).set x5.toNat (⟨(rdT (y0.set x5.toNat (⟨x1, (rdT y0 x5).f1, (rdT y0 x5).f2, (rdT y0 x5).f3⟩ : Stp)) x5).f0, t1, (rdT (y0.set x5.toNat (⟨x1, (rdT y0 x5).f1, (rdT y0 x5).f2, (rdT y0 x5).f3⟩ : Stp)) x5).f2, (rdT (y0.set x5.toNat (⟨x1, (rdT y0 x5).f1, (rdT y0 x5).f2, (rdT y0 x5).f3⟩ : Stp)) x5).f3⟩ : Stp)) x5).f1, (wr64 ((wr64 (x1 + 1)) + 1)), (rdT ((y0.set x5.toNat (⟨x1, (rdT y0 x5).f1, (rdT y0 x5).f2, (rdT y0 x5).f3⟩ : Stp)).set x5.toNat (⟨(rdT (y0.set x5.toNat (⟨x1, (rdT y0 x5).f1, (rdT y0 x5).f2, (rdT y0 x5).f3⟩ : Stp)) x5).f0, t1, (rdT (y0.set x5.toNat (⟨x1, (rdT y0 x5).f1, (rdT y0 x5).f2, (rdT y0 x5).f3⟩ : Stp)) x5).f2, (rdT (y0.set x5.toNat (⟨x1, (rdT y0 x5).f1, (rdT y0 x5).f2, (rdT y0 x5).f3⟩ : Stp)) x5).f3⟩ : Stp)) x5).f3⟩ : Stp)) x5).f2, (wr64 ((wr64 ((wr64 (x1 + 1)) + 1)) + 1))⟩ : Stp)) (wr64 ((wr64 ((wr64 ((wr64 (x1 + 1)) + 1)) + 1)) + 1)) (wr64 (x5 + 1))) else none) else none) else none)) else none) else (some (laws_markStepS.en (x1, y0)))) := by
  refine Eq.trans ?_ (R.icong (fun h0 => (R.icong (fun h1 => (R.idropT (p := x5 < (y0.length : Int)) (z := none) h0 (R.bcong fun t1 => (R.idropT (p := 0 ≤ x5) (z := none) h1 (R.icong (fun h2 => (R.idropT (p := 0 ≤ x5) (z := none) h1 (R.icong (fun h3 => (R.idropT (p := 0 ≤ x5) (z := none) h1 rfl)) (fun h3 => rfl)))) (fun h2 => rfl)))))) (fun h1 => rfl))) (fun h0 => rfl))
  kernel_rfl
set_option maxRecDepth 100000 in
theorem laws_markStepS.ef (k : Nat) (l2 : List Stp) (a1 : Int) : R.start Try.prog xhn laws_markStepS.O 1 Try.f67 laws_markStepS.fh k [.sl 0 0, .int .i64 a1] [.arr 67 0 (.T l2) false] = (laws_markStepS.x0 k l2 a1 0) := by kernel_rfl
theorem laws_markStepS.link : ∀ k, (∀ (y0 : List Stp) (x1 : Int) (x5 : Int), laws_markStepS.x0 k y0 x1 x5 = (laws_markStepS.l0 k y0 x1 x5).map (laws_markStepS.en))
  | 0 => fun _ _ _ => by simp only [laws_markStepS.l0, R.map_none]; rfl
  | k + 1 => by
    have ih0 := laws_markStepS.link k
    · intro y0 x1 x5
      rw [laws_markStepS.e0]
      simp only [laws_markStepS.l0, R.map_ite, R.map_bind, R.map_none, R.map_some, R.wr64_eq, ← ih0]
theorem laws_markStepS.sf (k : Nat) (l2 : List Stp) (a1 : Int) : R.start Try.prog xhn laws_markStepS.O 1 Try.f67 laws_markStepS.fh k [.sl 0 0, .int .i64 a1] [.arr 67 0 (.T l2) false] = (laws_markStepS.f k l2 a1).map (laws_markStepS.en) := by
  have ih0 := laws_markStepS.link k
  rw [laws_markStepS.ef]
  simp only [laws_markStepS.f, R.map_ite, R.map_bind, R.map_none, R.map_some, R.wr64_eq, ← ih0]
theorem laws_markStepS.ok (k : Nat) : laws_markStepS.tw.Ok Try.prog k := by
  intro md hmd a r h
  refine fn_ok (H := xhn) (fh := laws_markStepS.fh) (O := laws_markStepS.O) (k := k) Try.func67 (by kernel_rfl) (by kernel_rfl) (fun j _ => (Tw.orc_sound laws_markText.dok (laws_markText.ok j) (fun _ => rfl) noO_sound)) (by kernel_rfl) (m := 1) rfl ?_
  refine (laws_markStepS.sf k a.1 a.2).trans ?_
  exact congrArg (Option.map _) h
def laws_markAutomaton.f (k : Nat) (a0_0 : Int) (l2 : List Int) (l3 : List Int) (l4 : List Stp) (a1 : Int) : Option (Int × (List Int) × (List Int) × (List Stp)) := ((laws_markIntS.f k l2 a1).bind fun t1 => ((laws_markIntS.f k l3 t1.1).bind fun t2 => ((laws_markStepS.f k l4 t2.1).bind fun t3 => (some (t3.1, t1.2, t2.2, t3.2)))))
def laws_markAutomaton.en (r : Int × (List Int) × (List Int) × (List Stp)) : Res := (.int .i64 r.1, [.arr 3 0 (.I .i64 r.2.1) false, .arr 3 0 (.I .i64 r.2.2.1) false, .arr 67 0 (.T r.2.2.2) false])
def laws_markAutomaton.dec : List AV → List R.Obj → Option (Int × (List Int) × (List Int) × (List Stp) × Int)
  | [.agg [.int .i64 a0_0, .sl 0 0, .sl 1 0, .sl 2 0], .int .i64 a1], [.arr 3 0 (.I .i64 l2) false, .arr 3 0 (.I .i64 l3) false, .arr 67 0 (.T l4) false] => some (a0_0, l2, l3, l4, a1)
  | _, _ => none
def laws_markAutomaton.tw : Tw := ⟨20, Int × (List Int) × (List Int) × (List Stp) × Int, Int × (List Int) × (List Int) × (List Stp), laws_markAutomaton.dec, fun a => [.agg [.int .i64 a.1, .sl 0 0, .sl 1 0, .sl 2 0], .int .i64 a.2.2.2.2], fun a => [.arr 3 0 (.I .i64 a.2.1) false, .arr 3 0 (.I .i64 a.2.2.1) false, .arr 67 0 (.T a.2.2.2.1) false], fun k a => laws_markAutomaton.f k a.1 a.2.1 a.2.2.1 a.2.2.2.1 a.2.2.2.2, fun a r => laws_markAutomaton.en r, true⟩
theorem laws_markAutomaton.dok : laws_markAutomaton.tw.DecOk := by
  intro args hc a h
  have h : laws_markAutomaton.dec args hc = some a := h
  unfold laws_markAutomaton.dec at h
  split at h
  · cases h; exact ⟨rfl, rfl⟩
  · cases h
noncomputable def laws_markAutomaton.O (k : Nat) : Oracle := (laws_markIntS.tw.orc k (laws_markStepS.tw.orc k noO))
def laws_markAutomaton.fh : FH := ⟨fun i => match i with | _ => none, [], false⟩
set_option maxRecDepth 100000 in
theorem laws_markAutomaton.ef (k : Nat) (a0_0 : Int) (l2 : List Int) (l3 : List Int) (l4 : List Stp) (a1 : Int) : R.start Try.prog xhn laws_markAutomaton.O 3 Try.f20 laws_markAutomaton.fh k [.agg [.int .i64 a0_0, .sl 0 0, .sl 1 0, .sl 2 0], .int .i64 a1] [.arr 3 0 (.I .i64 l2) false, .arr 3 0 (.I .i64 l3) false, .arr 67 0 (.T l4) false] = ((laws_markIntS.f k l2 a1).bind fun t1 => ((laws_markIntS.f k l3 t1.1).bind fun t2 => ((laws_markStepS.f k l4 t2.1).bind fun t3 => (some (laws_markAutomaton.en (t3.1, t1.2, t2.2, t3.2)))))) := by kernel_rfl
theorem laws_markAutomaton.sf (k : Nat) (a0_0 : Int) (l2 : List Int) (l3 : List Int) (l4 : List Stp) (a1 : Int) : R.start Try.prog xhn laws_markAutomaton.O 3 Try.f20 laws_markAutomaton.fh k [.agg [.int .i64 a0_0, .sl 0 0, .sl 1 0, .sl 2 0], .int .i64 a1] [.arr 3 0 (.I .i64 l2) false, .arr 3 0 (.I .i64 l3) false, .arr 67 0 (.T l4) false] = (laws_markAutomaton.f k a0_0 l2 l3 l4 a1).map (laws_markAutomaton.en) := by
  rw [laws_markAutomaton.ef]
  simp only [laws_markAutomaton.f, R.map_ite, R.map_bind, R.map_none, R.map_some, R.wr64_eq]
theorem laws_markAutomaton.ok (k : Nat) : laws_markAutomaton.tw.Ok Try.prog k := by
  intro md hmd a r h
  refine fn_ok (H := xhn) (fh := laws_markAutomaton.fh) (O := laws_markAutomaton.O) (k := k) Try.func20 (by kernel_rfl) (by kernel_rfl) (fun j _ => (Tw.orc_sound laws_markIntS.dok (laws_markIntS.ok j) (fun _ => rfl) (Tw.orc_sound laws_markStepS.dok (laws_markStepS.ok j) (fun _ => rfl) noO_sound))) (by kernel_rfl) (m := 3) rfl ?_
  refine (laws_markAutomaton.sf k a.1 a.2.1 a.2.2.1 a.2.2.2.1 a.2.2.2.2).trans ?_
  exact congrArg (Option.map _) h
def laws_heldIntS.l0 : Nat → (List Int) → Int → Int → Option (Int)
  | 0, _, _, _ => none
  | k + 1, x0, x1, x5 => (if x5 < (x0.length : Int) then (if 0 ≤ x5 then (if (rdI x0 x5) = x1 then (laws_heldIntS.l0 k x0 (wrap64 (x1 + 1)) (wrap64 (x5 + 1))) else (some (-1))) else none) else (some x1))
def laws_heldIntS.f (k : Nat) (l0 : List Int) (a1 : Int) : Option (Int) := (laws_heldIntS.l0 k l0 a1 0)
def laws_heldIntS.en (r : Int) : Res := (.int .i64 r, [])
def laws_heldIntS.dec : List AV → List R.Obj → Option ((List Int) × Int)
  | [.imm (.I .i64 l0), .int .i64 a1], [] => some (l0, a1)
  | _, _ => none
def laws_heldIntS.tw : Tw := ⟨36, (List Int) × Int, Int, laws_heldIntS.dec, fun a => [.imm (.I .i64 a.1), .int .i64 a.2], fun a => [], fun k a => laws_heldIntS.f k a.1 a.2, fun a r => laws_heldIntS.en r, true⟩
theorem laws_heldIntS.dok : laws_heldIntS.tw.DecOk := by
  intro args hc a h
  have h : laws_heldIntS.dec args hc = some a := h
  unfold laws_heldIntS.dec at h
  split at h
  · cases h; exact ⟨rfl, rfl⟩
  · cases h
noncomputable def laws_heldIntS.O (k : Nat) : Oracle := noO
def laws_heldIntS.fh : FH := ⟨fun i => match i with | 2 => some [(0, 0), (1, 0), (5, 0)] | _ => none, [], false⟩
noncomputable def laws_heldIntS.x0 (k : Nat) (x0 : List Int) (x1 : Int) (x5 : Int) : Option Res := R.exec Try.prog xhn laws_heldIntS.O 0 Try.f36 laws_heldIntS.fh k (R.point Try.f36 2) ⟨[(0, .imm (.I .i64 x0)), (1, .int .i64 x1), (5, .int .i64 x5)], [], 2⟩
set_option maxRecDepth 100000 in
theorem laws_heldIntS.e0 (k : Nat) (x0 : List Int) (x1 : Int) (x5 : Int) : laws_heldIntS.x0 (k + 1) x0 x1 x5 = (if x5 < (x0.length : Int) then (if 0 ≤ x5 then (if (rdI x0 x5) = x1 then (laws_heldIntS.x0 k x0 (wr64 (x1 + 1)) (wr64 (x5 + 1))) else (some (laws_heldIntS.en (-1)))) else none) else (some (laws_heldIntS.en x1))) := by
  refine Eq.trans ?_ (R.icong (fun h0 => (R.icong (fun h1 => (R.idropT (p := x5 < (x0.length : Int)) (z := none) h0 rfl)) (fun h1 => rfl))) (fun h0 => rfl))
  kernel_rfl
set_option maxRecDepth 100000 in
theorem laws_heldIntS.ef (k : Nat) (l0 : List Int) (a1 : Int) : R.start Try.prog xhn laws_heldIntS.O 0 Try.f36 laws_heldIntS.fh k [.imm (.I .i64 l0), .int .i64 a1] [] = (laws_heldIntS.x0 k l0 a1 0) := by kernel_rfl
theorem laws_heldIntS.link : ∀ k, (∀ (x0 : List Int) (x1 : Int) (x5 : Int), laws_heldIntS.x0 k x0 x1 x5 = (laws_heldIntS.l0 k x0 x1 x5).map (laws_heldIntS.en))
  | 0 => fun _ _ _ => by simp only [laws_heldIntS.l0, R.map_none]; rfl
  | k + 1 => by
    have ih0 := laws_heldIntS.link k
    · intro x0 x1 x5
      rw [laws_heldIntS.e0]
      simp only [laws_heldIntS.l0, R.map_ite, R.map_bind, R.map_none, R.map_some, R.wr64_eq, ← ih0]
theorem laws_heldIntS.sf (k : Nat) (l0 : List Int) (a1 : Int) : R.start Try.prog xhn laws_heldIntS.O 0 Try.f36 laws_heldIntS.fh k [.imm (.I .i64 l0), .int .i64 a1] [] = (laws_heldIntS.f k l0 a1).map (laws_heldIntS.en) := by
  have ih0 := laws_heldIntS.link k
  rw [laws_heldIntS.ef]
  simp only [laws_heldIntS.f, R.map_ite, R.map_bind, R.map_none, R.map_some, R.wr64_eq, ← ih0]
theorem laws_heldIntS.ok (k : Nat) : laws_heldIntS.tw.Ok Try.prog k := by
  intro md hmd a r h
  refine fn_ok (H := xhn) (fh := laws_heldIntS.fh) (O := laws_heldIntS.O) (k := k) Try.func36 (by kernel_rfl) (by kernel_rfl) (fun j _ => noO_sound) (by kernel_rfl) (m := 0) rfl ?_
  refine (laws_heldIntS.sf k a.1 a.2).trans ?_
  exact congrArg (Option.map _) h
def laws_heldStepS.l0 : Nat → (List Stp) → Int → Int → Option (Int)
  | 0, _, _, _ => none
  | k + 1, x0, x1, x5 => (if x5 < (x0.length : Int) then (if 0 ≤ x5 then (if (rdT x0 x5).f0 = x1 then ((laws_markText.f k (wrap64 (x1 + 1))).bind fun t1 => (if (rdT x0 x5).f1.toList = t1.toList then (if (rdT x0 x5).f2 = (wrap64 ((wrap64 (x1 + 1)) + 1)) then (if (rdT x0 x5).f3 = (wrap64 ((wrap64 ((wrap64 (x1 + 1)) + 1)) + 1)) then (laws_heldStepS.l0 k x0 (wrap64 ((wrap64 ((wrap64 ((wrap64 (x1 + 1)) + 1)) + 1)) + 1)) (wrap64 (x5 + 1))) else (some (-1))) else (some (-1))) else (some (-1)))) else (some (-1))) else none) else (some x1))
def laws_heldStepS.f (k : Nat) (l0 : List Stp) (a1 : Int) : Option (Int) := (laws_heldStepS.l0 k l0 a1 0)
def laws_heldStepS.en (r : Int) : Res := (.int .i64 r, [])
def laws_heldStepS.dec : List AV → List R.Obj → Option ((List Stp) × Int)
  | [.imm (.T l0), .int .i64 a1], [] => some (l0, a1)
  | _, _ => none
def laws_heldStepS.tw : Tw := ⟨68, (List Stp) × Int, Int, laws_heldStepS.dec, fun a => [.imm (.T a.1), .int .i64 a.2], fun a => [], fun k a => laws_heldStepS.f k a.1 a.2, fun a r => laws_heldStepS.en r, true⟩
theorem laws_heldStepS.dok : laws_heldStepS.tw.DecOk := by
  intro args hc a h
  have h : laws_heldStepS.dec args hc = some a := h
  unfold laws_heldStepS.dec at h
  split at h
  · cases h; exact ⟨rfl, rfl⟩
  · cases h
noncomputable def laws_heldStepS.O (k : Nat) : Oracle := (laws_markText.tw.orc k noO)
def laws_heldStepS.fh : FH := ⟨fun i => match i with | 2 => some [(0, 0), (1, 0), (5, 0)] | _ => none, [], false⟩
noncomputable def laws_heldStepS.x0 (k : Nat) (x0 : List Stp) (x1 : Int) (x5 : Int) : Option Res := R.exec Try.prog xhn laws_heldStepS.O 0 Try.f68 laws_heldStepS.fh k (R.point Try.f68 2) ⟨[(0, .imm (.T x0)), (1, .int .i64 x1), (5, .int .i64 x5)], [], 2⟩
set_option maxRecDepth 100000 in
theorem laws_heldStepS.e0 (k : Nat) (x0 : List Stp) (x1 : Int) (x5 : Int) : laws_heldStepS.x0 (k + 1) x0 x1 x5 = (if x5 < (x0.length : Int) then (if 0 ≤ x5 then (if (rdT x0 x5).f0 = x1 then ((laws_markText.f k (wr64 (x1 + 1))).bind fun t1 => (if (rdT x0 x5).f1.toList = t1.toList then (if (rdT x0 x5).f2 = (wr64 ((wr64 (x1 + 1)) + 1)) then (if (rdT x0 x5).f3 = (wr64 ((wr64 ((wr64 (x1 + 1)) + 1)) + 1)) then (laws_heldStepS.x0 k x0 (wr64 ((wr64 ((wr64 ((wr64 (x1 + 1)) + 1)) + 1)) + 1)) (wr64 (x5 + 1))) else (some (laws_heldStepS.en (-1)))) else (some (laws_heldStepS.en (-1)))) else (some (laws_heldStepS.en (-1))))) else (some (laws_heldStepS.en (-1)))) else none) else (some (laws_heldStepS.en x1))) := by
  refine Eq.trans ?_ (R.icong (fun h0 => (R.icong (fun h1 => (R.idropT (p := x5 < (x0.length : Int)) (z := none) h0 (R.icong (fun h2 => (R.idropT (p := 0 ≤ x5) (z := none) h1 (R.idropT (p := x5 < (x0.length : Int)) (z := none) h0 (R.bcong fun t1 => (R.icong (fun h3 => (R.idropT (p := 0 ≤ x5) (z := none) h1 (R.idropT (p := x5 < (x0.length : Int)) (z := none) h0 (R.icong (fun h4 => (R.idropT (p := 0 ≤ x5) (z := none) h1 (R.idropT (p := x5 < (x0.length : Int)) (z := none) h0 rfl))) (fun h4 => rfl))))) (fun h3 => rfl)))))) (fun h2 => rfl)))) (fun h1 => rfl))) (fun h0 => rfl))
  kernel_rfl
set_option maxRecDepth 100000 in
theorem laws_heldStepS.ef (k : Nat) (l0 : List Stp) (a1 : Int) : R.start Try.prog xhn laws_heldStepS.O 0 Try.f68 laws_heldStepS.fh k [.imm (.T l0), .int .i64 a1] [] = (laws_heldStepS.x0 k l0 a1 0) := by kernel_rfl
theorem laws_heldStepS.link : ∀ k, (∀ (x0 : List Stp) (x1 : Int) (x5 : Int), laws_heldStepS.x0 k x0 x1 x5 = (laws_heldStepS.l0 k x0 x1 x5).map (laws_heldStepS.en))
  | 0 => fun _ _ _ => by simp only [laws_heldStepS.l0, R.map_none]; rfl
  | k + 1 => by
    have ih0 := laws_heldStepS.link k
    · intro x0 x1 x5
      rw [laws_heldStepS.e0]
      simp only [laws_heldStepS.l0, R.map_ite, R.map_bind, R.map_none, R.map_some, R.wr64_eq, ← ih0]
theorem laws_heldStepS.sf (k : Nat) (l0 : List Stp) (a1 : Int) : R.start Try.prog xhn laws_heldStepS.O 0 Try.f68 laws_heldStepS.fh k [.imm (.T l0), .int .i64 a1] [] = (laws_heldStepS.f k l0 a1).map (laws_heldStepS.en) := by
  have ih0 := laws_heldStepS.link k
  rw [laws_heldStepS.ef]
  simp only [laws_heldStepS.f, R.map_ite, R.map_bind, R.map_none, R.map_some, R.wr64_eq, ← ih0]
theorem laws_heldStepS.ok (k : Nat) : laws_heldStepS.tw.Ok Try.prog k := by
  intro md hmd a r h
  refine fn_ok (H := xhn) (fh := laws_heldStepS.fh) (O := laws_heldStepS.O) (k := k) Try.func68 (by kernel_rfl) (by kernel_rfl) (fun j _ => (Tw.orc_sound laws_markText.dok (laws_markText.ok j) (fun _ => rfl) noO_sound)) (by kernel_rfl) (m := 0) rfl ?_
  refine (laws_heldStepS.sf k a.1 a.2).trans ?_
  exact congrArg (Option.map _) h
def laws_heldAutomaton.f (k : Nat) (a0_0 : Int) (l0_1 : List Int) (l0_2 : List Int) (l0_3 : List Stp) (a1 : Int) : Option (Int) := ((laws_heldIntS.f k l0_1 a1).bind fun t1 => (if t1 < 0 then (some (-1)) else ((laws_heldIntS.f k l0_2 t1).bind fun t2 => (if t2 < 0 then (some (-1)) else ((laws_heldStepS.f k l0_3 t2).bind fun t3 => (if t3 < 0 then (some (-1)) else (some t3)))))))
def laws_heldAutomaton.en (r : Int) : Res := (.int .i64 r, [])
def laws_heldAutomaton.dec : List AV → List R.Obj → Option (Int × (List Int) × (List Int) × (List Stp) × Int)
  | [.agg [.int .i64 a0_0, .imm (.I .i64 l0_1), .imm (.I .i64 l0_2), .imm (.T l0_3)], .int .i64 a1], [] => some (a0_0, l0_1, l0_2, l0_3, a1)
  | _, _ => none
def laws_heldAutomaton.tw : Tw := ⟨21, Int × (List Int) × (List Int) × (List Stp) × Int, Int, laws_heldAutomaton.dec, fun a => [.agg [.int .i64 a.1, .imm (.I .i64 a.2.1), .imm (.I .i64 a.2.2.1), .imm (.T a.2.2.2.1)], .int .i64 a.2.2.2.2], fun a => [], fun k a => laws_heldAutomaton.f k a.1 a.2.1 a.2.2.1 a.2.2.2.1 a.2.2.2.2, fun a r => laws_heldAutomaton.en r, true⟩
theorem laws_heldAutomaton.dok : laws_heldAutomaton.tw.DecOk := by
  intro args hc a h
  have h : laws_heldAutomaton.dec args hc = some a := h
  unfold laws_heldAutomaton.dec at h
  split at h
  · cases h; exact ⟨rfl, rfl⟩
  · cases h
noncomputable def laws_heldAutomaton.O (k : Nat) : Oracle := (laws_heldIntS.tw.orc k (laws_heldStepS.tw.orc k noO))
def laws_heldAutomaton.fh : FH := ⟨fun i => match i with | _ => none, [], false⟩
set_option maxRecDepth 100000 in
theorem laws_heldAutomaton.ef (k : Nat) (a0_0 : Int) (l0_1 : List Int) (l0_2 : List Int) (l0_3 : List Stp) (a1 : Int) : R.start Try.prog xhn laws_heldAutomaton.O 0 Try.f21 laws_heldAutomaton.fh k [.agg [.int .i64 a0_0, .imm (.I .i64 l0_1), .imm (.I .i64 l0_2), .imm (.T l0_3)], .int .i64 a1] [] = ((laws_heldIntS.f k l0_1 a1).bind fun t1 => (if t1 < 0 then (some (laws_heldAutomaton.en (-1))) else ((laws_heldIntS.f k l0_2 t1).bind fun t2 => (if t2 < 0 then (some (laws_heldAutomaton.en (-1))) else ((laws_heldStepS.f k l0_3 t2).bind fun t3 => (if t3 < 0 then (some (laws_heldAutomaton.en (-1))) else (some (laws_heldAutomaton.en t3)))))))) := by kernel_rfl
theorem laws_heldAutomaton.sf (k : Nat) (a0_0 : Int) (l0_1 : List Int) (l0_2 : List Int) (l0_3 : List Stp) (a1 : Int) : R.start Try.prog xhn laws_heldAutomaton.O 0 Try.f21 laws_heldAutomaton.fh k [.agg [.int .i64 a0_0, .imm (.I .i64 l0_1), .imm (.I .i64 l0_2), .imm (.T l0_3)], .int .i64 a1] [] = (laws_heldAutomaton.f k a0_0 l0_1 l0_2 l0_3 a1).map (laws_heldAutomaton.en) := by
  rw [laws_heldAutomaton.ef]
  simp only [laws_heldAutomaton.f, R.map_ite, R.map_bind, R.map_none, R.map_some, R.wr64_eq]
theorem laws_heldAutomaton.ok (k : Nat) : laws_heldAutomaton.tw.Ok Try.prog k := by
  intro md hmd a r h
  refine fn_ok (H := xhn) (fh := laws_heldAutomaton.fh) (O := laws_heldAutomaton.O) (k := k) Try.func21 (by kernel_rfl) (by kernel_rfl) (fun j _ => (Tw.orc_sound laws_heldIntS.dok (laws_heldIntS.ok j) (fun _ => rfl) (Tw.orc_sound laws_heldStepS.dok (laws_heldStepS.ok j) (fun _ => rfl) noO_sound))) (by kernel_rfl) (m := 0) rfl ?_
  refine (laws_heldAutomaton.sf k a.1 a.2.1 a.2.2.1 a.2.2.2.1 a.2.2.2.2).trans ?_
  exact congrArg (Option.map _) h
def laws_FnExactChainAutomaton.f (k : Nat) (a0_0 : Int) (l0_1 : List Int) (l0_2 : List Int) (l0_3 : List Stp) (a1_0 : Int) (l1_1 : List Int) (l1_2 : List Int) (l1_3 : List Stp) : Option (Bool) := ((laws_szAutomaton.f k a0_0 l0_1 l0_2 l0_3 1048576).bind fun t1 => (if t1 < 0 then (some true) else ((laws_szAutomaton.f k a1_0 l1_1 l1_2 l1_3 t1).bind fun t2 => (if t2 < 0 then (some true) else ((laws_toAutomaton.f k a0_0 l0_1 l0_2 l0_3).bind fun t3 => ((laws_toAutomaton.f k a1_0 l1_1 l1_2 l1_3).bind fun t4 => ((spec_ChainAutomaton.f k t3.1 t3.2.1 t3.2.2.1 t3.2.2.2 t4.1 t4.2.1 t4.2.2.1 t4.2.2.2).bind fun t5 => ((laws_toAutomaton.f k a0_0 l0_1 l0_2 l0_3).bind fun t6 => ((laws_toAutomaton.f k a1_0 l1_1 l1_2 l1_3).bind fun t7 => ((impl_ChainAutomaton.f k t6.1 t6.2.1 t6.2.2.1 t6.2.2.2 t7.1 t7.2.1 t7.2.2.1 t7.2.2.2).bind fun t8 => ((laws_eqAutomaton.f k t8.1 t8.2.1 t8.2.2.1 t8.2.2.2.1 t5.1 t5.2.1 t5.2.2.1 t5.2.2.2.1).bind fun t9 => (if t9 = true then (if (t8.2.2.2.2 != t5.2.2.2.2) = true then (some false) else ((laws_toAutomaton.f k a0_0 l0_1 l0_2 l0_3).bind fun t10 => ((laws_eqAutomaton.f k t6.1 t6.2.1 t6.2.2.1 t6.2.2.2 t10.1 t10.2.1 t10.2.2.1 t10.2.2.2).bind fun t11 => (if t11 = true then ((laws_toAutomaton.f k a1_0 l1_1 l1_2 l1_3).bind fun t12 => ((laws_eqAutomaton.f k t7.1 t7.2.1 t7.2.2.1 t7.2.2.2 t12.1 t12.2.1 t12.2.2.1 t12.2.2.2).bind fun t13 => (if t13 = true then ((laws_markAutomaton.f k t6.1 t6.2.1 t6.2.2.1 t6.2.2.2 1).bind fun t14 => ((laws_markAutomaton.f k t7.1 t7.2.1 t7.2.2.1 t7.2.2.2 t14.1).bind fun t15 => (if t15.1 < 0 then (some false) else ((laws_eqAutomaton.f k t8.1 t8.2.1 t8.2.2.1 t8.2.2.2.1 t5.1 t5.2.1 t5.2.2.1 t5.2.2.2.1).bind fun t16 => (if t16 = true then ((laws_markAutomaton.f k t8.1 t8.2.1 t8.2.2.1 t8.2.2.2.1 1).bind fun t17 => ((laws_heldAutomaton.f k t8.1 t17.2.1 t17.2.2.1 t17.2.2.2 1).bind fun t18 => (if t18 < 0 then (some false) else (if t18 = t17.1 then ((laws_toAutomaton.f k a0_0 l0_1 l0_2 l0_3).bind fun t19 => ((laws_toAutomaton.f k a1_0 l1_1 l1_2 l1_3).bind fun t20 => ((impl_ChainAutomaton.f k t19.1 t19.2.1 t19.2.2.1 t19.2.2.2 t20.1 t20.2.1 t20.2.2.1 t20.2.2.2).bind fun t21 => ((laws_eqAutomaton.f k t21.1 t21.2.1 t21.2.2.1 t21.2.2.2.1 t5.1 t5.2.1 t5.2.2.1 t5.2.2.2.1).bind fun t22 => (if t22 = true then (if (t21.2.2.2.2 != t5.2.2.2.2) = true then (some false) else ((laws_heldAutomaton.f k t8.1 t17.2.1 t17.2.2.1 t17.2.2.2 1).bind fun t23 => (if t23 < 0 then (some false) else (if t23 = t17.1 then (some true) else (some false))))) else (some false)))))) else (some false))))) else (some false)))))) else (some false)))) else (some false))))) else (some false)))))))))))))
def laws_FnExactChainAutomaton.en (r : Bool) : Res := (.lit r, [])
def laws_FnExactChainAutomaton.dec : List AV → List R.Obj → Option (Int × (List Int) × (List Int) × (List Stp) × Int × (List Int) × (List Int) × (List Stp))
  | [.agg [.int .i64 a0_0, .imm (.I .i64 l0_1), .imm (.I .i64 l0_2), .imm (.T l0_3)], .agg [.int .i64 a1_0, .imm (.I .i64 l1_1), .imm (.I .i64 l1_2), .imm (.T l1_3)]], [] => some (a0_0, l0_1, l0_2, l0_3, a1_0, l1_1, l1_2, l1_3)
  | _, _ => none
def laws_FnExactChainAutomaton.tw : Tw := ⟨8, Int × (List Int) × (List Int) × (List Stp) × Int × (List Int) × (List Int) × (List Stp), Bool, laws_FnExactChainAutomaton.dec, fun a => [.agg [.int .i64 a.1, .imm (.I .i64 a.2.1), .imm (.I .i64 a.2.2.1), .imm (.T a.2.2.2.1)], .agg [.int .i64 a.2.2.2.2.1, .imm (.I .i64 a.2.2.2.2.2.1), .imm (.I .i64 a.2.2.2.2.2.2.1), .imm (.T a.2.2.2.2.2.2.2)]], fun a => [], fun k a => laws_FnExactChainAutomaton.f k a.1 a.2.1 a.2.2.1 a.2.2.2.1 a.2.2.2.2.1 a.2.2.2.2.2.1 a.2.2.2.2.2.2.1 a.2.2.2.2.2.2.2, fun a r => laws_FnExactChainAutomaton.en r, false⟩
theorem laws_FnExactChainAutomaton.dok : laws_FnExactChainAutomaton.tw.DecOk := by
  intro args hc a h
  have h : laws_FnExactChainAutomaton.dec args hc = some a := h
  unfold laws_FnExactChainAutomaton.dec at h
  split at h
  · cases h; exact ⟨rfl, rfl⟩
  · cases h
noncomputable def laws_FnExactChainAutomaton.O (k : Nat) : Oracle := (laws_szAutomaton.tw.orc k (laws_toAutomaton.tw.orc k (spec_ChainAutomaton.tw.orc k (impl_ChainAutomaton.tw.orc k (laws_eqAutomaton.tw.orc k (laws_markAutomaton.tw.orc k (laws_heldAutomaton.tw.orc k noO)))))))
def laws_FnExactChainAutomaton.fh : FH := ⟨fun i => match i with | _ => none, [], false⟩
set_option maxRecDepth 100000 in
theorem laws_FnExactChainAutomaton.ef (k : Nat) (a0_0 : Int) (l0_1 : List Int) (l0_2 : List Int) (l0_3 : List Stp) (a1_0 : Int) (l1_1 : List Int) (l1_2 : List Int) (l1_3 : List Stp) : R.start Try.prog xhn laws_FnExactChainAutomaton.O 0 Try.f8 laws_FnExactChainAutomaton.fh k [.agg [.int .i64 a0_0, .imm (.I .i64 l0_1), .imm (.I .i64 l0_2), .imm (.T l0_3)], .agg [.int .i64 a1_0, .imm (.I .i64 l1_1), .imm (.I .i64 l1_2), .imm (.T l1_3)]] [] = ((laws_szAutomaton.f k a0_0 l0_1 l0_2 l0_3 1048576).bind fun t1 => (if t1 < 0 then (some (laws_FnExactChainAutomaton.en true)) else ((laws_szAutomaton.f k a1_0 l1_1 l1_2 l1_3 t1).bind fun t2 => (if t2 < 0 then (some (laws_FnExactChainAutomaton.en true)) else ((laws_toAutomaton.f k a0_0 l0_1 l0_2 l0_3).bind fun t3 => ((laws_toAutomaton.f k a1_0 l1_1 l1_2 l1_3).bind fun t4 => ((spec_ChainAutomaton.f k t3.1 t3.2.1 t3.2.2.1 t3.2.2.2 t4.1 t4.2.1 t4.2.2.1 t4.2.2.2).bind fun t5 => ((laws_toAutomaton.f k a0_0 l0_1 l0_2 l0_3).bind fun t6 => ((laws_toAutomaton.f k a1_0 l1_1 l1_2 l1_3).bind fun t7 => ((impl_ChainAutomaton.f k t6.1 t6.2.1 t6.2.2.1 t6.2.2.2 t7.1 t7.2.1 t7.2.2.1 t7.2.2.2).bind fun t8 => ((laws_eqAutomaton.f k t8.1 t8.2.1 t8.2.2.1 t8.2.2.2.1 t5.1 t5.2.1 t5.2.2.1 t5.2.2.2.1).bind fun t9 => (if t9 = true then (if (t8.2.2.2.2 != t5.2.2.2.2) = true then (some (laws_FnExactChainAutomaton.en false)) else ((laws_toAutomaton.f k a0_0 l0_1 l0_2 l0_3).bind fun t10 => ((laws_eqAutomaton.f k t6.1 t6.2.1 t6.2.2.1 t6.2.2.2 t10.1 t10.2.1 t10.2.2.1 t10.2.2.2).bind fun t11 => (if t11 = true then ((laws_toAutomaton.f k a1_0 l1_1 l1_2 l1_3).bind fun t12 => ((laws_eqAutomaton.f k t7.1 t7.2.1 t7.2.2.1 t7.2.2.2 t12.1 t12.2.1 t12.2.2.1 t12.2.2.2).bind fun t13 => (if t13 = true then ((laws_markAutomaton.f k t6.1 t6.2.1 t6.2.2.1 t6.2.2.2 1).bind fun t14 => ((laws_markAutomaton.f k t7.1 t7.2.1 t7.2.2.1 t7.2.2.2 t14.1).bind fun t15 => (if t15.1 < 0 then (some (laws_FnExactChainAutomaton.en false)) else ((laws_eqAutomaton.f k t8.1 t8.2.1 t8.2.2.1 t8.2.2.2.1 t5.1 t5.2.1 t5.2.2.1 t5.2.2.2.1).bind fun t16 => (if t16 = true then ((laws_markAutomaton.f k t8.1 t8.2.1 t8.2.2.1 t8.2.2.2.1 1).bind fun t17 => ((laws_heldAutomaton.f k t8.1 t17.2.1 t17.2.2.1 t17.2.2.2 1).bind fun t18 => (if t18 < 0 then (some (laws_FnExactChainAutomaton.en false)) else (if t18 = t17.1 then ((laws_toAutomaton.f k a0_0 l0_1 l0_2 l0_3).bind fun t19 => ((laws_toAutomaton.f k a1_0 l1_1 l1_2 l1_3).bind fun t20 => ((impl_ChainAutomaton.f k t19.1 t19.2.1 t19.2.2.1 t19.2.2.2 t20.1 t20.2.1 t20.2.2.1 t20.2.2.2).bind fun t21 => ((laws_eqAutomaton.f k t21.1 t21.2.1 t21.2.2.1 t21.2.2.2.1 t5.1 t5.2.1 t5.2.2.1 t5.2.2.2.1).bind fun t22 => (if t22 = true then (if (t21.2.2.2.2 != t5.2.2.2.2) = true then (some (laws_FnExactChainAutomaton.en false)) else ((laws_heldAutomaton.f k t8.1 t17.2.1 t17.2.2.1 t17.2.2.2 1).bind fun t23 => (if t23 < 0 then (some (laws_FnExactChainAutomaton.en false)) else (if t23 = t17.1 then (some (laws_FnExactChainAutomaton.en true)) else (some (laws_FnExactChainAutomaton.en false)))))) else (some (laws_FnExactChainAutomaton.en false))))))) else (some (laws_FnExactChainAutomaton.en false)))))) else (some (laws_FnExactChainAutomaton.en false))))))) else (some (laws_FnExactChainAutomaton.en false))))) else (some (laws_FnExactChainAutomaton.en false)))))) else (some (laws_FnExactChainAutomaton.en false)))))))))))))) := by
  refine Eq.trans ?_ (R.bcong fun t1 => (R.icong (fun h0 => rfl) (fun h0 => (R.bcong fun t2 => (R.icong (fun h1 => rfl) (fun h1 => (R.bcong fun t3 => (R.bcong fun t4 => (R.bcong fun t5 => (R.bcong fun t6 => (R.bcong fun t7 => (R.bcong fun t8 => (R.bcong fun t9 => (R.icong (fun h2 => (R.icong (fun h3 => rfl) (fun h3 => (R.bcong fun t10 => (R.bcong fun t11 => (R.icong (fun h4 => (R.bcong fun t12 => (R.bcong fun t13 => (R.icong (fun h5 => (R.bcong fun t14 => (R.bcong fun t15 => (R.icong (fun h6 => rfl) (fun h6 => (R.bcong fun t16 => (R.icong (fun h7 => (R.idropF (p := (t8.2.2.2.2 != t5.2.2.2.2) = true) (z := (some (laws_FnExactChainAutomaton.en false))) h3 rfl)) (fun h7 => rfl)))))))) (fun h5 => rfl))))) (fun h4 => rfl))))))) (fun h2 => rfl)))))))))))))))
  kernel_rfl
theorem laws_FnExactChainAutomaton.sf (k : Nat) (a0_0 : Int) (l0_1 : List Int) (l0_2 : List Int) (l0_3 : List Stp) (a1_0 : Int) (l1_1 : List Int) (l1_2 : List Int) (l1_3 : List Stp) : R.start Try.prog xhn laws_FnExactChainAutomaton.O 0 Try.f8 laws_FnExactChainAutomaton.fh k [.agg [.int .i64 a0_0, .imm (.I .i64 l0_1), .imm (.I .i64 l0_2), .imm (.T l0_3)], .agg [.int .i64 a1_0, .imm (.I .i64 l1_1), .imm (.I .i64 l1_2), .imm (.T l1_3)]] [] = (laws_FnExactChainAutomaton.f k a0_0 l0_1 l0_2 l0_3 a1_0 l1_1 l1_2 l1_3).map (laws_FnExactChainAutomaton.en) := by
  rw [laws_FnExactChainAutomaton.ef]
  simp only [laws_FnExactChainAutomaton.f, R.map_ite, R.map_bind, R.map_none, R.map_some, R.wr64_eq]
theorem laws_FnExactChainAutomaton.ok (k : Nat) : laws_FnExactChainAutomaton.tw.Ok Try.prog k := by
  intro md hmd a r h
  refine fn_ok (H := xhn) (fh := laws_FnExactChainAutomaton.fh) (O := laws_FnExactChainAutomaton.O) (k := k) Try.func8 (by kernel_rfl) (by kernel_rfl) (fun j _ => (Tw.orc_sound laws_szAutomaton.dok (laws_szAutomaton.ok j) (fun _ => rfl) (Tw.orc_sound laws_toAutomaton.dok (laws_toAutomaton.ok j) (fun _ => rfl) (Tw.orc_sound spec_ChainAutomaton.dok (spec_ChainAutomaton.ok j) (fun _ => rfl) (Tw.orc_sound impl_ChainAutomaton.dok (impl_ChainAutomaton.ok j) (fun q => Bool.noConfusion (show false = true from hmd q)) (Tw.orc_sound laws_eqAutomaton.dok (laws_eqAutomaton.ok j) (fun _ => rfl) (Tw.orc_sound laws_markAutomaton.dok (laws_markAutomaton.ok j) (fun _ => rfl) (Tw.orc_sound laws_heldAutomaton.dok (laws_heldAutomaton.ok j) (fun _ => rfl) noO_sound)))))))) (by kernel_rfl) (m := 0) rfl ?_
  refine (laws_FnExactChainAutomaton.sf k a.1 a.2.1 a.2.2.1 a.2.2.2.1 a.2.2.2.2.1 a.2.2.2.2.2.1 a.2.2.2.2.2.2.1 a.2.2.2.2.2.2.2).trans ?_
  exact congrArg (Option.map _) h
end Go.Proofs.Ytoeeeafknajkkaa.V
end
