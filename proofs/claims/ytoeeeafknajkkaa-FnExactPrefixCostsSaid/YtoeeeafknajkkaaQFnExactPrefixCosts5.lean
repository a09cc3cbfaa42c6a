import Derived.Test.YtoeeeafknajkkaaQFnExactPrefixCosts2
import Derived.Test.YtoeeeafknajkkaaQFnExactPrefixCosts4
import Derived.Test.YtoeeeafknajkkaaProg
import Derived.WalkKit
import Derived.ProofKit
import Derived.Lib.Bytealg
section
set_option linter.unusedVariables false
set_option linter.unusedSimpArgs false
namespace Go.Proofs.Ytoeeeafknajkkaa.V
open Go Go.Proofs.Ytoeeeafknajkkaa.R Go.RowKit
def xhn : R.Hints := ⟨fun e => match e with | 3 => some (.I .i64) | 5 => some (.I .u8) | 22 => some .L | 67 => some .T | _ => none, fun f => match f with | 20 => 2 | 35 => 2 | 67 => 2 | 95 => 2 | 116 => 2 | 117 => 2 | _ => 0⟩
def laws_szIntS.f (l0 : List Int) (a1 : Int) : Option (Int) := (if (wrap64 (a1 - (l0.length : Int))) < 0 then (some (-1)) else (some (wrap64 (a1 - (l0.length : Int)))))
def laws_szIntS.en (r : Int) : Res := (.int .i64 r, [])
def laws_szIntS.dec : List AV → List R.Obj → Option ((List Int) × Int)
  | [.imm (.I .i64 l0), .int .i64 a1], [] => some (l0, a1)
  | _, _ => none
def laws_szIntS.tw : Tw := ⟨55, (List Int) × Int, Int, laws_szIntS.dec, fun a => [.imm (.I .i64 a.1), .int .i64 a.2], fun a => [], fun k a => laws_szIntS.f a.1 a.2, fun a r => laws_szIntS.en r, true⟩
theorem laws_szIntS.dok : laws_szIntS.tw.DecOk := by
  intro args hc a h
  have h : laws_szIntS.dec args hc = some a := h
  unfold laws_szIntS.dec at h
  split at h
  · cases h; exact ⟨rfl, rfl⟩
  · cases h
noncomputable def laws_szIntS.O (k : Nat) : Oracle := noO
def laws_szIntS.fh : FH := ⟨fun i => match i with | _ => none, [], false⟩
set_option maxRecDepth 100000 in
theorem laws_szIntS.ef (k : Nat) (l0 : List Int) (a1 : Int) : R.start Try.prog xhn laws_szIntS.O 0 Try.f55 laws_szIntS.fh k [.imm (.I .i64 l0), .int .i64 a1] [] = (if (wr64 (a1 - (l0.length : Int))) < 0 then (some (laws_szIntS.en (-1))) else (some (laws_szIntS.en (wr64 (a1 - (l0.length : Int)))))) := by kernel_rfl
theorem laws_szIntS.sf (k : Nat) (l0 : List Int) (a1 : Int) : R.start Try.prog xhn laws_szIntS.O 0 Try.f55 laws_szIntS.fh k [.imm (.I .i64 l0), .int .i64 a1] [] = (laws_szIntS.f l0 a1).map (laws_szIntS.en) := by
  rw [laws_szIntS.ef]
  simp only [laws_szIntS.f, R.map_ite, R.map_bind, R.map_none, R.map_some, R.wr64_eq]
theorem laws_szIntS.ok (k : Nat) : laws_szIntS.tw.Ok Try.prog k := by
  intro md hmd a r h
  refine fn_ok (H := xhn) (fh := laws_szIntS.fh) (O := laws_szIntS.O) (k := k) Try.func55 (by kernel_rfl) (by kernel_rfl) (fun j _ => noO_sound) (by kernel_rfl) (m := 0) rfl ?_
  refine (laws_szIntS.sf k a.1 a.2).trans ?_
  exact congrArg (Option.map _) h
def laws_szStep.f (a0_0 : Int) (a0_1 : ByteArray) (a0_2 : Int) (a0_3 : Int) (a1 : Int) : Option (Int) := (if (wrap64 (a1 - (a0_1.size : Int))) < 0 then (some (-1)) else (some (wrap64 (a1 - (a0_1.size : Int)))))
def laws_szStep.en (r : Int) : Res := (.int .i64 r, [])
def laws_szStep.dec : List AV → List R.Obj → Option (Int × ByteArray × Int × Int × Int)
  | [.agg [.int .i64 a0_0, .str a0_1, .int .i64 a0_2, .int .i64 a0_3], .int .i64 a1], [] => some (a0_0, a0_1, a0_2, a0_3, a1)
  | _, _ => none
def laws_szStep.tw : Tw := ⟨110, Int × ByteArray × Int × Int × Int, Int, laws_szStep.dec, fun a => [.agg [.int .i64 a.1, .str a.2.1, .int .i64 a.2.2.1, .int .i64 a.2.2.2.1], .int .i64 a.2.2.2.2], fun a => [], fun k a => laws_szStep.f a.1 a.2.1 a.2.2.1 a.2.2.2.1 a.2.2.2.2, fun a r => laws_szStep.en r, true⟩
theorem laws_szStep.dok : laws_szStep.tw.DecOk := by
  intro args hc a h
  have h : laws_szStep.dec args hc = some a := h
  unfold laws_szStep.dec at h
  split at h
  · cases h; exact ⟨rfl, rfl⟩
  · cases h
noncomputable def laws_szStep.O (k : Nat) : Oracle := noO
def laws_szStep.fh : FH := ⟨fun i => match i with | _ => none, [], false⟩
set_option maxRecDepth 100000 in
theorem laws_szStep.ef (k : Nat) (a0_0 : Int) (a0_1 : ByteArray) (a0_2 : Int) (a0_3 : Int) (a1 : Int) : R.start Try.prog xhn laws_szStep.O 0 Try.f110 laws_szStep.fh k [.agg [.int .i64 a0_0, .str a0_1, .int .i64 a0_2, .int .i64 a0_3], .int .i64 a1] [] = (if (wr64 (a1 - (a0_1.size : Int))) < 0 then (some (laws_szStep.en (-1))) else (some (laws_szStep.en (wr64 (a1 - (a0_1.size : Int)))))) := by kernel_rfl
theorem laws_szStep.sf (k : Nat) (a0_0 : Int) (a0_1 : ByteArray) (a0_2 : Int) (a0_3 : Int) (a1 : Int) : R.start Try.prog xhn laws_szStep.O 0 Try.f110 laws_szStep.fh k [.agg [.int .i64 a0_0, .str a0_1, .int .i64 a0_2, .int .i64 a0_3], .int .i64 a1] [] = (laws_szStep.f a0_0 a0_1 a0_2 a0_3 a1).map (laws_szStep.en) := by
  rw [laws_szStep.ef]
  simp only [laws_szStep.f, R.map_ite, R.map_bind, R.map_none, R.map_some, R.wr64_eq]
theorem laws_szStep.ok (k : Nat) : laws_szStep.tw.Ok Try.prog k := by
  intro md hmd a r h
  refine fn_ok (H := xhn) (fh := laws_szStep.fh) (O := laws_szStep.O) (k := k) Try.func110 (by kernel_rfl) (by kernel_rfl) (fun j _ => noO_sound) (by kernel_rfl) (m := 0) rfl ?_
  refine (laws_szStep.sf k a.1 a.2.1 a.2.2.1 a.2.2.2.1 a.2.2.2.2).trans ?_
  exact congrArg (Option.map _) h
def laws_szStepS.l0 : Nat → (List Stp) → Int → Int → Option (Int)
  | 0, _, _, _ => none
  | k + 1, x0, x1, x5 => (if x5 < (x0.length : Int) then (if 0 ≤ x5 then ((laws_szStep.f ((rdT x0 x5).f0) ((rdT x0 x5).f1) ((rdT x0 x5).f2) ((rdT x0 x5).f3) x1).bind fun t1 => (if t1 < 0 then (some (-1)) else (laws_szStepS.l0 k x0 t1 (wrap64 (x5 + 1))))) else none) else (some x1))
def laws_szStepS.f (k : Nat) (l0 : List Stp) (a1 : Int) : Option (Int) := (if (wrap64 (a1 - (l0.length : Int))) < 0 then (some (-1)) else (laws_szStepS.l0 k l0 (wrap64 (a1 - (l0.length : Int))) 0))
def laws_szStepS.en (r : Int) : Res := (.int .i64 r, [])
def laws_szStepS.dec : List AV → List R.Obj → Option ((List Stp) × Int)
  | [.imm (.T l0), .int .i64 a1], [] => some (l0, a1)
  | _, _ => none
def laws_szStepS.tw : Tw := ⟨56, (List Stp) × Int, Int, laws_szStepS.dec, fun a => [.imm (.T a.1), .int .i64 a.2], fun a => [], fun k a => laws_szStepS.f k a.1 a.2, fun a r => laws_szStepS.en r, true⟩
theorem laws_szStepS.dok : laws_szStepS.tw.DecOk := by
  intro args hc a h
  have h : laws_szStepS.dec args hc = some a := h
  unfold laws_szStepS.dec at h
  split at h
  · cases h; exact ⟨rfl, rfl⟩
  · cases h
noncomputable def laws_szStepS.O (k : Nat) : Oracle := (laws_szStep.tw.orc k noO)
def laws_szStepS.fh : FH := ⟨fun i => match i with | 5 => some [(0, 0), (1, 0), (5, 0)] | _ => none, [], false⟩
noncomputable def laws_szStepS.x0 (k : Nat) (x0 : List Stp) (x1 : Int) (x5 : Int) : Option Res := R.exec Try.prog xhn laws_szStepS.O 0 Try.f56 laws_szStepS.fh k (R.point Try.f56 5) ⟨[(0, .imm (.T x0)), (1, .int .i64 x1), (5, .int .i64 x5)], [], 2⟩
set_option maxRecDepth 100000 in
theorem laws_szStepS.e0 (k : Nat) (x0 : List Stp) (x1 : Int) (x5 : Int) : laws_szStepS.x0 (k + 1) x0 x1 x5 = (if x5 < (x0.length : Int) then (if 0 ≤ x5 then ((laws_szStep.f ((rdT x0 x5).f0) ((rdT x0 x5).f1) ((rdT x0 x5).f2) ((rdT x0 x5).f3) x1).bind fun t1 => (if t1 < 0 then (some (laws_szStepS.en (-1))) else (laws_szStepS.x0 k x0 t1 (wr64 (x5 + 1))))) else none) else (some (laws_szStepS.en x1))) := by
  refine Eq.trans ?_ (R.icong (fun h0 => (R.icong (fun h1 => (R.idropT (p := x5 < (x0.length : Int)) (z := none) h0 rfl)) (fun h1 => rfl))) (fun h0 => rfl))
  kernel_rfl
set_option maxRecDepth 100000 in
theorem laws_szStepS.ef (k : Nat) (l0 : List Stp) (a1 : Int) : R.start Try.prog xhn laws_szStepS.O 0 Try.f56 laws_szStepS.fh k [.imm (.T l0), .int .i64 a1] [] = (if (wr64 (a1 - (l0.length : Int))) < 0 then (some (laws_szStepS.en (-1))) else (laws_szStepS.x0 k l0 (wr64 (a1 - (l0.length : Int))) 0)) := by kernel_rfl
theorem laws_szStepS.link : ∀ k, (∀ (x0 : List Stp) (x1 : Int) (x5 : Int), laws_szStepS.x0 k x0 x1 x5 = (laws_szStepS.l0 k x0 x1 x5).map (laws_szStepS.en))
  | 0 => fun _ _ _ => by simp only [laws_szStepS.l0, R.map_none]; rfl
  | k + 1 => by
    have ih0 := laws_szStepS.link k
    · intro x0 x1 x5
      rw [laws_szStepS.e0]
      simp only [laws_szStepS.l0, R.map_ite, R.map_bind, R.map_none, R.map_some, R.wr64_eq, ← ih0]
theorem laws_szStepS.sf (k : Nat) (l0 : List Stp) (a1 : Int) : R.start Try.prog xhn laws_szStepS.O 0 Try.f56 laws_szStepS.fh k [.imm (.T l0), .int .i64 a1] [] = (laws_szStepS.f k l0 a1).map (laws_szStepS.en) := by
  have ih0 := laws_szStepS.link k
  rw [laws_szStepS.ef]
  simp only [laws_szStepS.f, R.map_ite, R.map_bind, R.map_none, R.map_some, R.wr64_eq, ← ih0]
theorem laws_szStepS.ok (k : Nat) : laws_szStepS.tw.Ok Try.prog k := by
  intro md hmd a r h
  refine fn_ok (H := xhn) (fh := laws_szStepS.fh) (O := laws_szStepS.O) (k := k) Try.func56 (by kernel_rfl) (by kernel_rfl) (fun j _ => (Tw.orc_sound laws_szStep.dok (laws_szStep.ok j) (fun _ => rfl) noO_sound)) (by kernel_rfl) (m := 0) rfl ?_
  refine (laws_szStepS.sf k a.1 a.2).trans ?_
  exact congrArg (Option.map _) h
def laws_szAutomaton.f (k : Nat) (a0_0 : Int) (l0_1 : List Int) (l0_2 : List Int) (l0_3 : List Stp) (a1 : Int) : Option (Int) := ((laws_szIntS.f l0_1 a1).bind fun t1 => (if t1 < 0 then (some (-1)) else ((laws_szIntS.f l0_2 t1).bind fun t2 => (if t2 < 0 then (some (-1)) else ((laws_szStepS.f k l0_3 t2).bind fun t3 => (if t3 < 0 then (some (-1)) else (some t3)))))))
def laws_szAutomaton.en (r : Int) : Res := (.int .i64 r, [])
def laws_szAutomaton.dec : List AV → List R.Obj → Option (Int × (List Int) × (List Int) × (List Stp) × Int)
  | [.agg [.int .i64 a0_0, .imm (.I .i64 l0_1), .imm (.I .i64 l0_2), .imm (.T l0_3)], .int .i64 a1], [] => some (a0_0, l0_1, l0_2, l0_3, a1)
  | _, _ => none
def laws_szAutomaton.tw : Tw := ⟨15, Int × (List Int) × (List Int) × (List Stp) × Int, Int, laws_szAutomaton.dec, fun a => [.agg [.int .i64 a.1, .imm (.I .i64 a.2.1), .imm (.I .i64 a.2.2.1), .imm (.T a.2.2.2.1)], .int .i64 a.2.2.2.2], fun a => [], fun k a => laws_szAutomaton.f k a.1 a.2.1 a.2.2.1 a.2.2.2.1 a.2.2.2.2, fun a r => laws_szAutomaton.en r, true⟩
theorem laws_szAutomaton.dok : laws_szAutomaton.tw.DecOk := by
  intro args hc a h
  have h : laws_szAutomaton.dec args hc = some a := h
  unfold laws_szAutomaton.dec at h
  split at h
  · cases h; exact ⟨rfl, rfl⟩
  · cases h
noncomputable def laws_szAutomaton.O (k : Nat) : Oracle := (laws_szIntS.tw.orc k (laws_szStepS.tw.orc k noO))
def laws_szAutomaton.fh : FH := ⟨fun i => match i with | _ => none, [], false⟩
set_option maxRecDepth 100000 in
theorem laws_szAutomaton.ef (k : Nat) (a0_0 : Int) (l0_1 : List Int) (l0_2 : List Int) (l0_3 : List Stp) (a1 : Int) : R.start Try.prog xhn laws_szAutomaton.O 0 Try.f15 laws_szAutomaton.fh k [.agg [.int .i64 a0_0, .imm (.I .i64 l0_1), .imm (.I .i64 l0_2), .imm (.T l0_3)], .int .i64 a1] [] = ((laws_szIntS.f l0_1 a1).bind fun t1 => (if t1 < 0 then (some (laws_szAutomaton.en (-1))) else ((laws_szIntS.f l0_2 t1).bind fun t2 => (if t2 < 0 then (some (laws_szAutomaton.en (-1))) else ((laws_szStepS.f k l0_3 t2).bind fun t3 => (if t3 < 0 then (some (laws_szAutomaton.en (-1))) else (some (laws_szAutomaton.en t3)))))))) := by kernel_rfl
theorem laws_szAutomaton.sf (k : Nat) (a0_0 : Int) (l0_1 : List Int) (l0_2 : List Int) (l0_3 : List Stp) (a1 : Int) : R.start Try.prog xhn laws_szAutomaton.O 0 Try.f15 laws_szAutomaton.fh k [.agg [.int .i64 a0_0, .imm (.I .i64 l0_1), .imm (.I .i64 l0_2), .imm (.T l0_3)], .int .i64 a1] [] = (laws_szAutomaton.f k a0_0 l0_1 l0_2 l0_3 a1).map (laws_szAutomaton.en) := by
  rw [laws_szAutomaton.ef]
  simp only [laws_szAutomaton.f, R.map_ite, R.map_bind, R.map_none, R.map_some, R.wr64_eq]
theorem laws_szAutomaton.ok (k : Nat) : laws_szAutomaton.tw.Ok Try.prog k := by
  intro md hmd a r h
  refine fn_ok (H := xhn) (fh := laws_szAutomaton.fh) (O := laws_szAutomaton.O) (k := k) Try.func15 (by kernel_rfl) (by kernel_rfl) (fun j _ => (Tw.orc_sound laws_szIntS.dok (laws_szIntS.ok j) (fun _ => rfl) (Tw.orc_sound laws_szStepS.dok (laws_szStepS.ok j) (fun _ => rfl) noO_sound))) (by kernel_rfl) (m := 0) rfl ?_
  refine (laws_szAutomaton.sf k a.1 a.2.1 a.2.2.1 a.2.2.2.1 a.2.2.2.2).trans ?_
  exact congrArg (Option.map _) h
def laws_toIntS.l0 : Nat → (List Int) → (List Int) → Int → Option (List Int)
  | 0, _, _, _ => none
  | k + 1, x0, y0, x4 => (if x4 < (x0.length : Int) then (if 0 ≤ x4 then (if x4 < (y0.length : Int) then (laws_toIntS.l0 k x0 (y0.set x4.toNat (rdI x0 x4)) (wrap64 (x4 + 1))) else none) else none) else (some y0))
def laws_toIntS.f (k : Nat) (l0 : List Int) : Option (List Int) := (if 0 ≤ (l0.length : Int) then (if (l0.length : Int).toNat ≤ 17592186044416 then (laws_toIntS.l0 k l0 (List.replicate (l0.length : Int).toNat 0) 0) else none) else none)
def laws_toIntS.en (r : List Int) : Res := (.sl 0 0, [.arr 3 0 (.I .i64 r) false])
def laws_toIntS.dec : List AV → List R.Obj → Option (List Int)
  | [.imm (.I .i64 l0)], [] => some l0
  | _, _ => none
def laws_toIntS.tw : Tw := ⟨61, List Int, List Int, laws_toIntS.dec, fun a => [.imm (.I .i64 a)], fun a => [], fun k a => laws_toIntS.f k a, fun a r => laws_toIntS.en r, true⟩
theorem laws_toIntS.dok : laws_toIntS.tw.DecOk := by
  intro args hc a h
  have h : laws_toIntS.dec args hc = some a := h
  unfold laws_toIntS.dec at h
  split at h
  · cases h; exact ⟨rfl, rfl⟩
  · cases h
noncomputable def laws_toIntS.O (k : Nat) : Oracle := noO
def laws_toIntS.fh : FH := ⟨fun i => match i with | 3 => some [(0, 0), (3, 0), (4, 0)] | _ => none, [(true, 3)], false⟩
noncomputable def laws_toIntS.x0 (k : Nat) (x0 : List Int) (y0 : List Int) (x4 : Int) : Option Res := R.exec Try.prog xhn laws_toIntS.O 0 Try.f61 laws_toIntS.fh k (R.point Try.f61 3) ⟨[(0, .imm (.I .i64 x0)), (3, .sl 0 0), (4, .int .i64 x4)], [(0, .arr 3 0 (.I .i64 y0) false)], 3⟩
set_option maxRecDepth 100000 in
theorem laws_toIntS.e0 (k : Nat) (x0 : List Int) (y0 : List Int) (x4 : Int) : laws_toIntS.x0 (k + 1) x0 y0 x4 = (if x4 < (x0.length : Int) then (if 0 ≤ x4 then (if x4 < (y0.length : Int) then (laws_toIntS.x0 k x0 (y0.set x4.toNat (rdI x0 x4)) (wr64 (x4 + 1))) else none) else none) else (some (laws_toIntS.en y0))) := by
  refine Eq.trans ?_ (R.icong (fun h0 => (R.icong (fun h1 => (R.idropT (p := x4 < (x0.length : Int)) (z := none) h0 (R.idropT (p := 0 ≤ x4) (z := none) h1 rfl))) (fun h1 => rfl))) (fun h0 => rfl))
  kernel_rfl
set_option maxRecDepth 100000 in
theorem laws_toIntS.ef (k : Nat) (l0 : List Int) : R.start Try.prog xhn laws_toIntS.O 0 Try.f61 laws_toIntS.fh k [.imm (.I .i64 l0)] [] = (if 0 ≤ (l0.length : Int) then (if (l0.length : Int).toNat ≤ 17592186044416 then (laws_toIntS.x0 k l0 (List.replicate (l0.length : Int).toNat 0) 0) else none) else none) := by
  refine Eq.trans ?_ (R.icong (fun h0 => (R.idropT (p := (l0.length : Int) = (l0.length : Int)) (z := none) rfl rfl)) (fun h0 => rfl))
  kernel_rfl
theorem laws_toIntS.link : ∀ k, (∀ (x0 : List Int) (y0 : List Int) (x4 : Int), laws_toIntS.x0 k x0 y0 x4 = (laws_toIntS.l0 k x0 y0 x4).map (laws_toIntS.en))
  | 0 => fun _ _ _ => by simp only [laws_toIntS.l0, R.map_none]; rfl
  | k + 1 => by
    have ih0 := laws_toIntS.link k
    · intro x0 y0 x4
      rw [laws_toIntS.e0]
      simp only [laws_toIntS.l0, R.map_ite, R.map_bind, R.map_none, R.map_some, R.wr64_eq, ← ih0]
theorem laws_toIntS.sf (k : Nat) (l0 : List Int) : R.start Try.prog xhn laws_toIntS.O 0 Try.f61 laws_toIntS.fh k [.imm (.I .i64 l0)] [] = (laws_toIntS.f k l0).map (laws_toIntS.en) := by
  have ih0 := laws_toIntS.link k
  rw [laws_toIntS.ef]
  simp only [laws_toIntS.f, R.map_ite, R.map_bind, R.map_none, R.map_some, R.wr64_eq, ← ih0]
theorem laws_toIntS.ok (k : Nat) : laws_toIntS.tw.Ok Try.prog k := by
  intro md hmd a r h
  refine fn_ok (H := xhn) (fh := laws_toIntS.fh) (O := laws_toIntS.O) (k := k) Try.func61 (by kernel_rfl) (by kernel_rfl) (fun j _ => noO_sound) (by kernel_rfl) (m := 0) rfl ?_
  refine (laws_toIntS.sf k a).trans ?_
  exact congrArg (Option.map _) h
def laws_toStep.f (a0_0 : Int) (a0_1 : ByteArray) (a0_2 : Int) (a0_3 : Int) : Option (Int × ByteArray × Int × Int) := (some (a0_0, a0_1, a0_2, a0_3))
def laws_toStep.en (r : Int × ByteArray × Int × Int) : Res := (.agg [.int .i64 r.1, .str r.2.1, .int .i64 r.2.2.1, .int .i64 r.2.2.2], [])
def laws_toStep.dec : List AV → List R.Obj → Option (Int × ByteArray × Int × Int)
  | [.agg [.int .i64 a0_0, .str a0_1, .int .i64 a0_2, .int .i64 a0_3]], [] => some (a0_0, a0_1, a0_2, a0_3)
  | _, _ => none
def laws_toStep.tw : Tw := ⟨114, Int × ByteArray × Int × Int, Int × ByteArray × Int × Int, laws_toStep.dec, fun a => [.agg [.int .i64 a.1, .str a.2.1, .int .i64 a.2.2.1, .int .i64 a.2.2.2]], fun a => [], fun k a => laws_toStep.f a.1 a.2.1 a.2.2.1 a.2.2.2, fun a r => laws_toStep.en r, true⟩
theorem laws_toStep.dok : laws_toStep.tw.DecOk := by
  intro args hc a h
  have h : laws_toStep.dec args hc = some a := h
  unfold laws_toStep.dec at h
  split at h
  · cases h; exact ⟨rfl, rfl⟩
  · cases h
noncomputable def laws_toStep.O (k : Nat) : Oracle := noO
def laws_toStep.fh : FH := ⟨fun i => match i with | _ => none, [], false⟩
set_option maxRecDepth 100000 in
theorem laws_toStep.ef (k : Nat) (a0_0 : Int) (a0_1 : ByteArray) (a0_2 : Int) (a0_3 : Int) : R.start Try.prog xhn laws_toStep.O 0 Try.f114 laws_toStep.fh k [.agg [.int .i64 a0_0, .str a0_1, .int .i64 a0_2, .int .i64 a0_3]] [] = (some (laws_toStep.en (a0_0, a0_1, a0_2, a0_3))) := by kernel_rfl
theorem laws_toStep.sf (k : Nat) (a0_0 : Int) (a0_1 : ByteArray) (a0_2 : Int) (a0_3 : Int) : R.start Try.prog xhn laws_toStep.O 0 Try.f114 laws_toStep.fh k [.agg [.int .i64 a0_0, .str a0_1, .int .i64 a0_2, .int .i64 a0_3]] [] = (laws_toStep.f a0_0 a0_1 a0_2 a0_3).map (laws_toStep.en) := by
  rw [laws_toStep.ef]
  simp only [laws_toStep.f, R.map_ite, R.map_bind, R.map_none, R.map_some, R.wr64_eq]
theorem laws_toStep.ok (k : Nat) : laws_toStep.tw.Ok Try.prog k := by
  intro md hmd a r h
  refine fn_ok (H := xhn) (fh := laws_toStep.fh) (O := laws_toStep.O) (k := k) Try.func114 (by kernel_rfl) (by kernel_rfl) (fun j _ => noO_sound) (by kernel_rfl) (m := 0) rfl ?_
  refine (laws_toStep.sf k a.1 a.2.1 a.2.2.1 a.2.2.2).trans ?_
  exact congrArg (Option.map _) h
def laws_toStepS.l0 : Nat → (List Stp) → (List Stp) → Int → Option (List Stp)
  | 0, _, _, _ => none
  | k + 1, x0, y0, x4 => (if x4 < (x0.length : Int) then (if 0 ≤ x4 then ((laws_toStep.f ((rdT x0 x4).f0) ((rdT x0 x4).f1) ((rdT x0 x4).f2) ((rdT x0 x4).f3)).bind fun t1 => (if x4 < (y0.length : Int) then (laws_toStepS.l0 k x0 (y0.set x4.toNat (⟨t1.1, t1.2.1, t1.2.2.1, t1.2.2.2⟩ : Stp)) (wrap64 (x4 + 1))) else none)) else none) else (some y0))
def laws_toStepS.f (k : Nat) (l0 : List Stp) : Option (List Stp) := (if 0 ≤ (l0.length : Int) then (if (l0.length : Int).toNat ≤ 3518437208883 then (laws_toStepS.l0 k l0 (List.replicate (l0.length : Int).toNat (⟨0, (⟨#[]⟩ : ByteArray), 0, 0⟩ : Stp)) 0) else none) else none)
def laws_toStepS.en (r : List Stp) : Res := (.sl 0 0, [.arr 67 0 (.T r) false])
def laws_toStepS.dec : List AV → List R.Obj → Option (List Stp)
  | [.imm (.T l0)], [] => some l0
  | _, _ => none
def laws_toStepS.tw : Tw := ⟨62, List Stp, List Stp, laws_toStepS.dec, fun a => [.imm (.T a)], fun a => [], fun k a => laws_toStepS.f k a, fun a r => laws_toStepS.en r, true⟩
theorem laws_toStepS.dok : laws_toStepS.tw.DecOk := by
  intro args hc a h
  have h : laws_toStepS.dec args hc = some a := h
  unfold laws_toStepS.dec at h
  split at h
  · cases h; exact ⟨rfl, rfl⟩
  · cases h
noncomputable def laws_toStepS.O (k : Nat) : Oracle := (laws_toStep.tw.orc k noO)
def laws_toStepS.fh : FH := ⟨fun i => match i with | 3 => some [(0, 0), (3, 0), (4, 0)] | _ => none, [(true, 67)], false⟩
noncomputable def laws_toStepS.x0 (k : Nat) (x0 : List Stp) (y0 : List Stp) (x4 : Int) : Option Res := R.exec Try.prog xhn laws_toStepS.O 0 Try.f62 laws_toStepS.fh k (R.point Try.f62 3) ⟨[(0, .imm (.T x0)), (3, .sl 0 0), (4, .int .i64 x4)], [(0, .arr 67 0 (.T y0) false)], 3⟩
set_option maxRecDepth 100000 in
theorem laws_toStepS.e0 (k : Nat) (x0 : List Stp) (y0 : List Stp) (x4 : Int) : laws_toStepS.x0 (k + 1) x0 y0 x4 = (if x4 < (x0.length : Int) then (if 0 ≤ x4 then ((laws_toStep.f ((rdT x0 x4).f0) ((rdT x0 x4).f1) ((rdT x0 x4).f2) ((rdT x0 x4).f3)).bind fun t1 => (if x4 < (y0.length : Int) then (laws_toStepS.x0 k x0 (y0.set x4.toNat (⟨t1.1, t1.2.1, t1.2.2.1, t1.2.2.2⟩ : Stp)) (wr64 (x4 + 1))) else none)) else none) else (some (laws_toStepS.en y0))) := by
  refine Eq.trans ?_ (R.icong (fun h0 => (R.icong (fun h1 => (R.idropT (p := x4 < (x0.length : Int)) (z := none) h0 (R.bcong fun t1 => (R.idropT (p := 0 ≤ x4) (z := none) h1 rfl)))) (fun h1 => rfl))) (fun h0 => rfl))
  kernel_rfl
set_option maxRecDepth 100000 in
theorem laws_toStepS.ef (k : Nat) (l0 : List Stp) : R.start Try.prog xhn laws_toStepS.O 0 Try.f62 laws_toStepS.fh k [.imm (.T l0)] [] = (if 0 ≤ (l0.length : Int) then (if (l0.length : Int).toNat ≤ 3518437208883 then (laws_toStepS.x0 k l0 (List.replicate (l0.length : Int).toNat (⟨0, (⟨#[]⟩ : ByteArray), 0, 0⟩ : Stp)) 0) else none) else none) := by
  refine Eq.trans ?_ (R.icong (fun h0 => (R.idropT (p := (l0.length : Int) = (l0.length : Int)) (z := none) rfl rfl)) (fun h0 => rfl))
  kernel_rfl
theorem laws_toStepS.link : ∀ k, (∀ (x0 : List Stp) (y0 : List Stp) (x4 : Int), laws_toStepS.x0 k x0 y0 x4 = (laws_toStepS.l0 k x0 y0 x4).map (laws_toStepS.en))
  | 0 => fun _ _ _ => by simp only [laws_toStepS.l0, R.map_none]; rfl
  | k + 1 => by
    have ih0 := laws_toStepS.link k
    · intro x0 y0 x4
      rw [laws_toStepS.e0]
      simp only [laws_toStepS.l0, R.map_ite, R.map_bind, R.map_none, R.map_some, R.wr64_eq, ← ih0]
theorem laws_toStepS.sf (k : Nat) (l0 : List Stp) : R.start Try.prog xhn laws_toStepS.O 0 Try.f62 laws_toStepS.fh k [.imm (.T l0)] [] = (laws_toStepS.f k l0).map (laws_toStepS.en) := by
  have ih0 := laws_toStepS.link k
  rw [laws_toStepS.ef]
  simp only [laws_toStepS.f, R.map_ite, R.map_bind, R.map_none, R.map_some, R.wr64_eq, ← ih0]
theorem laws_toStepS.ok (k : Nat) : laws_toStepS.tw.Ok Try.prog k := by
  intro md hmd a r h
  refine fn_ok (H := xhn) (fh := laws_toStepS.fh) (O := laws_toStepS.O) (k := k) Try.func62 (by kernel_rfl) (by kernel_rfl) (fun j _ => (Tw.orc_sound laws_toStep.dok (laws_toStep.ok j) (fun _ => rfl) noO_sound)) (by kernel_rfl) (m := 0) rfl ?_
  refine (laws_toStepS.sf k a).trans ?_
  exact congrArg (Option.map _) h
def laws_toAutomaton.f (k : Nat) (a0_0 : Int) (l0_1 : List Int) (l0_2 : List Int) (l0_3 : List Stp) : Option (Int × (List Int) × (List Int) × (List Stp)) := ((laws_toIntS.f k l0_1).bind fun t1 => ((laws_toIntS.f k l0_2).bind fun t2 => ((laws_toStepS.f k l0_3).bind fun t3 => (some (a0_0, t1, t2, t3)))))
def laws_toAutomaton.en (r : Int × (List Int) × (List Int) × (List Stp)) : Res := (.agg [.int .i64 r.1, .sl 0 0, .sl 1 0, .sl 2 0], [.arr 3 0 (.I .i64 r.2.1) false, .arr 3 0 (.I .i64 r.2.2.1) false, .arr 67 0 (.T r.2.2.2) false])
def laws_toAutomaton.dec : List AV → List R.Obj → Option (Int × (List Int) × (List Int) × (List Stp))
  | [.agg [.int .i64 a0_0, .imm (.I .i64 l0_1), .imm (.I .i64 l0_2), .imm (.T l0_3)]], [] => some (a0_0, l0_1, l0_2, l0_3)
  | _, _ => none
def laws_toAutomaton.tw : Tw := ⟨17, Int × (List Int) × (List Int) × (List Stp), Int × (List Int) × (List Int) × (List Stp), laws_toAutomaton.dec, fun a => [.agg [.int .i64 a.1, .imm (.I .i64 a.2.1), .imm (.I .i64 a.2.2.1), .imm (.T a.2.2.2)]], fun a => [], fun k a => laws_toAutomaton.f k a.1 a.2.1 a.2.2.1 a.2.2.2, fun a r => laws_toAutomaton.en r, true⟩
theorem laws_toAutomaton.dok : laws_toAutomaton.tw.DecOk := by
  intro args hc a h
  have h : laws_toAutomaton.dec args hc = some a := h
  unfold laws_toAutomaton.dec at h
  split at h
  · cases h; exact ⟨rfl, rfl⟩
  · cases h
noncomputable def laws_toAutomaton.O (k : Nat) : Oracle := (laws_toIntS.tw.orc k (laws_toStepS.tw.orc k noO))
def laws_toAutomaton.fh : FH := ⟨fun i => match i with | _ => none, [(true, 3), (true, 3), (true, 67)], false⟩
set_option maxRecDepth 100000 in
theorem laws_toAutomaton.ef (k : Nat) (a0_0 : Int) (l0_1 : List Int) (l0_2 : List Int) (l0_3 : List Stp) : R.start Try.prog xhn laws_toAutomaton.O 0 Try.f17 laws_toAutomaton.fh k [.agg [.int .i64 a0_0, .imm (.I .i64 l0_1), .imm (.I .i64 l0_2), .imm (.T l0_3)]] [] = ((laws_toIntS.f k l0_1).bind fun t1 => ((laws_toIntS.f k l0_2).bind fun t2 => ((laws_toStepS.f k l0_3).bind fun t3 => (some (laws_toAutomaton.en (a0_0, t1, t2, t3)))))) := by kernel_rfl
theorem laws_toAutomaton.sf (k : Nat) (a0_0 : Int) (l0_1 : List Int) (l0_2 : List Int) (l0_3 : List Stp) : R.start Try.prog xhn laws_toAutomaton.O 0 Try.f17 laws_toAutomaton.fh k [.agg [.int .i64 a0_0, .imm (.I .i64 l0_1), .imm (.I .i64 l0_2), .imm (.T l0_3)]] [] = (laws_toAutomaton.f k a0_0 l0_1 l0_2 l0_3).map (laws_toAutomaton.en) := by
  rw [laws_toAutomaton.ef]
  simp only [laws_toAutomaton.f, R.map_ite, R.map_bind, R.map_none, R.map_some, R.wr64_eq]
theorem laws_toAutomaton.ok (k : Nat) : laws_toAutomaton.tw.Ok Try.prog k := by
  intro md hmd a r h
  refine fn_ok (H := xhn) (fh := laws_toAutomaton.fh) (O := laws_toAutomaton.O) (k := k) Try.func17 (by kernel_rfl) (by kernel_rfl) (fun j _ => (Tw.orc_sound laws_toIntS.dok (laws_toIntS.ok j) (fun _ => rfl) (Tw.orc_sound laws_toStepS.dok (laws_toStepS.ok j) (fun _ => rfl) noO_sound))) (by kernel_rfl) (m := 0) rfl ?_
  refine (laws_toAutomaton.sf k a.1 a.2.1 a.2.2.1 a.2.2.2).trans ?_
  exact congrArg (Option.map _) h
def spec_l1In.f (a0 : Int) (a1 : Int) (a2 : Int) : Option (Bool) := (if a0 ≥ a1 then (some (decide (a0 ≤ a2))) else (some false))
def spec_l1In.en (r : Bool) : Res := (.lit r, [])
def spec_l1In.dec : List AV → List R.Obj → Option (Int × Int × Int)
  | [.int .i64 a0, .int .i64 a1, .int .i64 a2], [] => some (a0, a1, a2)
  | _, _ => none
def spec_l1In.tw : Tw := ⟨59, Int × Int × Int, Bool, spec_l1In.dec, fun a => [.int .i64 a.1, .int .i64 a.2.1, .int .i64 a.2.2], fun a => [], fun k a => spec_l1In.f a.1 a.2.1 a.2.2, fun a r => spec_l1In.en r, true⟩
theorem spec_l1In.dok : spec_l1In.tw.DecOk := by
  intro args hc a h
  have h : spec_l1In.dec args hc = some a := h
  unfold spec_l1In.dec at h
  split at h
  · cases h; exact ⟨rfl, rfl⟩
  · cases h
noncomputable def spec_l1In.O (k : Nat) : Oracle := noO
def spec_l1In.fh : FH := ⟨fun i => match i with | _ => none, [], false⟩
set_option maxRecDepth 100000 in
theorem spec_l1In.ef (k : Nat) (a0 : Int) (a1 : Int) (a2 : Int) : R.start Try.prog xhn spec_l1In.O 0 Try.f59 spec_l1In.fh k [.int .i64 a0, .int .i64 a1, .int .i64 a2] [] = (if a0 ≥ a1 then (some (spec_l1In.en (decide (a0 ≤ a2)))) else (some (spec_l1In.en false))) := by kernel_rfl
theorem spec_l1In.sf (k : Nat) (a0 : Int) (a1 : Int) (a2 : Int) : R.start Try.prog xhn spec_l1In.O 0 Try.f59 spec_l1In.fh k [.int .i64 a0, .int .i64 a1, .int .i64 a2] [] = (spec_l1In.f a0 a1 a2).map (spec_l1In.en) := by
  rw [spec_l1In.ef]
  simp only [spec_l1In.f, R.map_ite, R.map_bind, R.map_none, R.map_some, R.wr64_eq]
theorem spec_l1In.ok (k : Nat) : spec_l1In.tw.Ok Try.prog k := by
  intro md hmd a r h
  refine fn_ok (H := xhn) (fh := spec_l1In.fh) (O := spec_l1In.O) (k := k) Try.func59 (by kernel_rfl) (by kernel_rfl) (fun j _ => noO_sound) (by kernel_rfl) (m := 0) rfl ?_
  refine (spec_l1In.sf k a.1 a.2.1 a.2.2).trans ?_
  exact congrArg (Option.map _) h
def spec_l3Marks.l0 : Nat → Int → (List Int) → (List Int) → Int → Int → Option (Bool)
  | 0, _, _, _, _, _ => none
  | k + 1, x0, x1, x7, x8, x9 => (if x9 < x8 then (if 0 ≤ x9 then (if x9 < (x7.length : Int) then ((spec_l1In.f (rdI x7 x9) 0 (wrap64 (x0 - 1))).bind fun t1 => (if t1 = true then (if x9 > 0 then (if 0 ≤ (wrap64 (x9 - 1)) then (if (wrap64 (x9 - 1)) < (x1.length : Int) then (if (rdI x1 (wrap64 (x9 - 1))) ≥ (rdI x7 x9) then (some false) else (spec_l3Marks.l0 k x0 x1 x7 x8 (wrap64 (x9 + 1)))) else none) else none) else (spec_l3Marks.l0 k x0 x1 x7 x8 (wrap64 (x9 + 1)))) else (some false))) else none) else none) else (some true))
def spec_l3Marks.f (k : Nat) (a0 : Int) (l1 : List Int) : Option (Bool) := (spec_l3Marks.l0 k a0 l1 l1 (l1.length : Int) 0)
def spec_l3Marks.en (r : Bool) : Res := (.lit r, [])
def spec_l3Marks.dec : List AV → List R.Obj → Option (Int × (List Int))
  | [.int .i64 a0, .imm (.I .i64 l1)], [] => some (a0, l1)
  | _, _ => none
def spec_l3Marks.tw : Tw := ⟨111, Int × (List Int), Bool, spec_l3Marks.dec, fun a => [.int .i64 a.1, .imm (.I .i64 a.2)], fun a => [], fun k a => spec_l3Marks.f k a.1 a.2, fun a r => spec_l3Marks.en r, true⟩
theorem spec_l3Marks.dok : spec_l3Marks.tw.DecOk := by
  intro args hc a h
  have h : spec_l3Marks.dec args hc = some a := h
  unfold spec_l3Marks.dec at h
  split at h
  · cases h; exact ⟨rfl, rfl⟩
  · cases h
noncomputable def spec_l3Marks.O (k : Nat) : Oracle := (spec_l1In.tw.orc k noO)
def spec_l3Marks.fh : FH := ⟨fun i => match i with | 2 => some [(0, 0), (1, 0), (7, 0), (8, 0), (9, 0)] | _ => none, [], false⟩
noncomputable def spec_l3Marks.x0 (k : Nat) (x0 : Int) (x1 : List Int) (x7 : List Int) (x8 : Int) (x9 : Int) : Option Res := R.exec Try.prog xhn spec_l3Marks.O 0 Try.f111 spec_l3Marks.fh k (R.point Try.f111 2) ⟨[(0, .int .i64 x0), (1, .imm (.I .i64 x1)), (7, .imm (.I .i64 x7)), (8, .int .i64 x8), (9, .int .i64 x9)], [], 2⟩
set_option maxRecDepth 100000 in
theorem spec_l3Marks.e0 (k : Nat) (x0 : Int) (x1 : List Int) (x7 : List Int) (x8 : Int) (x9 : Int) : spec_l3Marks.x0 (k + 1) x0 x1 x7 x8 x9 = (if x9 < x8 then (if 0 ≤ x9 then (if x9 < (x7.length : Int) then ((spec_l1In.f (rdI x7 x9) 0 (wr64 (x0 - 1))).bind fun t1 => (if t1 = true then (if x9 > 0 then (if 0 ≤ (wr64 (x9 - 1)) then (if (wr64 (x9 - 1)) < (x1.length : Int) then (if (rdI x1 (wr64 (x9 - 1))) ≥ (rdI x7 x9) then (some (spec_l3Marks.en false)) else (spec_l3Marks.x0 k x0 x1 x7 x8 (wr64 (x9 + 1)))) else none) else none) else (spec_l3Marks.x0 k x0 x1 x7 x8 (wr64 (x9 + 1)))) else (some (spec_l3Marks.en false)))) else none) else none) else (some (spec_l3Marks.en true))) := by kernel_rfl
set_option maxRecDepth 100000 in
theorem spec_l3Marks.ef (k : Nat) (a0 : Int) (l1 : List Int) : R.start Try.prog xhn spec_l3Marks.O 0 Try.f111 spec_l3Marks.fh k [.int .i64 a0, .imm (.I .i64 l1)] [] = (spec_l3Marks.x0 k a0 l1 l1 (l1.length : Int) 0) := by kernel_rfl
theorem spec_l3Marks.link : ∀ k, (∀ (x0 : Int) (x1 : List Int) (x7 : List Int) (x8 : Int) (x9 : Int), spec_l3Marks.x0 k x0 x1 x7 x8 x9 = (spec_l3Marks.l0 k x0 x1 x7 x8 x9).map (spec_l3Marks.en))
  | 0 => fun _ _ _ _ _ => by simp only [spec_l3Marks.l0, R.map_none]; rfl
  | k + 1 => by
    have ih0 := spec_l3Marks.link k
    · intro x0 x1 x7 x8 x9
      rw [spec_l3Marks.e0]
      simp only [spec_l3Marks.l0, R.map_ite, R.map_bind, R.map_none, R.map_some, R.wr64_eq, ← ih0]
theorem spec_l3Marks.sf (k : Nat) (a0 : Int) (l1 : List Int) : R.start Try.prog xhn spec_l3Marks.O 0 Try.f111 spec_l3Marks.fh k [.int .i64 a0, .imm (.I .i64 l1)] [] = (spec_l3Marks.f k a0 l1).map (spec_l3Marks.en) := by
  have ih0 := spec_l3Marks.link k
  rw [spec_l3Marks.ef]
  simp only [spec_l3Marks.f, R.map_ite, R.map_bind, R.map_none, R.map_some, R.wr64_eq, ← ih0]
theorem spec_l3Marks.ok (k : Nat) : spec_l3Marks.tw.Ok Try.prog k := by
  intro md hmd a r h
  refine fn_ok (H := xhn) (fh := spec_l3Marks.fh) (O := spec_l3Marks.O) (k := k) Try.func111 (by kernel_rfl) (by kernel_rfl) (fun j _ => (Tw.orc_sound spec_l1In.dok (spec_l1In.ok j) (fun _ => rfl) noO_sound)) (by kernel_rfl) (m := 0) rfl ?_
  refine (spec_l3Marks.sf k a.1 a.2).trans ?_
  exact congrArg (Option.map _) h
def spec_l3Step.f (a0 : Int) (a1_0 : Int) (a1_1 : ByteArray) (a1_2 : Int) (a1_3 : Int) : Option (Bool) := ((spec_l1In.f a1_0 0 (wrap64 (a0 - 1))).bind fun t1 => (if t1 = true then ((spec_l1In.f a1_2 0 (wrap64 (a0 - 1))).bind fun t2 => (if t2 = true then ((spec_l1In.f a1_3 0 3).bind fun t3 => (if t3 = true then (if a1_1.toList = ([97] : List UInt8) then (some true) else (some (decide (a1_1.toList = ([98] : List UInt8))))) else (some false))) else (some false))) else (some false)))
def spec_l3Step.en (r : Bool) : Res := (.lit r, [])
def spec_l3Step.dec : List AV → List R.Obj → Option (Int × Int × ByteArray × Int × Int)
  | [.int .i64 a0, .agg [.int .i64 a1_0, .str a1_1, .int .i64 a1_2, .int .i64 a1_3]], [] => some (a0, a1_0, a1_1, a1_2, a1_3)
  | _, _ => none
def spec_l3Step.tw : Tw := ⟨112, Int × Int × ByteArray × Int × Int, Bool, spec_l3Step.dec, fun a => [.int .i64 a.1, .agg [.int .i64 a.2.1, .str a.2.2.1, .int .i64 a.2.2.2.1, .int .i64 a.2.2.2.2]], fun a => [], fun k a => spec_l3Step.f a.1 a.2.1 a.2.2.1 a.2.2.2.1 a.2.2.2.2, fun a r => spec_l3Step.en r, true⟩
theorem spec_l3Step.dok : spec_l3Step.tw.DecOk := by
  intro args hc a h
  have h : spec_l3Step.dec args hc = some a := h
  unfold spec_l3Step.dec at h
  split at h
  · cases h; exact ⟨rfl, rfl⟩
  · cases h
noncomputable def spec_l3Step.O (k : Nat) : Oracle := (spec_l1In.tw.orc k noO)
def spec_l3Step.fh : FH := ⟨fun i => match i with | _ => none, [], false⟩
set_option maxRecDepth 100000 in
theorem spec_l3Step.ef (k : Nat) (a0 : Int) (a1_0 : Int) (a1_1 : ByteArray) (a1_2 : Int) (a1_3 : Int) : R.start Try.prog xhn spec_l3Step.O 0 Try.f112 spec_l3Step.fh k [.int .i64 a0, .agg [.int .i64 a1_0, .str a1_1, .int .i64 a1_2, .int .i64 a1_3]] [] = ((spec_l1In.f a1_0 0 (wr64 (a0 - 1))).bind fun t1 => (if t1 = true then ((spec_l1In.f a1_2 0 (wr64 (a0 - 1))).bind fun t2 => (if t2 = true then ((spec_l1In.f a1_3 0 3).bind fun t3 => (if t3 = true then (if a1_1.toList = ([97] : List UInt8) then (some (spec_l3Step.en true)) else (some (spec_l3Step.en (decide (a1_1.toList = ([98] : List UInt8)))))) else (some (spec_l3Step.en false)))) else (some (spec_l3Step.en false)))) else (some (spec_l3Step.en false)))) := by kernel_rfl
theorem spec_l3Step.sf (k : Nat) (a0 : Int) (a1_0 : Int) (a1_1 : ByteArray) (a1_2 : Int) (a1_3 : Int) : R.start Try.prog xhn spec_l3Step.O 0 Try.f112 spec_l3Step.fh k [.int .i64 a0, .agg [.int .i64 a1_0, .str a1_1, .int .i64 a1_2, .int .i64 a1_3]] [] = (spec_l3Step.f a0 a1_0 a1_1 a1_2 a1_3).map (spec_l3Step.en) := by
  rw [spec_l3Step.ef]
  simp only [spec_l3Step.f, R.map_ite, R.map_bind, R.map_none, R.map_some, R.wr64_eq]
theorem spec_l3Step.ok (k : Nat) : spec_l3Step.tw.Ok Try.prog k := by
  intro md hmd a r h
  refine fn_ok (H := xhn) (fh := spec_l3Step.fh) (O := spec_l3Step.O) (k := k) Try.func112 (by kernel_rfl) (by kernel_rfl) (fun j _ => (Tw.orc_sound spec_l1In.dok (spec_l1In.ok j) (fun _ => rfl) noO_sound)) (by kernel_rfl) (m := 0) rfl ?_
  refine (spec_l3Step.sf k a.1 a.2.1 a.2.2.1 a.2.2.2.1 a.2.2.2.2).trans ?_
  exact congrArg (Option.map _) h
def spec_l3Before.f (a0_0 : Int) (a0_1 : ByteArray) (a0_2 : Int) (a0_3 : Int) (a1_0 : Int) (a1_1 : ByteArray) (a1_2 : Int) (a1_3 : Int) : Option (Bool) := (if a0_0 = a1_0 then (if a0_1.toList = a1_1.toList then (some (decide (a0_2 < a1_2))) else (some (Op.bytesLess a0_1.toList a1_1.toList))) else (some (decide (a0_0 < a1_0))))
def spec_l3Before.en (r : Bool) : Res := (.lit r, [])
def spec_l3Before.dec : List AV → List R.Obj → Option (Int × ByteArray × Int × Int × Int × ByteArray × Int × Int)
  | [.agg [.int .i64 a0_0, .str a0_1, .int .i64 a0_2, .int .i64 a0_3], .agg [.int .i64 a1_0, .str a1_1, .int .i64 a1_2, .int .i64 a1_3]], [] => some (a0_0, a0_1, a0_2, a0_3, a1_0, a1_1, a1_2, a1_3)
  | _, _ => none
def spec_l3Before.tw : Tw := ⟨113, Int × ByteArray × Int × Int × Int × ByteArray × Int × Int, Bool, spec_l3Before.dec, fun a => [.agg [.int .i64 a.1, .str a.2.1, .int .i64 a.2.2.1, .int .i64 a.2.2.2.1], .agg [.int .i64 a.2.2.2.2.1, .str a.2.2.2.2.2.1, .int .i64 a.2.2.2.2.2.2.1, .int .i64 a.2.2.2.2.2.2.2]], fun a => [], fun k a => spec_l3Before.f a.1 a.2.1 a.2.2.1 a.2.2.2.1 a.2.2.2.2.1 a.2.2.2.2.2.1 a.2.2.2.2.2.2.1 a.2.2.2.2.2.2.2, fun a r => spec_l3Before.en r, true⟩
theorem spec_l3Before.dok : spec_l3Before.tw.DecOk := by
  intro args hc a h
  have h : spec_l3Before.dec args hc = some a := h
  unfold spec_l3Before.dec at h
  split at h
  · cases h; exact ⟨rfl, rfl⟩
  · cases h
noncomputable def spec_l3Before.O (k : Nat) : Oracle := noO
def spec_l3Before.fh : FH := ⟨fun i => match i with | _ => none, [], false⟩
set_option maxRecDepth 100000 in
theorem spec_l3Before.ef (k : Nat) (a0_0 : Int) (a0_1 : ByteArray) (a0_2 : Int) (a0_3 : Int) (a1_0 : Int) (a1_1 : ByteArray) (a1_2 : Int) (a1_3 : Int) : R.start Try.prog xhn spec_l3Before.O 0 Try.f113 spec_l3Before.fh k [.agg [.int .i64 a0_0, .str a0_1, .int .i64 a0_2, .int .i64 a0_3], .agg [.int .i64 a1_0, .str a1_1, .int .i64 a1_2, .int .i64 a1_3]] [] = (if a0_0 = a1_0 then (if a0_1.toList = a1_1.toList then (some (spec_l3Before.en (decide (a0_2 < a1_2)))) else (some (spec_l3Before.en (Op.bytesLess a0_1.toList a1_1.toList)))) else (some (spec_l3Before.en (decide (a0_0 < a1_0))))) := by kernel_rfl
theorem spec_l3Before.sf (k : Nat) (a0_0 : Int) (a0_1 : ByteArray) (a0_2 : Int) (a0_3 : Int) (a1_0 : Int) (a1_1 : ByteArray) (a1_2 : Int) (a1_3 : Int) : R.start Try.prog xhn spec_l3Before.O 0 Try.f113 spec_l3Before.fh k [.agg [.int .i64 a0_0, .str a0_1, .int .i64 a0_2, .int .i64 a0_3], .agg [.int .i64 a1_0, .str a1_1, .int .i64 a1_2, .int .i64 a1_3]] [] = (spec_l3Before.f a0_0 a0_1 a0_2 a0_3 a1_0 a1_1 a1_2 a1_3).map (spec_l3Before.en) := by
  rw [spec_l3Before.ef]
  simp only [spec_l3Before.f, R.map_ite, R.map_bind, R.map_none, R.map_some, R.wr64_eq]
theorem spec_l3Before.ok (k : Nat) : spec_l3Before.tw.Ok Try.prog k := by
  intro md hmd a r h
  refine fn_ok (H := xhn) (fh := spec_l3Before.fh) (O := spec_l3Before.O) (k := k) Try.func113 (by kernel_rfl) (by kernel_rfl) (fun j _ => noO_sound) (by kernel_rfl) (m := 0) rfl ?_
  refine (spec_l3Before.sf k a.1 a.2.1 a.2.2.1 a.2.2.2.1 a.2.2.2.2.1 a.2.2.2.2.2.1 a.2.2.2.2.2.2.1 a.2.2.2.2.2.2.2).trans ?_
  exact congrArg (Option.map _) h
def spec_AutomatonValid.l0 : Nat → (List Stp) → Int → Int → Int → (List Int) → (List Int) → (List Stp) → Option (Bool)
  | 0, _, _, _, _, _, _, _ => none
  | k + 1, x32, x33, x34, y0_0, y0_1, y0_2, y0_3 => (if x34 < x33 then (if 0 ≤ x34 then (if x34 < (x32.length : Int) then ((spec_l3Step.f y0_0 ((rdT x32 x34).f0) ((rdT x32 x34).f1) ((rdT x32 x34).f2) ((rdT x32 x34).f3)).bind fun t4 => (if t4 = true then (if x34 > 0 then (if 0 ≤ (wrap64 (x34 - 1)) then (if (wrap64 (x34 - 1)) < (y0_3.length : Int) then ((spec_l3Before.f ((rdT y0_3 (wrap64 (x34 - 1))).f0) ((rdT y0_3 (wrap64 (x34 - 1))).f1) ((rdT y0_3 (wrap64 (x34 - 1))).f2) ((rdT y0_3 (wrap64 (x34 - 1))).f3) ((rdT x32 x34).f0) ((rdT x32 x34).f1) ((rdT x32 x34).f2) ((rdT x32 x34).f3)).bind fun t5 => (if t5 = true then (spec_AutomatonValid.l0 k x32 x33 (wrap64 (x34 + 1)) y0_0 y0_1 y0_2 y0_3) else (some false))) else none) else none) else (spec_AutomatonValid.l0 k x32 x33 (wrap64 (x34 + 1)) y0_0 y0_1 y0_2 y0_3)) else (some false))) else none) else none) else (some true))
def spec_AutomatonValid.f (k : Nat) (a0_0 : Int) (l0_1 : List Int) (l0_2 : List Int) (l0_3 : List Stp) : Option (Bool) := ((spec_l1In.f a0_0 1 4).bind fun t1 => (if t1 = true then ((spec_l3Marks.f k a0_0 l0_1).bind fun t2 => (if t2 = true then ((spec_l3Marks.f k a0_0 l0_2).bind fun t3 => (if t3 = true then (if (l0_3.length : Int) > 24 then (some false) else (spec_AutomatonValid.l0 k l0_3 (l0_3.length : Int) 0 a0_0 l0_1 l0_2 l0_3)) else (some false))) else (some false))) else (some false)))
def spec_AutomatonValid.en (r : Bool) : Res := (.lit r, [])
def spec_AutomatonValid.dec : List AV → List R.Obj → Option (Int × (List Int) × (List Int) × (List Stp))
  | [.agg [.int .i64 a0_0, .imm (.I .i64 l0_1), .imm (.I .i64 l0_2), .imm (.T l0_3)]], [] => some (a0_0, l0_1, l0_2, l0_3)
  | _, _ => none
def spec_AutomatonValid.tw : Tw := ⟨58, Int × (List Int) × (List Int) × (List Stp), Bool, spec_AutomatonValid.dec, fun a => [.agg [.int .i64 a.1, .imm (.I .i64 a.2.1), .imm (.I .i64 a.2.2.1), .imm (.T a.2.2.2)]], fun a => [], fun k a => spec_AutomatonValid.f k a.1 a.2.1 a.2.2.1 a.2.2.2, fun a r => spec_AutomatonValid.en r, true⟩
theorem spec_AutomatonValid.dok : spec_AutomatonValid.tw.DecOk := by
  intro args hc a h
  have h : spec_AutomatonValid.dec args hc = some a := h
  unfold spec_AutomatonValid.dec at h
  split at h
  · cases h; exact ⟨rfl, rfl⟩
  · cases h
noncomputable def spec_AutomatonValid.O (k : Nat) : Oracle := (spec_l1In.tw.orc k (spec_l3Marks.tw.orc k (spec_l3Step.tw.orc k (spec_l3Before.tw.orc k noO))))
def spec_AutomatonValid.fh : FH := ⟨fun i => match i with | 4 => some [(1, 0), (32, 0), (33, 0), (34, 0)] | _ => none, [], false⟩
noncomputable def spec_AutomatonValid.x0 (k : Nat) (x32 : List Stp) (x33 : Int) (x34 : Int) (y0_0 : Int) (y0_1 : List Int) (y0_2 : List Int) (y0_3 : List Stp) : Option Res := R.exec Try.prog xhn spec_AutomatonValid.O 0 Try.f58 spec_AutomatonValid.fh k (R.point Try.f58 4) ⟨[(1, .ptr 0 0), (32, .imm (.T x32)), (33, .int .i64 x33), (34, .int .i64 x34)], [(0, .box false [.int .i64 y0_0, .imm (.I .i64 y0_1), .imm (.I .i64 y0_2), .imm (.T y0_3)])], 3⟩
set_option maxRecDepth 100000 in
theorem spec_AutomatonValid.e0 (k : Nat) (x32 : List Stp) (x33 : Int) (x34 : Int) (y0_0 : Int) (y0_1 : List Int) (y0_2 : List Int) (y0_3 : List Stp) : spec_AutomatonValid.x0 (k + 1) x32 x33 x34 y0_0 y0_1 y0_2 y0_3 = (if x34 < x33 then (if 0 ≤ x34 then (if x34 < (x32.length : Int) then ((spec_l3Step.f y0_0 ((rdT x32 x34).f0) ((rdT x32 x34).f1) ((rdT x32 x34).f2) ((rdT x32 x34).f3)).bind fun t4 => (if t4 = true then (if x34 > 0 then (if 0 ≤ (wr64 (x34 - 1)) then (if (wr64 (x34 - 1)) < (y0_3.length : Int) then ((spec_l3Before.f ((rdT y0_3 (wr64 (x34 - 1))).f0) ((rdT y0_3 (wr64 (x34 - 1))).f1) ((rdT y0_3 (wr64 (x34 - 1))).f2) ((rdT y0_3 (wr64 (x34 - 1))).f3) ((rdT x32 x34).f0) ((rdT x32 x34).f1) ((rdT x32 x34).f2) ((rdT x32 x34).f3)).bind fun t5 => (if t5 = true then (spec_AutomatonValid.x0 k x32 x33 (wr64 (x34 + 1)) y0_0 y0_1 y0_2 y0_3) else (some (spec_AutomatonValid.en false)))) else none) else none) else (spec_AutomatonValid.x0 k x32 x33 (wr64 (x34 + 1)) y0_0 y0_1 y0_2 y0_3)) else (some (spec_AutomatonValid.en false)))) else none) else none) else (some (spec_AutomatonValid.en true))) := by kernel_rfl
set_option maxRecDepth 100000 in
theorem spec_AutomatonValid.ef (k : Nat) (a0_0 : Int) (l0_1 : List Int) (l0_2 : List Int) (l0_3 : List Stp) : R.start Try.prog xhn spec_AutomatonValid.O 0 Try.f58 spec_AutomatonValid.fh k [.agg [.int .i64 a0_0, .imm (.I .i64 l0_1), .imm (.I .i64 l0_2), .imm (.T l0_3)]] [] = ((spec_l1In.f a0_0 1 4).bind fun t1 => (if t1 = true then ((spec_l3Marks.f k a0_0 l0_1).bind fun t2 => (if t2 = true then ((spec_l3Marks.f k a0_0 l0_2).bind fun t3 => (if t3 = true then (if (l0_3.length : Int) > 24 then (some (spec_AutomatonValid.en false)) else (spec_AutomatonValid.x0 k l0_3 (l0_3.length : Int) 0 a0_0 l0_1 l0_2 l0_3)) else (some (spec_AutomatonValid.en false)))) else (some (spec_AutomatonValid.en false)))) else (some (spec_AutomatonValid.en false)))) := by kernel_rfl
theorem spec_AutomatonValid.link : ∀ k, (∀ (x32 : List Stp) (x33 : Int) (x34 : Int) (y0_0 : Int) (y0_1 : List Int) (y0_2 : List Int) (y0_3 : List Stp), spec_AutomatonValid.x0 k x32 x33 x34 y0_0 y0_1 y0_2 y0_3 = (spec_AutomatonValid.l0 k x32 x33 x34 y0_0 y0_1 y0_2 y0_3).map (spec_AutomatonValid.en))
  | 0 => fun _ _ _ _ _ _ _ => by simp only [spec_AutomatonValid.l0, R.map_none]; rfl
  | k + 1 => by
    have ih0 := spec_AutomatonValid.link k
    · intro x32 x33 x34 y0_0 y0_1 y0_2 y0_3
      rw [spec_AutomatonValid.e0]
      simp only [spec_AutomatonValid.l0, R.map_ite, R.map_bind, R.map_none, R.map_some, R.wr64_eq, ← ih0]
theorem spec_AutomatonValid.sf (k : Nat) (a0_0 : Int) (l0_1 : List Int) (l0_2 : List Int) (l0_3 : List Stp) : R.start Try.prog xhn spec_AutomatonValid.O 0 Try.f58 spec_AutomatonValid.fh k [.agg [.int .i64 a0_0, .imm (.I .i64 l0_1), .imm (.I .i64 l0_2), .imm (.T l0_3)]] [] = (spec_AutomatonValid.f k a0_0 l0_1 l0_2 l0_3).map (spec_AutomatonValid.en) := by
  have ih0 := spec_AutomatonValid.link k
  rw [spec_AutomatonValid.ef]
  simp only [spec_AutomatonValid.f, R.map_ite, R.map_bind, R.map_none, R.map_some, R.wr64_eq, ← ih0]
theorem spec_AutomatonValid.ok (k : Nat) : spec_AutomatonValid.tw.Ok Try.prog k := by
  intro md hmd a r h
  refine fn_ok (H := xhn) (fh := spec_AutomatonValid.fh) (O := spec_AutomatonValid.O) (k := k) Try.func58 (by kernel_rfl) (by kernel_rfl) (fun j _ => (Tw.orc_sound spec_l1In.dok (spec_l1In.ok j) (fun _ => rfl) (Tw.orc_sound spec_l3Marks.dok (spec_l3Marks.ok j) (fun _ => rfl) (Tw.orc_sound spec_l3Step.dok (spec_l3Step.ok j) (fun _ => rfl) (Tw.orc_sound spec_l3Before.dok (spec_l3Before.ok j) (fun _ => rfl) noO_sound))))) (by kernel_rfl) (m := 0) rfl ?_
  refine (spec_AutomatonValid.sf k a.1 a.2.1 a.2.2.1 a.2.2.2).trans ?_
  exact congrArg (Option.map _) h
def spec_WordValid.l0 : Nat → ByteArray → Int → Int → Option (Bool)
  | 0, _, _, _ => none
  | k + 1, x0, x5, x6 => (if x6 < x5 then (if 0 ≤ x6 then (if x6 < (x0.size : Int) then (if (btI x0 x6) = 97 then (spec_WordValid.l0 k x0 x5 (wrap64 (x6 + 1))) else (if (btI x0 x6) = 98 then (spec_WordValid.l0 k x0 x5 (wrap64 (x6 + 1))) else (some false))) else none) else none) else (some (decide ((x0.size : Int) ≤ 1000))))
def spec_WordValid.f (k : Nat) (a0 : ByteArray) : Option (Bool) := (spec_WordValid.l0 k a0 (a0.size : Int) 0)
def spec_WordValid.en (r : Bool) : Res := (.lit r, [])
def spec_WordValid.dec : List AV → List R.Obj → Option (ByteArray)
  | [.str a0], [] => some a0
  | _, _ => none
def spec_WordValid.tw : Tw := ⟨104, ByteArray, Bool, spec_WordValid.dec, fun a => [.str a], fun a => [], fun k a => spec_WordValid.f k a, fun a r => spec_WordValid.en r, true⟩
theorem spec_WordValid.dok : spec_WordValid.tw.DecOk := by
  intro args hc a h
  have h : spec_WordValid.dec args hc = some a := h
  unfold spec_WordValid.dec at h
  split at h
  · cases h; exact ⟨rfl, rfl⟩
  · cases h
noncomputable def spec_WordValid.O (k : Nat) : Oracle := noO
def spec_WordValid.fh : FH := ⟨fun i => match i with | 2 => some [(0, 0), (5, 0), (6, 0)] | _ => none, [], false⟩
noncomputable def spec_WordValid.x0 (k : Nat) (x0 : ByteArray) (x5 : Int) (x6 : Int) : Option Res := R.exec Try.prog xhn spec_WordValid.O 0 Try.f104 spec_WordValid.fh k (R.point Try.f104 2) ⟨[(0, .str x0), (5, .int .i64 x5), (6, .int .i64 x6)], [], 2⟩
set_option maxRecDepth 100000 in
theorem spec_WordValid.e0 (k : Nat) (x0 : ByteArray) (x5 : Int) (x6 : Int) : spec_WordValid.x0 (k + 1) x0 x5 x6 = (if x6 < x5 then (if 0 ≤ x6 then (if x6 < (x0.size : Int) then (if (btI x0 x6) = 97 then (spec_WordValid.x0 k x0 x5 (wr64 (x6 + 1))) else (if (btI x0 x6) = 98 then (spec_WordValid.x0 k x0 x5 (wr64 (x6 + 1))) else (some (spec_WordValid.en false)))) else none) else none) else (some (spec_WordValid.en (decide ((x0.size : Int) ≤ 1000))))) := by
  refine Eq.trans ?_ (R.icong (fun h0 => (R.icong (fun h1 => (R.icong (fun h2 => (R.icong (fun h3 => rfl) (fun h3 => (R.idropT (p := 0 ≤ x6) (z := none) h1 (R.idropT (p := x6 < (x0.size : Int)) (z := none) h2 rfl))))) (fun h2 => rfl))) (fun h1 => rfl))) (fun h0 => rfl))
  kernel_rfl
set_option maxRecDepth 100000 in
theorem spec_WordValid.ef (k : Nat) (a0 : ByteArray) : R.start Try.prog xhn spec_WordValid.O 0 Try.f104 spec_WordValid.fh k [.str a0] [] = (spec_WordValid.x0 k a0 (a0.size : Int) 0) := by kernel_rfl
theorem spec_WordValid.link : ∀ k, (∀ (x0 : ByteArray) (x5 : Int) (x6 : Int), spec_WordValid.x0 k x0 x5 x6 = (spec_WordValid.l0 k x0 x5 x6).map (spec_WordValid.en))
  | 0 => fun _ _ _ => by simp only [spec_WordValid.l0, R.map_none]; rfl
  | k + 1 => by
    have ih0 := spec_WordValid.link k
    · intro x0 x5 x6
      rw [spec_WordValid.e0]
      simp only [spec_WordValid.l0, R.map_ite, R.map_bind, R.map_none, R.map_some, R.wr64_eq, ← ih0]
theorem spec_WordValid.sf (k : Nat) (a0 : ByteArray) : R.start Try.prog xhn spec_WordValid.O 0 Try.f104 spec_WordValid.fh k [.str a0] [] = (spec_WordValid.f k a0).map (spec_WordValid.en) := by
  have ih0 := spec_WordValid.link k
  rw [spec_WordValid.ef]
  simp only [spec_WordValid.f, R.map_ite, R.map_bind, R.map_none, R.map_some, R.wr64_eq, ← ih0]
theorem spec_WordValid.ok (k : Nat) : spec_WordValid.tw.Ok Try.prog k := by
  intro md hmd a r h
  refine fn_ok (H := xhn) (fh := spec_WordValid.fh) (O := spec_WordValid.O) (k := k) Try.func104 (by kernel_rfl) (by kernel_rfl) (fun j _ => noO_sound) (by kernel_rfl) (m := 0) rfl ?_
  refine (spec_WordValid.sf k a).trans ?_
  exact congrArg (Option.map _) h
def spec_l4Asked.f (k : Nat) (a0_0 : Int) (l0_1 : List Int) (l0_2 : List Int) (l0_3 : List Stp) (a1 : ByteArray) : Option (Bool) := ((spec_AutomatonValid.f k a0_0 l0_1 l0_2 l0_3).bind fun t1 => (if t1 = true then ((spec_WordValid.f k a1).bind fun t2 => (some t2)) else (some false)))
def spec_l4Asked.en (r : Bool) : Res := (.lit r, [])
def spec_l4Asked.dec : List AV → List R.Obj → Option (Int × (List Int) × (List Int) × (List Stp) × ByteArray)
  | [.agg [.int .i64 a0_0, .imm (.I .i64 l0_1), .imm (.I .i64 l0_2), .imm (.T l0_3)], .str a1], [] => some (a0_0, l0_1, l0_2, l0_3, a1)
  | _, _ => none
def spec_l4Asked.tw : Tw := ⟨92, Int × (List Int) × (List Int) × (List Stp) × ByteArray, Bool, spec_l4Asked.dec, fun a => [.agg [.int .i64 a.1, .imm (.I .i64 a.2.1), .imm (.I .i64 a.2.2.1), .imm (.T a.2.2.2.1)], .str a.2.2.2.2], fun a => [], fun k a => spec_l4Asked.f k a.1 a.2.1 a.2.2.1 a.2.2.2.1 a.2.2.2.2, fun a r => spec_l4Asked.en r, true⟩
theorem spec_l4Asked.dok : spec_l4Asked.tw.DecOk := by
  intro args hc a h
  have h : spec_l4Asked.dec args hc = some a := h
  unfold spec_l4Asked.dec at h
  split at h
  · cases h; exact ⟨rfl, rfl⟩
  · cases h
noncomputable def spec_l4Asked.O (k : Nat) : Oracle := (spec_AutomatonValid.tw.orc k (spec_WordValid.tw.orc k noO))
def spec_l4Asked.fh : FH := ⟨fun i => match i with | _ => none, [], false⟩
set_option maxRecDepth 100000 in
theorem spec_l4Asked.ef (k : Nat) (a0_0 : Int) (l0_1 : List Int) (l0_2 : List Int) (l0_3 : List Stp) (a1 : ByteArray) : R.start Try.prog xhn spec_l4Asked.O 0 Try.f92 spec_l4Asked.fh k [.agg [.int .i64 a0_0, .imm (.I .i64 l0_1), .imm (.I .i64 l0_2), .imm (.T l0_3)], .str a1] [] = ((spec_AutomatonValid.f k a0_0 l0_1 l0_2 l0_3).bind fun t1 => (if t1 = true then ((spec_WordValid.f k a1).bind fun t2 => (some (spec_l4Asked.en t2))) else (some (spec_l4Asked.en false)))) := by kernel_rfl
theorem spec_l4Asked.sf (k : Nat) (a0_0 : Int) (l0_1 : List Int) (l0_2 : List Int) (l0_3 : List Stp) (a1 : ByteArray) : R.start Try.prog xhn spec_l4Asked.O 0 Try.f92 spec_l4Asked.fh k [.agg [.int .i64 a0_0, .imm (.I .i64 l0_1), .imm (.I .i64 l0_2), .imm (.T l0_3)], .str a1] [] = (spec_l4Asked.f k a0_0 l0_1 l0_2 l0_3 a1).map (spec_l4Asked.en) := by
  rw [spec_l4Asked.ef]
  simp only [spec_l4Asked.f, R.map_ite, R.map_bind, R.map_none, R.map_some, R.wr64_eq]
theorem spec_l4Asked.ok (k : Nat) : spec_l4Asked.tw.Ok Try.prog k := by
  intro md hmd a r h
  refine fn_ok (H := xhn) (fh := spec_l4Asked.fh) (O := spec_l4Asked.O) (k := k) Try.func92 (by kernel_rfl) (by kernel_rfl) (fun j _ => (Tw.orc_sound spec_AutomatonValid.dok (spec_AutomatonValid.ok j) (fun _ => rfl) (Tw.orc_sound spec_WordValid.dok (spec_WordValid.ok j) (fun _ => rfl) noO_sound))) (by kernel_rfl) (m := 0) rfl ?_
  refine (spec_l4Asked.sf k a.1 a.2.1 a.2.2.1 a.2.2.2.1 a.2.2.2.2).trans ?_
  exact congrArg (Option.map _) h
def spec_l2Unit.l0 : Nat → Int → Int → Int → Int → (List Int) → Option (Int × (List Int))
  | 0, _, _, _, _, _ => none
  | k + 1, x0, x9, x10, y1_0, y3 => (if x10 < x9 then (if x0 = 0 then none else (if (wrap64 (x10.tdiv x0)) = (x10.tmod x0) then (if y3.length < 17592186044416 then (spec_l2Unit.l0 k x0 x9 (wrap64 (x10 + 1)) y1_0 (y3 ++ [0])) else none) else (if y3.length < 17592186044416 then (spec_l2Unit.l0 k x0 x9 (wrap64 (x10 + 1)) y1_0 (y3 ++ [1000000])) else none))) else (some (y1_0, y3)))
def spec_l2Unit.f (k : Nat) (a0 : Int) : Option (Int × (List Int)) := (spec_l2Unit.l0 k a0 (wrap64 (a0 * a0)) 0 a0 ([] : List Int))
def spec_l2Unit.en (r : Int × (List Int)) : Res := (.agg [.int .i64 r.1, .sl 0 0], [.arr 3 0 (.I .i64 r.2) false])
def spec_l2Unit.dec : List AV → List R.Obj → Option (Int)
  | [.int .i64 a0], [] => some a0
  | _, _ => none
def spec_l2Unit.tw : Tw := ⟨144, Int, Int × (List Int), spec_l2Unit.dec, fun a => [.int .i64 a], fun a => [], fun k a => spec_l2Unit.f k a, fun a r => spec_l2Unit.en r, true⟩
theorem spec_l2Unit.dok : spec_l2Unit.tw.DecOk := by
  intro args hc a h
  have h : spec_l2Unit.dec args hc = some a := h
  unfold spec_l2Unit.dec at h
  split at h
  · cases h; exact ⟨rfl, rfl⟩
  · cases h
noncomputable def spec_l2Unit.O (k : Nat) : Oracle := noO
def spec_l2Unit.fh : FH := ⟨fun i => match i with | 3 => some [(0, 0), (2, 0), (3, 0), (9, 0), (10, 0)] | _ => none, [(true, 3)], false⟩
noncomputable def spec_l2Unit.x0 (k : Nat) (x0 : Int) (x9 : Int) (x10 : Int) (y1_0 : Int) (y3 : List Int) : Option Res := R.exec Try.prog xhn spec_l2Unit.O 0 Try.f144 spec_l2Unit.fh k (R.point Try.f144 3) ⟨[(0, .int .i64 x0), (2, .ptr 0 0), (3, .ptr 1 0), (9, .int .i64 x9), (10, .int .i64 x10)], [(0, .box false [.int .i64 0, .sl 2 0]), (1, .box false [.int .i64 y1_0, .sl 3 0]), (2, .arr 3 0 (.I .i64 ([] : List Int)) false), (3, .arr 3 0 (.I .i64 y3) false)], 6⟩
set_option maxRecDepth 100000 in
theorem spec_l2Unit.e0 (k : Nat) (x0 : Int) (x9 : Int) (x10 : Int) (y1_0 : Int) (y3 : List Int) : spec_l2Unit.x0 (k + 1) x0 x9 x10 y1_0 y3 = (if x10 < x9 then (if x0 = 0 then none else (if (wr64 (x10.tdiv x0)) = (x10.tmod x0) then (if y3.length < 17592186044416 then (spec_l2Unit.x0 k x0 x9 (wr64 (x10 + 1)) y1_0 (y3 ++ [0])) else none) else (if y3.length < 17592186044416 then (spec_l2Unit.x0 k x0 x9 (wr64 (x10 + 1)) y1_0 (y3 ++ [1000000])) else none))) else (some (spec_l2Unit.en (y1_0, y3)))) := by
  refine Eq.trans ?_ (R.icong (fun h0 => (R.icong (fun h1 => rfl) (fun h1 => (R.idropF (p := x0 = 0) (z := none) h1 rfl)))) (fun h0 => rfl))
  kernel_rfl
set_option maxRecDepth 100000 in
theorem spec_l2Unit.ef (k : Nat) (a0 : Int) : R.start Try.prog xhn spec_l2Unit.O 0 Try.f144 spec_l2Unit.fh k [.int .i64 a0] [] = (spec_l2Unit.x0 k a0 (wr64 (a0 * a0)) 0 a0 ([] : List Int)) := by kernel_rfl
theorem spec_l2Unit.link : ∀ k, (∀ (x0 : Int) (x9 : Int) (x10 : Int) (y1_0 : Int) (y3 : List Int), spec_l2Unit.x0 k x0 x9 x10 y1_0 y3 = (spec_l2Unit.l0 k x0 x9 x10 y1_0 y3).map (spec_l2Unit.en))
  | 0 => fun _ _ _ _ _ => by simp only [spec_l2Unit.l0, R.map_none]; rfl
  | k + 1 => by
    have ih0 := spec_l2Unit.link k
    · intro x0 x9 x10 y1_0 y3
      rw [spec_l2Unit.e0]
      simp only [spec_l2Unit.l0, R.map_ite, R.map_bind, R.map_none, R.map_some, R.wr64_eq, ← ih0]
theorem spec_l2Unit.sf (k : Nat) (a0 : Int) : R.start Try.prog xhn spec_l2Unit.O 0 Try.f144 spec_l2Unit.fh k [.int .i64 a0] [] = (spec_l2Unit.f k a0).map (spec_l2Unit.en) := by
  have ih0 := spec_l2Unit.link k
  rw [spec_l2Unit.ef]
  simp only [spec_l2Unit.f, R.map_ite, R.map_bind, R.map_none, R.map_some, R.wr64_eq, ← ih0]
theorem spec_l2Unit.ok (k : Nat) : spec_l2Unit.tw.Ok Try.prog k := by
  intro md hmd a r h
  refine fn_ok (H := xhn) (fh := spec_l2Unit.fh) (O := spec_l2Unit.O) (k := k) Try.func144 (by kernel_rfl) (by kernel_rfl) (fun j _ => noO_sound) (by kernel_rfl) (m := 0) rfl ?_
  refine (spec_l2Unit.sf k a).trans ?_
  exact congrArg (Option.map _) h
mutual
def spec_l3Matrix.l0 : Nat → ByteArray → Int → Int → Int → (List Int) → (List Int) → (List Stp) → Int → (List Int) → Option (Int × (List Int))
  | 0, _, _, _, _, _, _, _, _, _ => none
  | k + 1, x1, x15, x16, y0_0, y0_1, y0_2, y0_3, y2_0, y4 => (if x16 < x15 then (if y4.length < 17592186044416 then (spec_l3Matrix.l0 k x1 x15 (wrap64 (x16 + 1)) y0_0 y0_1 y0_2 y0_3 y2_0 (y4 ++ [1000000])) else none) else (spec_l3Matrix.l1 k x1 y0_3 (y0_3.length : Int) 0 y0_0 y0_1 y0_2 y0_3 y2_0 y4))
def spec_l3Matrix.l1 : Nat → ByteArray → (List Stp) → Int → Int → Int → (List Int) → (List Int) → (List Stp) → Int → (List Int) → Option (Int × (List Int))
  | 0, _, _, _, _, _, _, _, _, _, _ => none
  | k + 1, x1, x25, x26, x27, y0_0, y0_1, y0_2, y0_3, y2_0, y4 => (if x27 < x26 then (if 0 ≤ x27 then (if x27 < (x25.length : Int) then (if (rdT x25 x27).f1.toList = x1.toList then (if 0 ≤ (wrap64 ((wrap64 ((rdT x25 x27).f0 * y0_0)) + (rdT x25 x27).f2)) then (if (wrap64 ((wrap64 ((rdT x25 x27).f0 * y0_0)) + (rdT x25 x27).f2)) < (y4.length : Int) then (spec_l3Matrix.l1 k x1 x25 x26 (wrap64 (x27 + 1)) y0_0 y0_1 y0_2 y0_3 y2_0 (y4.set (wrap64 ((wrap64 ((rdT x25 x27).f0 * y0_0)) + (rdT x25 x27).f2)).toNat (rdT x25 x27).f3)) else none) else none) else (spec_l3Matrix.l1 k x1 x25 x26 (wrap64 (x27 + 1)) y0_0 y0_1 y0_2 y0_3 y2_0 y4)) else none) else none) else (some (y2_0, y4)))
end
def spec_l3Matrix.f (k : Nat) (a0_0 : Int) (l0_1 : List Int) (l0_2 : List Int) (l0_3 : List Stp) (a1 : ByteArray) : Option (Int × (List Int)) := (spec_l3Matrix.l0 k a1 (wrap64 (a0_0 * a0_0)) 0 a0_0 l0_1 l0_2 l0_3 a0_0 ([] : List Int))
def spec_l3Matrix.en (r : Int × (List Int)) : Res := (.agg [.int .i64 r.1, .sl 0 0], [.arr 3 0 (.I .i64 r.2) false])
def spec_l3Matrix.dec : List AV → List R.Obj → Option (Int × (List Int) × (List Int) × (List Stp) × ByteArray)
  | [.agg [.int .i64 a0_0, .imm (.I .i64 l0_1), .imm (.I .i64 l0_2), .imm (.T l0_3)], .str a1], [] => some (a0_0, l0_1, l0_2, l0_3, a1)
  | _, _ => none
def spec_l3Matrix.tw : Tw := ⟨145, Int × (List Int) × (List Int) × (List Stp) × ByteArray, Int × (List Int), spec_l3Matrix.dec, fun a => [.agg [.int .i64 a.1, .imm (.I .i64 a.2.1), .imm (.I .i64 a.2.2.1), .imm (.T a.2.2.2.1)], .str a.2.2.2.2], fun a => [], fun k a => spec_l3Matrix.f k a.1 a.2.1 a.2.2.1 a.2.2.2.1 a.2.2.2.2, fun a r => spec_l3Matrix.en r, true⟩
theorem spec_l3Matrix.dok : spec_l3Matrix.tw.DecOk := by
  intro args hc a h
  have h : spec_l3Matrix.dec args hc = some a := h
  unfold spec_l3Matrix.dec at h
  split at h
  · cases h; exact ⟨rfl, rfl⟩
  · cases h
noncomputable def spec_l3Matrix.O (k : Nat) : Oracle := noO
def spec_l3Matrix.fh : FH := ⟨fun i => match i with | 3 => some [(1, 0), (2, 0), (4, 0), (5, 0), (15, 0), (16, 0)] | 7 => some [(1, 0), (2, 0), (4, 0), (5, 0), (25, 0), (26, 0), (27, 0)] | _ => none, [(true, 3)], false⟩
noncomputable def spec_l3Matrix.x0 (k : Nat) (x1 : ByteArray) (x15 : Int) (x16 : Int) (y0_0 : Int) (y0_1 : List Int) (y0_2 : List Int) (y0_3 : List Stp) (y2_0 : Int) (y4 : List Int) : Option Res := R.exec Try.prog xhn spec_l3Matrix.O 0 Try.f145 spec_l3Matrix.fh k (R.point Try.f145 3) ⟨[(1, .str x1), (2, .ptr 0 0), (4, .ptr 1 0), (5, .ptr 2 0), (15, .int .i64 x15), (16, .int .i64 x16)], [(0, .box false [.int .i64 y0_0, .imm (.I .i64 y0_1), .imm (.I .i64 y0_2), .imm (.T y0_3)]), (1, .box false [.int .i64 0, .sl 3 0]), (2, .box false [.int .i64 y2_0, .sl 4 0]), (3, .arr 3 0 (.I .i64 ([] : List Int)) false), (4, .arr 3 0 (.I .i64 y4) false)], 7⟩
noncomputable def spec_l3Matrix.x1 (k : Nat) (x1 : ByteArray) (x25 : List Stp) (x26 : Int) (x27 : Int) (y0_0 : Int) (y0_1 : List Int) (y0_2 : List Int) (y0_3 : List Stp) (y2_0 : Int) (y4 : List Int) : Option Res := R.exec Try.prog xhn spec_l3Matrix.O 0 Try.f145 spec_l3Matrix.fh k (R.point Try.f145 7) ⟨[(1, .str x1), (2, .ptr 0 0), (4, .ptr 1 0), (5, .ptr 2 0), (25, .imm (.T x25)), (26, .int .i64 x26), (27, .int .i64 x27)], [(0, .box false [.int .i64 y0_0, .imm (.I .i64 y0_1), .imm (.I .i64 y0_2), .imm (.T y0_3)]), (1, .box false [.int .i64 0, .sl 3 0]), (2, .box false [.int .i64 y2_0, .sl 4 0]), (3, .arr 3 0 (.I .i64 ([] : List Int)) false), (4, .arr 3 0 (.I .i64 y4) false)], 7⟩
set_option maxRecDepth 100000 in
theorem spec_l3Matrix.e0 (k : Nat) (x1 : ByteArray) (x15 : Int) (x16 : Int) (y0_0 : Int) (y0_1 : List Int) (y0_2 : List Int) (y0_3 : List Stp) (y2_0 : Int) (y4 : List Int) : spec_l3Matrix.x0 (k + 1) x1 x15 x16 y0_0 y0_1 y0_2 y0_3 y2_0 y4 = (if x16 < x15 then (if y4.length < 17592186044416 then (spec_l3Matrix.x0 k x1 x15 (wr64 (x16 + 1)) y0_0 y0_1 y0_2 y0_3 y2_0 (y4 ++ [1000000])) else none) else (spec_l3Matrix.x1 k x1 y0_3 (y0_3.length : Int) 0 y0_0 y0_1 y0_2 y0_3 y2_0 y4)) := by kernel_rfl
set_option maxRecDepth 100000 in
theorem spec_l3Matrix.e1 (k : Nat) (x1 : ByteArray) (x25 : List Stp) (x26 : Int) (x27 : Int) (y0_0 : Int) (y0_1 : List Int) (y0_2 : List Int) (y0_3 : List Stp) (y2_0 : Int) (y4 : List Int) : spec_l3Matrix.x1 (k + 1) x1 x25 x26 x27 y0_0 y0_1 y0_2 y0_3 y2_0 y4 = (if x27 < x26 then (if 0 ≤ x27 then (if x27 < (x25.length : Int) then (if (rdT x25 x27).f1.toList = x1.toList then (if 0 ≤ (wr64 ((wr64 ((rdT x25 x27).f0 * y0_0)) + (rdT x25 x27).f2)) then (if (wr64 ((wr64 ((rdT x25 x27).f0 * y0_0)) + (rdT x25 x27).f2)) < (y4.length : Int) then (spec_l3Matrix.x1 k x1 x25 x26 (wr64 (x27 + 1)) y0_0 y0_1 y0_2 y0_3 y2_0 (y4.set (wr64 ((wr64 ((rdT x25 x27).f0 * y0_0)) + (rdT x25 x27).f2)).toNat (rdT x25 x27).f3)) else none) else none) else (spec_l3Matrix.x1 k x1 x25 x26 (wr64 (x27 + 1)) y0_0 y0_1 y0_2 y0_3 y2_0 y4)) else none) else none) else (some (spec_l3Matrix.en (y2_0, y4)))) := by kernel_rfl
set_option maxRecDepth 100000 in
theorem spec_l3Matrix.ef (k : Nat) (a0_0 : Int) (l0_1 : List Int) (l0_2 : List Int) (l0_3 : List Stp) (a1 : ByteArray) : R.start Try.prog xhn spec_l3Matrix.O 0 Try.f145 spec_l3Matrix.fh k [.agg [.int .i64 a0_0, .imm (.I .i64 l0_1), .imm (.I .i64 l0_2), .imm (.T l0_3)], .str a1] [] = (spec_l3Matrix.x0 k a1 (wr64 (a0_0 * a0_0)) 0 a0_0 l0_1 l0_2 l0_3 a0_0 ([] : List Int)) := by kernel_rfl
theorem spec_l3Matrix.link : ∀ k, (∀ (x1 : ByteArray) (x15 : Int) (x16 : Int) (y0_0 : Int) (y0_1 : List Int) (y0_2 : List Int) (y0_3 : List Stp) (y2_0 : Int) (y4 : List Int), spec_l3Matrix.x0 k x1 x15 x16 y0_0 y0_1 y0_2 y0_3 y2_0 y4 = (spec_l3Matrix.l0 k x1 x15 x16 y0_0 y0_1 y0_2 y0_3 y2_0 y4).map (spec_l3Matrix.en)) ∧ (∀ (x1 : ByteArray) (x25 : List Stp) (x26 : Int) (x27 : Int) (y0_0 : Int) (y0_1 : List Int) (y0_2 : List Int) (y0_3 : List Stp) (y2_0 : Int) (y4 : List Int), spec_l3Matrix.x1 k x1 x25 x26 x27 y0_0 y0_1 y0_2 y0_3 y2_0 y4 = (spec_l3Matrix.l1 k x1 x25 x26 x27 y0_0 y0_1 y0_2 y0_3 y2_0 y4).map (spec_l3Matrix.en))
  | 0 => ⟨fun _ _ _ _ _ _ _ _ _ => by simp only [spec_l3Matrix.l0, R.map_none]; rfl, fun _ _ _ _ _ _ _ _ _ _ => by simp only [spec_l3Matrix.l1, R.map_none]; rfl⟩
  | k + 1 => by
    obtain ⟨ih0, ih1⟩ := spec_l3Matrix.link k
    refine ⟨?_, ?_⟩
    · intro x1 x15 x16 y0_0 y0_1 y0_2 y0_3 y2_0 y4
      rw [spec_l3Matrix.e0]
      simp only [spec_l3Matrix.l0, R.map_ite, R.map_bind, R.map_none, R.map_some, R.wr64_eq, ← ih0, ← ih1]
    · intro x1 x25 x26 x27 y0_0 y0_1 y0_2 y0_3 y2_0 y4
      rw [spec_l3Matrix.e1]
      simp only [spec_l3Matrix.l1, R.map_ite, R.map_bind, R.map_none, R.map_some, R.wr64_eq, ← ih0, ← ih1]
theorem spec_l3Matrix.sf (k : Nat) (a0_0 : Int) (l0_1 : List Int) (l0_2 : List Int) (l0_3 : List Stp) (a1 : ByteArray) : R.start Try.prog xhn spec_l3Matrix.O 0 Try.f145 spec_l3Matrix.fh k [.agg [.int .i64 a0_0, .imm (.I .i64 l0_1), .imm (.I .i64 l0_2), .imm (.T l0_3)], .str a1] [] = (spec_l3Matrix.f k a0_0 l0_1 l0_2 l0_3 a1).map (spec_l3Matrix.en) := by
  obtain ⟨ih0, ih1⟩ := spec_l3Matrix.link k
  rw [spec_l3Matrix.ef]
  simp only [spec_l3Matrix.f, R.map_ite, R.map_bind, R.map_none, R.map_some, R.wr64_eq, ← ih0, ← ih1]
theorem spec_l3Matrix.ok (k : Nat) : spec_l3Matrix.tw.Ok Try.prog k := by
  intro md hmd a r h
  refine fn_ok (H := xhn) (fh := spec_l3Matrix.fh) (O := spec_l3Matrix.O) (k := k) Try.func145 (by kernel_rfl) (by kernel_rfl) (fun j _ => noO_sound) (by kernel_rfl) (m := 0) rfl ?_
  refine (spec_l3Matrix.sf k a.1 a.2.1 a.2.2.1 a.2.2.2.1 a.2.2.2.2).trans ?_
  exact congrArg (Option.map _) h
def spec_l1Add.f (a0 : Int) (a1 : Int) : Option (Int) := (some (mn (wrap64 (a0 + a1)) 1000000))
def spec_l1Add.en (r : Int) : Res := (.int .i64 r, [])
def spec_l1Add.dec : List AV → List R.Obj → Option (Int × Int)
  | [.int .i64 a0, .int .i64 a1], [] => some (a0, a1)
  | _, _ => none
def spec_l1Add.tw : Tw := ⟨169, Int × Int, Int, spec_l1Add.dec, fun a => [.int .i64 a.1, .int .i64 a.2], fun a => [], fun k a => spec_l1Add.f a.1 a.2, fun a r => spec_l1Add.en r, true⟩
theorem spec_l1Add.dok : spec_l1Add.tw.DecOk := by
  intro args hc a h
  have h : spec_l1Add.dec args hc = some a := h
  unfold spec_l1Add.dec at h
  split at h
  · cases h; exact ⟨rfl, rfl⟩
  · cases h
noncomputable def spec_l1Add.O (k : Nat) : Oracle := noO
def spec_l1Add.fh : FH := ⟨fun i => match i with | _ => none, [], false⟩
set_option maxRecDepth 100000 in
theorem spec_l1Add.ef (k : Nat) (a0 : Int) (a1 : Int) : R.start Try.prog xhn spec_l1Add.O 0 Try.f169 spec_l1Add.fh k [.int .i64 a0, .int .i64 a1] [] = (some (spec_l1Add.en (mn (wr64 (a0 + a1)) 1000000))) := by kernel_rfl
theorem spec_l1Add.sf (k : Nat) (a0 : Int) (a1 : Int) : R.start Try.prog xhn spec_l1Add.O 0 Try.f169 spec_l1Add.fh k [.int .i64 a0, .int .i64 a1] [] = (spec_l1Add.f a0 a1).map (spec_l1Add.en) := by
  rw [spec_l1Add.ef]
  simp only [spec_l1Add.f, R.map_ite, R.map_bind, R.map_none, R.map_some, R.wr64_eq]
theorem spec_l1Add.ok (k : Nat) : spec_l1Add.tw.Ok Try.prog k := by
  intro md hmd a r h
  refine fn_ok (H := xhn) (fh := spec_l1Add.fh) (O := spec_l1Add.O) (k := k) Try.func169 (by kernel_rfl) (by kernel_rfl) (fun j _ => noO_sound) (by kernel_rfl) (m := 0) rfl ?_
  refine (spec_l1Add.sf k a.1 a.2).trans ?_
  exact congrArg (Option.map _) h
mutual
def spec_l2Mul.l0 : Nat → Int → Int → Int → (List Int) → Int → (List Int) → Int → (List Int) → Option (Int × (List Int))
  | 0, _, _, _, _, _, _, _, _ => none
  | k + 1, x18, x19, y0_0, y0_1, y1_0, y1_1, y3_0, y5 => (if x19 < x18 then (if y0_0 = 0 then none else (spec_l2Mul.l1 k (wrap64 (x19.tdiv y0_0)) (x19.tmod y0_0) 1000000 x18 x19 y0_0 0 y0_0 y0_1 y1_0 y1_1 y3_0 y5)) else (some (y3_0, y5)))
def spec_l2Mul.l1 : Nat → Int → Int → Int → Int → Int → Int → Int → Int → (List Int) → Int → (List Int) → Int → (List Int) → Option (Int × (List Int))
  | 0, _, _, _, _, _, _, _, _, _, _, _, _, _ => none
  | k + 1, x7, x8, x9, x18, x19, x31, x32, y0_0, y0_1, y1_0, y1_1, y3_0, y5 => (if x32 < x31 then (if 0 ≤ (wrap64 ((wrap64 (x7 * y0_0)) + x32)) then (if (wrap64 ((wrap64 (x7 * y0_0)) + x32)) < (y0_1.length : Int) then (if 0 ≤ (wrap64 ((wrap64 (x32 * y0_0)) + x8)) then (if (wrap64 ((wrap64 (x32 * y0_0)) + x8)) < (y1_1.length : Int) then ((spec_l1Add.f (rdI y0_1 (wrap64 ((wrap64 (x7 * y0_0)) + x32))) (rdI y1_1 (wrap64 ((wrap64 (x32 * y0_0)) + x8)))).bind fun t1 => (spec_l2Mul.l1 k x7 x8 (mn x9 t1) x18 x19 x31 (wrap64 (x32 + 1)) y0_0 y0_1 y1_0 y1_1 y3_0 y5)) else none) else none) else none) else none) else (if y5.length < 17592186044416 then (spec_l2Mul.l0 k x18 (wrap64 (x19 + 1)) y0_0 y0_1 y1_0 y1_1 y3_0 (y5 ++ [x9])) else none))
end
def spec_l2Mul.f (k : Nat) (a0_0 : Int) (l0_1 : List Int) (a1_0 : Int) (l1_1 : List Int) : Option (Int × (List Int)) := (spec_l2Mul.l0 k (wrap64 (a0_0 * a0_0)) 0 a0_0 l0_1 a1_0 l1_1 a0_0 ([] : List Int))
def spec_l2Mul.en (r : Int × (List Int)) : Res := (.agg [.int .i64 r.1, .sl 0 0], [.arr 3 0 (.I .i64 r.2) false])
def spec_l2Mul.dec : List AV → List R.Obj → Option (Int × (List Int) × Int × (List Int))
  | [.agg [.int .i64 a0_0, .imm (.I .i64 l0_1)], .agg [.int .i64 a1_0, .imm (.I .i64 l1_1)]], [] => some (a0_0, l0_1, a1_0, l1_1)
  | _, _ => none
def spec_l2Mul.tw : Tw := ⟨146, Int × (List Int) × Int × (List Int), Int × (List Int), spec_l2Mul.dec, fun a => [.agg [.int .i64 a.1, .imm (.I .i64 a.2.1)], .agg [.int .i64 a.2.2.1, .imm (.I .i64 a.2.2.2)]], fun a => [], fun k a => spec_l2Mul.f k a.1 a.2.1 a.2.2.1 a.2.2.2, fun a r => spec_l2Mul.en r, true⟩
theorem spec_l2Mul.dok : spec_l2Mul.tw.DecOk := by
  intro args hc a h
  have h : spec_l2Mul.dec args hc = some a := h
  unfold spec_l2Mul.dec at h
  split at h
  · cases h; exact ⟨rfl, rfl⟩
  · cases h
noncomputable def spec_l2Mul.O (k : Nat) : Oracle := (spec_l1Add.tw.orc k noO)
def spec_l2Mul.fh : FH := ⟨fun i => match i with | 3 => some [(2, 0), (3, 0), (4, 0), (5, 0), (18, 0), (19, 0)] | 8 => some [(2, 0), (3, 0), (4, 0), (5, 0), (7, 0), (8, 0), (9, 0), (18, 0), (19, 0), (31, 0), (32, 0)] | _ => none, [(true, 3)], false⟩
noncomputable def spec_l2Mul.x0 (k : Nat) (x18 : Int) (x19 : Int) (y0_0 : Int) (y0_1 : List Int) (y1_0 : Int) (y1_1 : List Int) (y3_0 : Int) (y5 : List Int) : Option Res := R.exec Try.prog xhn spec_l2Mul.O 0 Try.f146 spec_l2Mul.fh k (R.point Try.f146 3) ⟨[(2, .ptr 0 0), (3, .ptr 1 0), (4, .ptr 2 0), (5, .ptr 3 0), (18, .int .i64 x18), (19, .int .i64 x19)], [(0, .box false [.int .i64 y0_0, .imm (.I .i64 y0_1)]), (1, .box false [.int .i64 y1_0, .imm (.I .i64 y1_1)]), (2, .box false [.int .i64 0, .sl 4 0]), (3, .box false [.int .i64 y3_0, .sl 5 0]), (4, .arr 3 0 (.I .i64 ([] : List Int)) false), (5, .arr 3 0 (.I .i64 y5) false)], 8⟩
noncomputable def spec_l2Mul.x1 (k : Nat) (x7 : Int) (x8 : Int) (x9 : Int) (x18 : Int) (x19 : Int) (x31 : Int) (x32 : Int) (y0_0 : Int) (y0_1 : List Int) (y1_0 : Int) (y1_1 : List Int) (y3_0 : Int) (y5 : List Int) : Option Res := R.exec Try.prog xhn spec_l2Mul.O 0 Try.f146 spec_l2Mul.fh k (R.point Try.f146 8) ⟨[(2, .ptr 0 0), (3, .ptr 1 0), (4, .ptr 2 0), (5, .ptr 3 0), (7, .int .i64 x7), (8, .int .i64 x8), (9, .int .i64 x9), (18, .int .i64 x18), (19, .int .i64 x19), (31, .int .i64 x31), (32, .int .i64 x32)], [(0, .box false [.int .i64 y0_0, .imm (.I .i64 y0_1)]), (1, .box false [.int .i64 y1_0, .imm (.I .i64 y1_1)]), (2, .box false [.int .i64 0, .sl 4 0]), (3, .box false [.int .i64 y3_0, .sl 5 0]), (4, .arr 3 0 (.I .i64 ([] : List Int)) false), (5, .arr 3 0 (.I .i64 y5) false)], 8⟩
set_option maxRecDepth 100000 in
theorem spec_l2Mul.e0 (k : Nat) (x18 : Int) (x19 : Int) (y0_0 : Int) (y0_1 : List Int) (y1_0 : Int) (y1_1 : List Int) (y3_0 : Int) (y5 : List Int) : spec_l2Mul.x0 (k + 1) x18 x19 y0_0 y0_1 y1_0 y1_1 y3_0 y5 = (if x19 < x18 then (if y0_0 = 0 then none else (spec_l2Mul.x1 k (wr64 (x19.tdiv y0_0)) (x19.tmod y0_0) 1000000 x18 x19 y0_0 0 y0_0 y0_1 y1_0 y1_1 y3_0 y5)) else (some (spec_l2Mul.en (y3_0, y5)))) := by
  refine Eq.trans ?_ (R.icong (fun h0 => (R.icong (fun h1 => rfl) (fun h1 => (R.idropF (p := y0_0 = 0) (z := none) h1 rfl)))) (fun h0 => rfl))
  kernel_rfl
set_option maxRecDepth 100000 in
theorem spec_l2Mul.e1 (k : Nat) (x7 : Int) (x8 : Int) (x9 : Int) (x18 : Int) (x19 : Int) (x31 : Int) (x32 : Int) (y0_0 : Int) (y0_1 : List Int) (y1_0 : Int) (y1_1 : List Int) (y3_0 : Int) (y5 : List Int) : spec_l2Mul.x1 (k + 1) x7 x8 x9 x18 x19 x31 x32 y0_0 y0_1 y1_0 y1_1 y3_0 y5 = (if x32 < x31 then (if 0 ≤ (wr64 ((wr64 (x7 * y0_0)) + x32)) then (if (wr64 ((wr64 (x7 * y0_0)) + x32)) < (y0_1.length : Int) then (if 0 ≤ (wr64 ((wr64 (x32 * y0_0)) + x8)) then (if (wr64 ((wr64 (x32 * y0_0)) + x8)) < (y1_1.length : Int) then ((spec_l1Add.f (rdI y0_1 (wr64 ((wr64 (x7 * y0_0)) + x32))) (rdI y1_1 (wr64 ((wr64 (x32 * y0_0)) + x8)))).bind fun t1 => (spec_l2Mul.x1 k x7 x8 (mn x9 t1) x18 x19 x31 (wr64 (x32 + 1)) y0_0 y0_1 y1_0 y1_1 y3_0 y5)) else none) else none) else none) else none) else (if y5.length < 17592186044416 then (spec_l2Mul.x0 k x18 (wr64 (x19 + 1)) y0_0 y0_1 y1_0 y1_1 y3_0 (y5 ++ [x9])) else none)) := by kernel_rfl
set_option maxRecDepth 100000 in
theorem spec_l2Mul.ef (k : Nat) (a0_0 : Int) (l0_1 : List Int) (a1_0 : Int) (l1_1 : List Int) : R.start Try.prog xhn spec_l2Mul.O 0 Try.f146 spec_l2Mul.fh k [.agg [.int .i64 a0_0, .imm (.I .i64 l0_1)], .agg [.int .i64 a1_0, .imm (.I .i64 l1_1)]] [] = (spec_l2Mul.x0 k (wr64 (a0_0 * a0_0)) 0 a0_0 l0_1 a1_0 l1_1 a0_0 ([] : List Int)) := by kernel_rfl
theorem spec_l2Mul.link : ∀ k, (∀ (x18 : Int) (x19 : Int) (y0_0 : Int) (y0_1 : List Int) (y1_0 : Int) (y1_1 : List Int) (y3_0 : Int) (y5 : List Int), spec_l2Mul.x0 k x18 x19 y0_0 y0_1 y1_0 y1_1 y3_0 y5 = (spec_l2Mul.l0 k x18 x19 y0_0 y0_1 y1_0 y1_1 y3_0 y5).map (spec_l2Mul.en)) ∧ (∀ (x7 : Int) (x8 : Int) (x9 : Int) (x18 : Int) (x19 : Int) (x31 : Int) (x32 : Int) (y0_0 : Int) (y0_1 : List Int) (y1_0 : Int) (y1_1 : List Int) (y3_0 : Int) (y5 : List Int), spec_l2Mul.x1 k x7 x8 x9 x18 x19 x31 x32 y0_0 y0_1 y1_0 y1_1 y3_0 y5 = (spec_l2Mul.l1 k x7 x8 x9 x18 x19 x31 x32 y0_0 y0_1 y1_0 y1_1 y3_0 y5).map (spec_l2Mul.en))
  | 0 => ⟨fun _ _ _ _ _ _ _ _ => by simp only [spec_l2Mul.l0, R.map_none]; rfl, fun _ _ _ _ _ _ _ _ _ _ _ _ _ => by simp only [spec_l2Mul.l1, R.map_none]; rfl⟩
  | k + 1 => by
    obtain ⟨ih0, ih1⟩ := spec_l2Mul.link k
    refine ⟨?_, ?_⟩
    · intro x18 x19 y0_0 y0_1 y1_0 y1_1 y3_0 y5
      rw [spec_l2Mul.e0]
      simp only [spec_l2Mul.l0, R.map_ite, R.map_bind, R.map_none, R.map_some, R.wr64_eq, ← ih0, ← ih1]
    · intro x7 x8 x9 x18 x19 x31 x32 y0_0 y0_1 y1_0 y1_1 y3_0 y5
      rw [spec_l2Mul.e1]
      simp only [spec_l2Mul.l1, R.map_ite, R.map_bind, R.map_none, R.map_some, R.wr64_eq, ← ih0, ← ih1]
theorem spec_l2Mul.sf (k : Nat) (a0_0 : Int) (l0_1 : List Int) (a1_0 : Int) (l1_1 : List Int) : R.start Try.prog xhn spec_l2Mul.O 0 Try.f146 spec_l2Mul.fh k [.agg [.int .i64 a0_0, .imm (.I .i64 l0_1)], .agg [.int .i64 a1_0, .imm (.I .i64 l1_1)]] [] = (spec_l2Mul.f k a0_0 l0_1 a1_0 l1_1).map (spec_l2Mul.en) := by
  obtain ⟨ih0, ih1⟩ := spec_l2Mul.link k
  rw [spec_l2Mul.ef]
  simp only [spec_l2Mul.f, R.map_ite, R.map_bind, R.map_none, R.map_some, R.wr64_eq, ← ih0, ← ih1]
theorem spec_l2Mul.ok (k : Nat) : spec_l2Mul.tw.Ok Try.prog k := by
  intro md hmd a r h
  refine fn_ok (H := xhn) (fh := spec_l2Mul.fh) (O := spec_l2Mul.O) (k := k) Try.func146 (by kernel_rfl) (by kernel_rfl) (fun j _ => (Tw.orc_sound spec_l1Add.dok (spec_l1Add.ok j) (fun _ => rfl) noO_sound)) (by kernel_rfl) (m := 0) rfl ?_
  refine (spec_l2Mul.sf k a.1 a.2.1 a.2.2.1 a.2.2.2).trans ?_
  exact congrArg (Option.map _) h
def spec_l4Matrix.l0 : Nat → ByteArray → Int → Int → Int → (List Int) → Int → (List Int) → Int → (List Int) → Option (Int × (List Int))
  | 0, _, _, _, _, _, _, _, _, _ => none
  | k + 1, x1, x17, x18, y1_0, y5, y2_0, y6, y3_0, y7 => (if x18 < x17 then (if 0 ≤ x18 then (if x18 < (x1.size : Int) then (if (btI x1 x18) = 97 then ((spec_l2Mul.f k y1_0 y5 y2_0 y6).bind fun t4 => (spec_l4Matrix.l0 k x1 x17 (wrap64 (x18 + 1)) t4.1 t4.2 y2_0 y6 y3_0 y7)) else ((spec_l2Mul.f k y1_0 y5 y3_0 y7).bind fun t5 => (spec_l4Matrix.l0 k x1 x17 (wrap64 (x18 + 1)) t5.1 t5.2 y2_0 y6 y3_0 y7))) else none) else none) else (some (y1_0, y5)))
def spec_l4Matrix.f (k : Nat) (a0_0 : Int) (l0_1 : List Int) (l0_2 : List Int) (l0_3 : List Stp) (a1 : ByteArray) : Option (Int × (List Int)) := ((spec_l2Unit.f k a0_0).bind fun t1 => ((spec_l3Matrix.f k a0_0 l0_1 l0_2 l0_3 (⟨#[97]⟩ : ByteArray)).bind fun t2 => ((spec_l3Matrix.f k a0_0 l0_1 l0_2 l0_3 (⟨#[98]⟩ : ByteArray)).bind fun t3 => (spec_l4Matrix.l0 k a1 (a1.size : Int) 0 t1.1 t1.2 t2.1 t2.2 t3.1 t3.2))))
def spec_l4Matrix.en (r : Int × (List Int)) : Res := (.agg [.int .i64 r.1, .sl 0 0], [.arr 3 0 (.I .i64 r.2) false])
def spec_l4Matrix.dec : List AV → List R.Obj → Option (Int × (List Int) × (List Int) × (List Stp) × ByteArray)
  | [.agg [.int .i64 a0_0, .imm (.I .i64 l0_1), .imm (.I .i64 l0_2), .imm (.T l0_3)], .str a1], [] => some (a0_0, l0_1, l0_2, l0_3, a1)
  | _, _ => none
def spec_l4Matrix.tw : Tw := ⟨130, Int × (List Int) × (List Int) × (List Stp) × ByteArray, Int × (List Int), spec_l4Matrix.dec, fun a => [.agg [.int .i64 a.1, .imm (.I .i64 a.2.1), .imm (.I .i64 a.2.2.1), .imm (.T a.2.2.2.1)], .str a.2.2.2.2], fun a => [], fun k a => spec_l4Matrix.f k a.1 a.2.1 a.2.2.1 a.2.2.2.1 a.2.2.2.2, fun a r => spec_l4Matrix.en r, true⟩
theorem spec_l4Matrix.dok : spec_l4Matrix.tw.DecOk := by
  intro args hc a h
  have h : spec_l4Matrix.dec args hc = some a := h
  unfold spec_l4Matrix.dec at h
  split at h
  · cases h; exact ⟨rfl, rfl⟩
  · cases h
noncomputable def spec_l4Matrix.O (k : Nat) : Oracle := (spec_l2Unit.tw.orc k (spec_l3Matrix.tw.orc k (spec_l2Mul.tw.orc k noO)))
def spec_l4Matrix.fh : FH := ⟨fun i => match i with | 4 => some [(1, 0), (4, 0), (5, 0), (6, 0), (7, 0), (17, 0), (18, 0)] | _ => none, [(true, 3)], false⟩
noncomputable def spec_l4Matrix.x0 (k : Nat) (x1 : ByteArray) (x17 : Int) (x18 : Int) (y1_0 : Int) (y5 : List Int) (y2_0 : Int) (y6 : List Int) (y3_0 : Int) (y7 : List Int) : Option Res := R.exec Try.prog xhn spec_l4Matrix.O 0 Try.f130 spec_l4Matrix.fh k (R.point Try.f130 4) ⟨[(1, .str x1), (4, .ptr 0 0), (5, .ptr 1 0), (6, .ptr 2 0), (7, .ptr 3 0), (17, .int .i64 x17), (18, .int .i64 x18)], [(0, .box false [.int .i64 0, .sl 4 0]), (1, .box false [.int .i64 y1_0, .sl 5 0]), (2, .box false [.int .i64 y2_0, .sl 6 0]), (3, .box false [.int .i64 y3_0, .sl 7 0]), (4, .arr 3 0 (.I .i64 ([] : List Int)) false), (5, .arr 3 0 (.I .i64 y5) false), (6, .arr 3 0 (.I .i64 y6) false), (7, .arr 3 0 (.I .i64 y7) false)], 10⟩
set_option maxRecDepth 100000 in
theorem spec_l4Matrix.e0 (k : Nat) (x1 : ByteArray) (x17 : Int) (x18 : Int) (y1_0 : Int) (y5 : List Int) (y2_0 : Int) (y6 : List Int) (y3_0 : Int) (y7 : List Int) : spec_l4Matrix.x0 (k + 1) x1 x17 x18 y1_0 y5 y2_0 y6 y3_0 y7 = (if x18 < x17 then (if 0 ≤ x18 then (if x18 < (x1.size : Int) then (if (btI x1 x18) = 97 then ((spec_l2Mul.f k y1_0 y5 y2_0 y6).bind fun t4 => (spec_l4Matrix.x0 k x1 x17 (wr64 (x18 + 1)) t4.1 t4.2 y2_0 y6 y3_0 y7)) else ((spec_l2Mul.f k y1_0 y5 y3_0 y7).bind fun t5 => (spec_l4Matrix.x0 k x1 x17 (wr64 (x18 + 1)) t5.1 t5.2 y2_0 y6 y3_0 y7))) else none) else none) else (some (spec_l4Matrix.en (y1_0, y5)))) := by kernel_rfl
set_option maxRecDepth 100000 in
theorem spec_l4Matrix.ef (k : Nat) (a0_0 : Int) (l0_1 : List Int) (l0_2 : List Int) (l0_3 : List Stp) (a1 : ByteArray) : R.start Try.prog xhn spec_l4Matrix.O 0 Try.f130 spec_l4Matrix.fh k [.agg [.int .i64 a0_0, .imm (.I .i64 l0_1), .imm (.I .i64 l0_2), .imm (.T l0_3)], .str a1] [] = ((spec_l2Unit.f k a0_0).bind fun t1 => ((spec_l3Matrix.f k a0_0 l0_1 l0_2 l0_3 (⟨#[97]⟩ : ByteArray)).bind fun t2 => ((spec_l3Matrix.f k a0_0 l0_1 l0_2 l0_3 (⟨#[98]⟩ : ByteArray)).bind fun t3 => (spec_l4Matrix.x0 k a1 (a1.size : Int) 0 t1.1 t1.2 t2.1 t2.2 t3.1 t3.2)))) := by kernel_rfl
theorem spec_l4Matrix.link : ∀ k, (∀ (x1 : ByteArray) (x17 : Int) (x18 : Int) (y1_0 : Int) (y5 : List Int) (y2_0 : Int) (y6 : List Int) (y3_0 : Int) (y7 : List Int), spec_l4Matrix.x0 k x1 x17 x18 y1_0 y5 y2_0 y6 y3_0 y7 = (spec_l4Matrix.l0 k x1 x17 x18 y1_0 y5 y2_0 y6 y3_0 y7).map (spec_l4Matrix.en))
  | 0 => fun _ _ _ _ _ _ _ _ _ => by simp only [spec_l4Matrix.l0, R.map_none]; rfl
  | k + 1 => by
    have ih0 := spec_l4Matrix.link k
    · intro x1 x17 x18 y1_0 y5 y2_0 y6 y3_0 y7
      rw [spec_l4Matrix.e0]
      simp only [spec_l4Matrix.l0, R.map_ite, R.map_bind, R.map_none, R.map_some, R.wr64_eq, ← ih0]
theorem spec_l4Matrix.sf (k : Nat) (a0_0 : Int) (l0_1 : List Int) (l0_2 : List Int) (l0_3 : List Stp) (a1 : ByteArray) : R.start Try.prog xhn spec_l4Matrix.O 0 Try.f130 spec_l4Matrix.fh k [.agg [.int .i64 a0_0, .imm (.I .i64 l0_1), .imm (.I .i64 l0_2), .imm (.T l0_3)], .str a1] [] = (spec_l4Matrix.f k a0_0 l0_1 l0_2 l0_3 a1).map (spec_l4Matrix.en) := by
  have ih0 := spec_l4Matrix.link k
  rw [spec_l4Matrix.ef]
  simp only [spec_l4Matrix.f, R.map_ite, R.map_bind, R.map_none, R.map_some, R.wr64_eq, ← ih0]
theorem spec_l4Matrix.ok (k : Nat) : spec_l4Matrix.tw.Ok Try.prog k := by
  intro md hmd a r h
  refine fn_ok (H := xhn) (fh := spec_l4Matrix.fh) (O := spec_l4Matrix.O) (k := k) Try.func130 (by kernel_rfl) (by kernel_rfl) (fun j _ => (Tw.orc_sound spec_l2Unit.dok (spec_l2Unit.ok j) (fun _ => rfl) (Tw.orc_sound spec_l3Matrix.dok (spec_l3Matrix.ok j) (fun _ => rfl) (Tw.orc_sound spec_l2Mul.dok (spec_l2Mul.ok j) (fun _ => rfl) noO_sound)))) (by kernel_rfl) (m := 0) rfl ?_
  refine (spec_l4Matrix.sf k a.1 a.2.1 a.2.2.1 a.2.2.2.1 a.2.2.2.2).trans ?_
  exact congrArg (Option.map _) h
mutual
def spec_l4Least.l0 : Nat → Int → (List Int) → Int → Int → Int → (List Int) → (List Int) → (List Stp) → Int → (List Int) → Option (Int)
  | 0, _, _, _, _, _, _, _, _, _, _ => none
  | k + 1, x5, x11, x12, x13, y0_0, y0_1, y0_2, y0_3, y1_0, y1_1 => (if x13 < x12 then (if 0 ≤ x13 then (if x13 < (x11.length : Int) then (spec_l4Least.l1 k x5 (rdI x11 x13) x11 x12 x13 y0_2 (y0_2.length : Int) 0 y0_0 y0_1 y0_2 y0_3 y1_0 y1_1) else none) else none) else (some x5))
def spec_l4Least.l1 : Nat → Int → Int → (List Int) → Int → Int → (List Int) → Int → Int → Int → (List Int) → (List Int) → (List Stp) → Int → (List Int) → Option (Int)
  | 0, _, _, _, _, _, _, _, _, _, _, _, _, _, _ => none
  | k + 1, x5, x7, x11, x12, x13, x18, x19, x20, y0_0, y0_1, y0_2, y0_3, y1_0, y1_1 => (if x20 < x19 then (if 0 ≤ x20 then (if x20 < (x18.length : Int) then (if 0 ≤ (wrap64 ((wrap64 (x7 * y0_0)) + (rdI x18 x20))) then (if (wrap64 ((wrap64 (x7 * y0_0)) + (rdI x18 x20))) < (y1_1.length : Int) then (spec_l4Least.l1 k (mn x5 (rdI y1_1 (wrap64 ((wrap64 (x7 * y0_0)) + (rdI x18 x20))))) x7 x11 x12 x13 x18 x19 (wrap64 (x20 + 1)) y0_0 y0_1 y0_2 y0_3 y1_0 y1_1) else none) else none) else none) else none) else (spec_l4Least.l0 k x5 x11 x12 (wrap64 (x13 + 1)) y0_0 y0_1 y0_2 y0_3 y1_0 y1_1))
end
def spec_l4Least.f (k : Nat) (a0_0 : Int) (l0_1 : List Int) (l0_2 : List Int) (l0_3 : List Stp) (a1_0 : Int) (l1_1 : List Int) : Option (Int) := (spec_l4Least.l0 k 1000000 l0_1 (l0_1.length : Int) 0 a0_0 l0_1 l0_2 l0_3 a1_0 l1_1)
def spec_l4Least.en (r : Int) : Res := (.int .i64 r, [])
def spec_l4Least.dec : List AV → List R.Obj → Option (Int × (List Int) × (List Int) × (List Stp) × Int × (List Int))
  | [.agg [.int .i64 a0_0, .imm (.I .i64 l0_1), .imm (.I .i64 l0_2), .imm (.T l0_3)], .agg [.int .i64 a1_0, .imm (.I .i64 l1_1)]], [] => some (a0_0, l0_1, l0_2, l0_3, a1_0, l1_1)
  | _, _ => none
def spec_l4Least.tw : Tw := ⟨129, Int × (List Int) × (List Int) × (List Stp) × Int × (List Int), Int, spec_l4Least.dec, fun a => [.agg [.int .i64 a.1, .imm (.I .i64 a.2.1), .imm (.I .i64 a.2.2.1), .imm (.T a.2.2.2.1)], .agg [.int .i64 a.2.2.2.2.1, .imm (.I .i64 a.2.2.2.2.2)]], fun a => [], fun k a => spec_l4Least.f k a.1 a.2.1 a.2.2.1 a.2.2.2.1 a.2.2.2.2.1 a.2.2.2.2.2, fun a r => spec_l4Least.en r, true⟩
theorem spec_l4Least.dok : spec_l4Least.tw.DecOk := by
  intro args hc a h
  have h : spec_l4Least.dec args hc = some a := h
  unfold spec_l4Least.dec at h
  split at h
  · cases h; exact ⟨rfl, rfl⟩
  · cases h
noncomputable def spec_l4Least.O (k : Nat) : Oracle := noO
def spec_l4Least.fh : FH := ⟨fun i => match i with | 3 => some [(2, 0), (3, 0), (5, 0), (11, 0), (12, 0), (13, 0)] | 6 => some [(2, 0), (3, 0), (5, 0), (7, 0), (11, 0), (12, 0), (13, 0), (18, 0), (19, 0), (20, 0)] | _ => none, [], false⟩
noncomputable def spec_l4Least.x0 (k : Nat) (x5 : Int) (x11 : List Int) (x12 : Int) (x13 : Int) (y0_0 : Int) (y0_1 : List Int) (y0_2 : List Int) (y0_3 : List Stp) (y1_0 : Int) (y1_1 : List Int) : Option Res := R.exec Try.prog xhn spec_l4Least.O 0 Try.f129 spec_l4Least.fh k (R.point Try.f129 3) ⟨[(2, .ptr 0 0), (3, .ptr 1 0), (5, .int .i64 x5), (11, .imm (.I .i64 x11)), (12, .int .i64 x12), (13, .int .i64 x13)], [(0, .box false [.int .i64 y0_0, .imm (.I .i64 y0_1), .imm (.I .i64 y0_2), .imm (.T y0_3)]), (1, .box false [.int .i64 y1_0, .imm (.I .i64 y1_1)])], 4⟩
noncomputable def spec_l4Least.x1 (k : Nat) (x5 : Int) (x7 : Int) (x11 : List Int) (x12 : Int) (x13 : Int) (x18 : List Int) (x19 : Int) (x20 : Int) (y0_0 : Int) (y0_1 : List Int) (y0_2 : List Int) (y0_3 : List Stp) (y1_0 : Int) (y1_1 : List Int) : Option Res := R.exec Try.prog xhn spec_l4Least.O 0 Try.f129 spec_l4Least.fh k (R.point Try.f129 6) ⟨[(2, .ptr 0 0), (3, .ptr 1 0), (5, .int .i64 x5), (7, .int .i64 x7), (11, .imm (.I .i64 x11)), (12, .int .i64 x12), (13, .int .i64 x13), (18, .imm (.I .i64 x18)), (19, .int .i64 x19), (20, .int .i64 x20)], [(0, .box false [.int .i64 y0_0, .imm (.I .i64 y0_1), .imm (.I .i64 y0_2), .imm (.T y0_3)]), (1, .box false [.int .i64 y1_0, .imm (.I .i64 y1_1)])], 4⟩
set_option maxRecDepth 100000 in
theorem spec_l4Least.e0 (k : Nat) (x5 : Int) (x11 : List Int) (x12 : Int) (x13 : Int) (y0_0 : Int) (y0_1 : List Int) (y0_2 : List Int) (y0_3 : List Stp) (y1_0 : Int) (y1_1 : List Int) : spec_l4Least.x0 (k + 1) x5 x11 x12 x13 y0_0 y0_1 y0_2 y0_3 y1_0 y1_1 = (if x13 < x12 then (if 0 ≤ x13 then (if x13 < (x11.length : Int) then (spec_l4Least.x1 k x5 (rdI x11 x13) x11 x12 x13 y0_2 (y0_2.length : Int) 0 y0_0 y0_1 y0_2 y0_3 y1_0 y1_1) else none) else none) else (some (spec_l4Least.en x5))) := by kernel_rfl
set_option maxRecDepth 100000 in
theorem spec_l4Least.e1 (k : Nat) (x5 : Int) (x7 : Int) (x11 : List Int) (x12 : Int) (x13 : Int) (x18 : List Int) (x19 : Int) (x20 : Int) (y0_0 : Int) (y0_1 : List Int) (y0_2 : List Int) (y0_3 : List Stp) (y1_0 : Int) (y1_1 : List Int) : spec_l4Least.x1 (k + 1) x5 x7 x11 x12 x13 x18 x19 x20 y0_0 y0_1 y0_2 y0_3 y1_0 y1_1 = (if x20 < x19 then (if 0 ≤ x20 then (if x20 < (x18.length : Int) then (if 0 ≤ (wr64 ((wr64 (x7 * y0_0)) + (rdI x18 x20))) then (if (wr64 ((wr64 (x7 * y0_0)) + (rdI x18 x20))) < (y1_1.length : Int) then (spec_l4Least.x1 k (mn x5 (rdI y1_1 (wr64 ((wr64 (x7 * y0_0)) + (rdI x18 x20))))) x7 x11 x12 x13 x18 x19 (wr64 (x20 + 1)) y0_0 y0_1 y0_2 y0_3 y1_0 y1_1) else none) else none) else none) else none) else (spec_l4Least.x0 k x5 x11 x12 (wr64 (x13 + 1)) y0_0 y0_1 y0_2 y0_3 y1_0 y1_1)) := by kernel_rfl
set_option maxRecDepth 100000 in
theorem spec_l4Least.ef (k : Nat) (a0_0 : Int) (l0_1 : List Int) (l0_2 : List Int) (l0_3 : List Stp) (a1_0 : Int) (l1_1 : List Int) : R.start Try.prog xhn spec_l4Least.O 0 Try.f129 spec_l4Least.fh k [.agg [.int .i64 a0_0, .imm (.I .i64 l0_1), .imm (.I .i64 l0_2), .imm (.T l0_3)], .agg [.int .i64 a1_0, .imm (.I .i64 l1_1)]] [] = (spec_l4Least.x0 k 1000000 l0_1 (l0_1.length : Int) 0 a0_0 l0_1 l0_2 l0_3 a1_0 l1_1) := by kernel_rfl
theorem spec_l4Least.link : ∀ k, (∀ (x5 : Int) (x11 : List Int) (x12 : Int) (x13 : Int) (y0_0 : Int) (y0_1 : List Int) (y0_2 : List Int) (y0_3 : List Stp) (y1_0 : Int) (y1_1 : List Int), spec_l4Least.x0 k x5 x11 x12 x13 y0_0 y0_1 y0_2 y0_3 y1_0 y1_1 = (spec_l4Least.l0 k x5 x11 x12 x13 y0_0 y0_1 y0_2 y0_3 y1_0 y1_1).map (spec_l4Least.en)) ∧ (∀ (x5 : Int) (x7 : Int) (x11 : List Int) (x12 : Int) (x13 : Int) (x18 : List Int) (x19 : Int) (x20 : Int) (y0_0 : Int) (y0_1 : List Int) (y0_2 : List Int) (y0_3 : List Stp) (y1_0 : Int) (y1_1 : List Int), spec_l4Least.x1 k x5 x7 x11 x12 x13 x18 x19 x20 y0_0 y0_1 y0_2 y0_3 y1_0 y1_1 = (spec_l4Least.l1 k x5 x7 x11 x12 x13 x18 x19 x20 y0_0 y0_1 y0_2 y0_3 y1_0 y1_1).map (spec_l4Least.en))
  | 0 => ⟨fun _ _ _ _ _ _ _ _ _ _ => by simp only [spec_l4Least.l0, R.map_none]; rfl, fun _ _ _ _ _ _ _ _ _ _ _ _ _ _ => by simp only [spec_l4Least.l1, R.map_none]; rfl⟩
  | k + 1 => by
    obtain ⟨ih0, ih1⟩ := spec_l4Least.link k
    refine ⟨?_, ?_⟩
    · intro x5 x11 x12 x13 y0_0 y0_1 y0_2 y0_3 y1_0 y1_1
      rw [spec_l4Least.e0]
      simp only [spec_l4Least.l0, R.map_ite, R.map_bind, R.map_none, R.map_some, R.wr64_eq, ← ih0, ← ih1]
    · intro x5 x7 x11 x12 x13 x18 x19 x20 y0_0 y0_1 y0_2 y0_3 y1_0 y1_1
      rw [spec_l4Least.e1]
      simp only [spec_l4Least.l1, R.map_ite, R.map_bind, R.map_none, R.map_some, R.wr64_eq, ← ih0, ← ih1]
theorem spec_l4Least.sf (k : Nat) (a0_0 : Int) (l0_1 : List Int) (l0_2 : List Int) (l0_3 : List Stp) (a1_0 : Int) (l1_1 : List Int) : R.start Try.prog xhn spec_l4Least.O 0 Try.f129 spec_l4Least.fh k [.agg [.int .i64 a0_0, .imm (.I .i64 l0_1), .imm (.I .i64 l0_2), .imm (.T l0_3)], .agg [.int .i64 a1_0, .imm (.I .i64 l1_1)]] [] = (spec_l4Least.f k a0_0 l0_1 l0_2 l0_3 a1_0 l1_1).map (spec_l4Least.en) := by
  obtain ⟨ih0, ih1⟩ := spec_l4Least.link k
  rw [spec_l4Least.ef]
  simp only [spec_l4Least.f, R.map_ite, R.map_bind, R.map_none, R.map_some, R.wr64_eq, ← ih0, ← ih1]
theorem spec_l4Least.ok (k : Nat) : spec_l4Least.tw.Ok Try.prog k := by
  intro md hmd a r h
  refine fn_ok (H := xhn) (fh := spec_l4Least.fh) (O := spec_l4Least.O) (k := k) Try.func129 (by kernel_rfl) (by kernel_rfl) (fun j _ => noO_sound) (by kernel_rfl) (m := 0) rfl ?_
  refine (spec_l4Least.sf k a.1 a.2.1 a.2.2.1 a.2.2.2.1 a.2.2.2.2.1 a.2.2.2.2.2).trans ?_
  exact congrArg (Option.map _) h
def spec_l4Cost.f (k : Nat) (a0_0 : Int) (l0_1 : List Int) (l0_2 : List Int) (l0_3 : List Stp) (a1 : ByteArray) : Option (Int) := ((spec_l4Matrix.f k a0_0 l0_1 l0_2 l0_3 a1).bind fun t1 => ((spec_l4Least.f k a0_0 l0_1 l0_2 l0_3 t1.1 t1.2).bind fun t2 => (some t2)))
def spec_l4Cost.en (r : Int) : Res := (.int .i64 r, [])
def spec_l4Cost.dec : List AV → List R.Obj → Option (Int × (List Int) × (List Int) × (List Stp) × ByteArray)
  | [.agg [.int .i64 a0_0, .imm (.I .i64 l0_1), .imm (.I .i64 l0_2), .imm (.T l0_3)], .str a1], [] => some (a0_0, l0_1, l0_2, l0_3, a1)
  | _, _ => none
def spec_l4Cost.tw : Tw := ⟨93, Int × (List Int) × (List Int) × (List Stp) × ByteArray, Int, spec_l4Cost.dec, fun a => [.agg [.int .i64 a.1, .imm (.I .i64 a.2.1), .imm (.I .i64 a.2.2.1), .imm (.T a.2.2.2.1)], .str a.2.2.2.2], fun a => [], fun k a => spec_l4Cost.f k a.1 a.2.1 a.2.2.1 a.2.2.2.1 a.2.2.2.2, fun a r => spec_l4Cost.en r, true⟩
theorem spec_l4Cost.dok : spec_l4Cost.tw.DecOk := by
  intro args hc a h
  have h : spec_l4Cost.dec args hc = some a := h
  unfold spec_l4Cost.dec at h
  split at h
  · cases h; exact ⟨rfl, rfl⟩
  · cases h
noncomputable def spec_l4Cost.O (k : Nat) : Oracle := (spec_l4Matrix.tw.orc k (spec_l4Least.tw.orc k noO))
def spec_l4Cost.fh : FH := ⟨fun i => match i with | _ => none, [], false⟩
set_option maxRecDepth 100000 in
theorem spec_l4Cost.ef (k : Nat) (a0_0 : Int) (l0_1 : List Int) (l0_2 : List Int) (l0_3 : List Stp) (a1 : ByteArray) : R.start Try.prog xhn spec_l4Cost.O 0 Try.f93 spec_l4Cost.fh k [.agg [.int .i64 a0_0, .imm (.I .i64 l0_1), .imm (.I .i64 l0_2), .imm (.T l0_3)], .str a1] [] = ((spec_l4Matrix.f k a0_0 l0_1 l0_2 l0_3 a1).bind fun t1 => ((spec_l4Least.f k a0_0 l0_1 l0_2 l0_3 t1.1 t1.2).bind fun t2 => (some (spec_l4Cost.en t2)))) := by kernel_rfl
theorem spec_l4Cost.sf (k : Nat) (a0_0 : Int) (l0_1 : List Int) (l0_2 : List Int) (l0_3 : List Stp) (a1 : ByteArray) : R.start Try.prog xhn spec_l4Cost.O 0 Try.f93 spec_l4Cost.fh k [.agg [.int .i64 a0_0, .imm (.I .i64 l0_1), .imm (.I .i64 l0_2), .imm (.T l0_3)], .str a1] [] = (spec_l4Cost.f k a0_0 l0_1 l0_2 l0_3 a1).map (spec_l4Cost.en) := by
  rw [spec_l4Cost.ef]
  simp only [spec_l4Cost.f, R.map_ite, R.map_bind, R.map_none, R.map_some, R.wr64_eq]
theorem spec_l4Cost.ok (k : Nat) : spec_l4Cost.tw.Ok Try.prog k := by
  intro md hmd a r h
  refine fn_ok (H := xhn) (fh := spec_l4Cost.fh) (O := spec_l4Cost.O) (k := k) Try.func93 (by kernel_rfl) (by kernel_rfl) (fun j _ => (Tw.orc_sound spec_l4Matrix.dok (spec_l4Matrix.ok j) (fun _ => rfl) (Tw.orc_sound spec_l4Least.dok (spec_l4Least.ok j) (fun _ => rfl) noO_sound))) (by kernel_rfl) (m := 0) rfl ?_
  refine (spec_l4Cost.sf k a.1 a.2.1 a.2.2.1 a.2.2.2.1 a.2.2.2.2).trans ?_
  exact congrArg (Option.map _) h
def spec_PrefixCosts.l0 : Nat → ByteArray → (List Int) → Int → Int → Int → (List Int) → (List Int) → (List Stp) → Option ((List Int) × Bool)
  | 0, _, _, _, _, _, _, _, _ => none
  | k + 1, x1, y1, x16, x17, y0_0, y0_1, y0_2, y0_3 => (if x17 < x16 then (if 0 ≤ x17 then (if x17 ≤ (x1.size : Int) then ((spec_l4Cost.f k y0_0 y0_1 y0_2 y0_3 (x1.extract 0 x17.toNat)).bind fun t2 => (if y1.length < 17592186044416 then (spec_PrefixCosts.l0 k x1 (y1 ++ [t2]) x16 (wrap64 (x17 + 1)) y0_0 y0_1 y0_2 y0_3) else none)) else none) else none) else (some (y1, true)))
def spec_PrefixCosts.f (k : Nat) (a0_0 : Int) (l0_1 : List Int) (l0_2 : List Int) (l0_3 : List Stp) (a1 : ByteArray) : Option ((List Int) × Bool) := ((spec_l4Asked.f k a0_0 l0_1 l0_2 l0_3 a1).bind fun t1 => (if t1 = true then (spec_PrefixCosts.l0 k a1 ([] : List Int) (wrap64 ((a1.size : Int) + 1)) 0 a0_0 l0_1 l0_2 l0_3) else (some (([] : List Int), false))))
def spec_PrefixCosts.en (r : (List Int) × Bool) : Res := (.tup [.sl 0 0, .lit r.2], [.arr 3 0 (.I .i64 r.1) false])
def spec_PrefixCosts.dec : List AV → List R.Obj → Option (Int × (List Int) × (List Int) × (List Stp) × ByteArray)
  | [.agg [.int .i64 a0_0, .imm (.I .i64 l0_1), .imm (.I .i64 l0_2), .imm (.T l0_3)], .str a1], [] => some (a0_0, l0_1, l0_2, l0_3, a1)
  | _, _ => none
def spec_PrefixCosts.tw : Tw := ⟨32, Int × (List Int) × (List Int) × (List Stp) × ByteArray, (List Int) × Bool, spec_PrefixCosts.dec, fun a => [.agg [.int .i64 a.1, .imm (.I .i64 a.2.1), .imm (.I .i64 a.2.2.1), .imm (.T a.2.2.2.1)], .str a.2.2.2.2], fun a => [], fun k a => spec_PrefixCosts.f k a.1 a.2.1 a.2.2.1 a.2.2.2.1 a.2.2.2.2, fun a r => spec_PrefixCosts.en r, true⟩
theorem spec_PrefixCosts.dok : spec_PrefixCosts.tw.DecOk := by
  intro args hc a h
  have h : spec_PrefixCosts.dec args hc = some a := h
  unfold spec_PrefixCosts.dec at h
  split at h
  · cases h; exact ⟨rfl, rfl⟩
  · cases h
noncomputable def spec_PrefixCosts.O (k : Nat) : Oracle := (spec_l4Asked.tw.orc k (spec_l4Cost.tw.orc k noO))
def spec_PrefixCosts.fh : FH := ⟨fun i => match i with | 5 => some [(1, 0), (2, 0), (6, 0), (16, 0), (17, 0)] | _ => none, [(true, 3)], false⟩
noncomputable def spec_PrefixCosts.x0 (k : Nat) (x1 : ByteArray) (y1 : List Int) (x16 : Int) (x17 : Int) (y0_0 : Int) (y0_1 : List Int) (y0_2 : List Int) (y0_3 : List Stp) : Option Res := R.exec Try.prog xhn spec_PrefixCosts.O 0 Try.f32 spec_PrefixCosts.fh k (R.point Try.f32 5) ⟨[(1, .str x1), (2, .ptr 0 0), (6, .sl 1 0), (16, .int .i64 x16), (17, .int .i64 x17)], [(0, .box false [.int .i64 y0_0, .imm (.I .i64 y0_1), .imm (.I .i64 y0_2), .imm (.T y0_3)]), (1, .arr 3 0 (.I .i64 y1) false)], 4⟩
set_option maxRecDepth 100000 in
theorem spec_PrefixCosts.e0 (k : Nat) (x1 : ByteArray) (y1 : List Int) (x16 : Int) (x17 : Int) (y0_0 : Int) (y0_1 : List Int) (y0_2 : List Int) (y0_3 : List Stp) : spec_PrefixCosts.x0 (k + 1) x1 y1 x16 x17 y0_0 y0_1 y0_2 y0_3 = (if x17 < x16 then (if 0 ≤ x17 then (if x17 ≤ (x1.size : Int) then ((spec_l4Cost.f k y0_0 y0_1 y0_2 y0_3 (x1.extract 0 x17.toNat)).bind fun t2 => (if y1.length < 17592186044416 then (spec_PrefixCosts.x0 k x1 (y1 ++ [t2]) x16 (wr64 (x17 + 1)) y0_0 y0_1 y0_2 y0_3) else none)) else none) else none) else (some (spec_PrefixCosts.en (y1, true)))) := by kernel_rfl
set_option maxRecDepth 100000 in
theorem spec_PrefixCosts.ef (k : Nat) (a0_0 : Int) (l0_1 : List Int) (l0_2 : List Int) (l0_3 : List Stp) (a1 : ByteArray) : R.start Try.prog xhn spec_PrefixCosts.O 0 Try.f32 spec_PrefixCosts.fh k [.agg [.int .i64 a0_0, .imm (.I .i64 l0_1), .imm (.I .i64 l0_2), .imm (.T l0_3)], .str a1] [] = ((spec_l4Asked.f k a0_0 l0_1 l0_2 l0_3 a1).bind fun t1 => (if t1 = true then (spec_PrefixCosts.x0 k a1 ([] : List Int) (wr64 ((a1.size : Int) + 1)) 0 a0_0 l0_1 l0_2 l0_3) else (some (spec_PrefixCosts.en (([] : List Int), false))))) := by kernel_rfl
theorem spec_PrefixCosts.link : ∀ k, (∀ (x1 : ByteArray) (y1 : List Int) (x16 : Int) (x17 : Int) (y0_0 : Int) (y0_1 : List Int) (y0_2 : List Int) (y0_3 : List Stp), spec_PrefixCosts.x0 k x1 y1 x16 x17 y0_0 y0_1 y0_2 y0_3 = (spec_PrefixCosts.l0 k x1 y1 x16 x17 y0_0 y0_1 y0_2 y0_3).map (spec_PrefixCosts.en))
  | 0 => fun _ _ _ _ _ _ _ _ => by simp only [spec_PrefixCosts.l0, R.map_none]; rfl
  | k + 1 => by
    have ih0 := spec_PrefixCosts.link k
    · intro x1 y1 x16 x17 y0_0 y0_1 y0_2 y0_3
      rw [spec_PrefixCosts.e0]
      simp only [spec_PrefixCosts.l0, R.map_ite, R.map_bind, R.map_none, R.map_some, R.wr64_eq, ← ih0]
theorem spec_PrefixCosts.sf (k : Nat) (a0_0 : Int) (l0_1 : List Int) (l0_2 : List Int) (l0_3 : List Stp) (a1 : ByteArray) : R.start Try.prog xhn spec_PrefixCosts.O 0 Try.f32 spec_PrefixCosts.fh k [.agg [.int .i64 a0_0, .imm (.I .i64 l0_1), .imm (.I .i64 l0_2), .imm (.T l0_3)], .str a1] [] = (spec_PrefixCosts.f k a0_0 l0_1 l0_2 l0_3 a1).map (spec_PrefixCosts.en) := by
  have ih0 := spec_PrefixCosts.link k
  rw [spec_PrefixCosts.ef]
  simp only [spec_PrefixCosts.f, R.map_ite, R.map_bind, R.map_none, R.map_some, R.wr64_eq, ← ih0]
theorem spec_PrefixCosts.ok (k : Nat) : spec_PrefixCosts.tw.Ok Try.prog k := by
  intro md hmd a r h
  refine fn_ok (H := xhn) (fh := spec_PrefixCosts.fh) (O := spec_PrefixCosts.O) (k := k) Try.func32 (by kernel_rfl) (by kernel_rfl) (fun j _ => (Tw.orc_sound spec_l4Asked.dok (spec_l4Asked.ok j) (fun _ => rfl) (Tw.orc_sound spec_l4Cost.dok (spec_l4Cost.ok j) (fun _ => rfl) noO_sound))) (by kernel_rfl) (m := 0) rfl ?_
  refine (spec_PrefixCosts.sf k a.1 a.2.1 a.2.2.1 a.2.2.2.1 a.2.2.2.2).trans ?_
  exact congrArg (Option.map _) h
def impl_statesOk.l0 : Nat → (List Int) → Int → (List Int) → Int → Int → Option (Bool)
  | 0, _, _, _, _, _ => none
  | k + 1, x0, x1, x7, x8, x9 => (if x9 < x8 then (if 0 ≤ x9 then (if x9 < (x7.length : Int) then (if (rdI x7 x9) < 0 then (some false) else (if (rdI x7 x9) ≥ x1 then (some false) else (if x9 > 0 then (if 0 ≤ (wrap64 (x9 - 1)) then (if (wrap64 (x9 - 1)) < (x0.length : Int) then (if (rdI x0 (wrap64 (x9 - 1))) ≥ (rdI x7 x9) then (some false) else (impl_statesOk.l0 k x0 x1 x7 x8 (wrap64 (x9 + 1)))) else none) else none) else (impl_statesOk.l0 k x0 x1 x7 x8 (wrap64 (x9 + 1)))))) else none) else none) else (some true))
def impl_statesOk.f (k : Nat) (l0 : List Int) (a1 : Int) : Option (Bool) := (impl_statesOk.l0 k l0 a1 l0 (l0.length : Int) 0)
def impl_statesOk.en (r : Bool) : Res := (.lit r, [])
def impl_statesOk.dec : List AV → List R.Obj → Option ((List Int) × Int)
  | [.imm (.I .i64 l0), .int .i64 a1], [] => some (l0, a1)
  | _, _ => none
def impl_statesOk.tw : Tw := ⟨101, (List Int) × Int, Bool, impl_statesOk.dec, fun a => [.imm (.I .i64 a.1), .int .i64 a.2], fun a => [], fun k a => impl_statesOk.f k a.1 a.2, fun a r => impl_statesOk.en r, true⟩
theorem impl_statesOk.dok : impl_statesOk.tw.DecOk := by
  intro args hc a h
  have h : impl_statesOk.dec args hc = some a := h
  unfold impl_statesOk.dec at h
  split at h
  · cases h; exact ⟨rfl, rfl⟩
  · cases h
noncomputable def impl_statesOk.O (k : Nat) : Oracle := noO
def impl_statesOk.fh : FH := ⟨fun i => match i with | 2 => some [(0, 0), (1, 0), (7, 0), (8, 0), (9, 0)] | _ => none, [], false⟩
noncomputable def impl_statesOk.x0 (k : Nat) (x0 : List Int) (x1 : Int) (x7 : List Int) (x8 : Int) (x9 : Int) : Option Res := R.exec Try.prog xhn impl_statesOk.O 0 Try.f101 impl_statesOk.fh k (R.point Try.f101 2) ⟨[(0, .imm (.I .i64 x0)), (1, .int .i64 x1), (7, .imm (.I .i64 x7)), (8, .int .i64 x8), (9, .int .i64 x9)], [], 2⟩
set_option maxRecDepth 100000 in
theorem impl_statesOk.e0 (k : Nat) (x0 : List Int) (x1 : Int) (x7 : List Int) (x8 : Int) (x9 : Int) : impl_statesOk.x0 (k + 1) x0 x1 x7 x8 x9 = (if x9 < x8 then (if 0 ≤ x9 then (if x9 < (x7.length : Int) then (if (rdI x7 x9) < 0 then (some (impl_statesOk.en false)) else (if (rdI x7 x9) ≥ x1 then (some (impl_statesOk.en false)) else (if x9 > 0 then (if 0 ≤ (wr64 (x9 - 1)) then (if (wr64 (x9 - 1)) < (x0.length : Int) then (if (rdI x0 (wr64 (x9 - 1))) ≥ (rdI x7 x9) then (some (impl_statesOk.en false)) else (impl_statesOk.x0 k x0 x1 x7 x8 (wr64 (x9 + 1)))) else none) else none) else (impl_statesOk.x0 k x0 x1 x7 x8 (wr64 (x9 + 1)))))) else none) else none) else (some (impl_statesOk.en true))) := by kernel_rfl
set_option maxRecDepth 100000 in
theorem impl_statesOk.ef (k : Nat) (l0 : List Int) (a1 : Int) : R.start Try.prog xhn impl_statesOk.O 0 Try.f101 impl_statesOk.fh k [.imm (.I .i64 l0), .int .i64 a1] [] = (impl_statesOk.x0 k l0 a1 l0 (l0.length : Int) 0) := by kernel_rfl
theorem impl_statesOk.link : ∀ k, (∀ (x0 : List Int) (x1 : Int) (x7 : List Int) (x8 : Int) (x9 : Int), impl_statesOk.x0 k x0 x1 x7 x8 x9 = (impl_statesOk.l0 k x0 x1 x7 x8 x9).map (impl_statesOk.en))
  | 0 => fun _ _ _ _ _ => by simp only [impl_statesOk.l0, R.map_none]; rfl
  | k + 1 => by
    have ih0 := impl_statesOk.link k
    · intro x0 x1 x7 x8 x9
      rw [impl_statesOk.e0]
      simp only [impl_statesOk.l0, R.map_ite, R.map_bind, R.map_none, R.map_some, R.wr64_eq, ← ih0]
theorem impl_statesOk.sf (k : Nat) (l0 : List Int) (a1 : Int) : R.start Try.prog xhn impl_statesOk.O 0 Try.f101 impl_statesOk.fh k [.imm (.I .i64 l0), .int .i64 a1] [] = (impl_statesOk.f k l0 a1).map (impl_statesOk.en) := by
  have ih0 := impl_statesOk.link k
  rw [impl_statesOk.ef]
  simp only [impl_statesOk.f, R.map_ite, R.map_bind, R.map_none, R.map_some, R.wr64_eq, ← ih0]
theorem impl_statesOk.ok (k : Nat) : impl_statesOk.tw.Ok Try.prog k := by
  intro md hmd a r h
  refine fn_ok (H := xhn) (fh := impl_statesOk.fh) (O := impl_statesOk.O) (k := k) Try.func101 (by kernel_rfl) (by kernel_rfl) (fun j _ => noO_sound) (by kernel_rfl) (m := 0) rfl ?_
  refine (impl_statesOk.sf k a.1 a.2).trans ?_
  exact congrArg (Option.map _) h
def cmp_isNaN_int.f (a0 : Int) : Option (Bool) := (some (!decide (a0 = a0)))
def cmp_isNaN_int.en (r : Bool) : Res := (.lit r, [])
def cmp_isNaN_int.dec : List AV → List R.Obj → Option (Int)
  | [.int .i64 a0], [] => some a0
  | _, _ => none
def cmp_isNaN_int.tw : Tw := ⟨141, Int, Bool, cmp_isNaN_int.dec, fun a => [.int .i64 a], fun a => [], fun k a => cmp_isNaN_int.f a, fun a r => cmp_isNaN_int.en r, true⟩
theorem cmp_isNaN_int.dok : cmp_isNaN_int.tw.DecOk := by
  intro args hc a h
  have h : cmp_isNaN_int.dec args hc = some a := h
  unfold cmp_isNaN_int.dec at h
  split at h
  · cases h; exact ⟨rfl, rfl⟩
  · cases h
noncomputable def cmp_isNaN_int.O (k : Nat) : Oracle := noO
def cmp_isNaN_int.fh : FH := ⟨fun i => match i with | _ => none, [], false⟩
set_option maxRecDepth 100000 in
theorem cmp_isNaN_int.ef (k : Nat) (a0 : Int) : R.start Try.prog xhn cmp_isNaN_int.O 0 Try.f141 cmp_isNaN_int.fh k [.int .i64 a0] [] = (some (cmp_isNaN_int.en (!decide (a0 = a0)))) := by kernel_rfl
theorem cmp_isNaN_int.sf (k : Nat) (a0 : Int) : R.start Try.prog xhn cmp_isNaN_int.O 0 Try.f141 cmp_isNaN_int.fh k [.int .i64 a0] [] = (cmp_isNaN_int.f a0).map (cmp_isNaN_int.en) := by
  rw [cmp_isNaN_int.ef]
  simp only [cmp_isNaN_int.f, R.map_ite, R.map_bind, R.map_none, R.map_some, R.wr64_eq]
theorem cmp_isNaN_int.ok (k : Nat) : cmp_isNaN_int.tw.Ok Try.prog k := by
  intro md hmd a r h
  refine fn_ok (H := xhn) (fh := cmp_isNaN_int.fh) (O := cmp_isNaN_int.O) (k := k) Try.func141 (by kernel_rfl) (by kernel_rfl) (fun j _ => noO_sound) (by kernel_rfl) (m := 0) rfl ?_
  refine (cmp_isNaN_int.sf k a).trans ?_
  exact congrArg (Option.map _) h
def cmp_Compare_int.f (a0 : Int) (a1 : Int) : Option (Int) := ((cmp_isNaN_int.f a0).bind fun t1 => ((cmp_isNaN_int.f a1).bind fun t2 => (if t1 = true then (if t2 = true then (some 0) else (some (-1))) else (if t2 = true then (some 1) else (if a0 < a1 then (some (-1)) else (if a0 > a1 then (some 1) else (some 0)))))))
def cmp_Compare_int.en (r : Int) : Res := (.int .i64 r, [])
def cmp_Compare_int.dec : List AV → List R.Obj → Option (Int × Int)
  | [.int .i64 a0, .int .i64 a1], [] => some (a0, a1)
  | _, _ => none
def cmp_Compare_int.tw : Tw := ⟨125, Int × Int, Int, cmp_Compare_int.dec, fun a => [.int .i64 a.1, .int .i64 a.2], fun a => [], fun k a => cmp_Compare_int.f a.1 a.2, fun a r => cmp_Compare_int.en r, true⟩
theorem cmp_Compare_int.dok : cmp_Compare_int.tw.DecOk := by
  intro args hc a h
  have h : cmp_Compare_int.dec args hc = some a := h
  unfold cmp_Compare_int.dec at h
  split at h
  · cases h; exact ⟨rfl, rfl⟩
  · cases h
noncomputable def cmp_Compare_int.O (k : Nat) : Oracle := (cmp_isNaN_int.tw.orc k noO)
def cmp_Compare_int.fh : FH := ⟨fun i => match i with | _ => none, [], false⟩
set_option maxRecDepth 100000 in
theorem cmp_Compare_int.ef (k : Nat) (a0 : Int) (a1 : Int) : R.start Try.prog xhn cmp_Compare_int.O 0 Try.f125 cmp_Compare_int.fh k [.int .i64 a0, .int .i64 a1] [] = ((cmp_isNaN_int.f a0).bind fun t1 => ((cmp_isNaN_int.f a1).bind fun t2 => (if t1 = true then (if t2 = true then (some (cmp_Compare_int.en 0)) else (some (cmp_Compare_int.en (-1)))) else (if t2 = true then (some (cmp_Compare_int.en 1)) else (if a0 < a1 then (some (cmp_Compare_int.en (-1))) else (if a0 > a1 then (some (cmp_Compare_int.en 1)) else (some (cmp_Compare_int.en 0)))))))) := by kernel_rfl
theorem cmp_Compare_int.sf (k : Nat) (a0 : Int) (a1 : Int) : R.start Try.prog xhn cmp_Compare_int.O 0 Try.f125 cmp_Compare_int.fh k [.int .i64 a0, .int .i64 a1] [] = (cmp_Compare_int.f a0 a1).map (cmp_Compare_int.en) := by
  rw [cmp_Compare_int.ef]
  simp only [cmp_Compare_int.f, R.map_ite, R.map_bind, R.map_none, R.map_some, R.wr64_eq]
theorem cmp_Compare_int.ok (k : Nat) : cmp_Compare_int.tw.Ok Try.prog k := by
  intro md hmd a r h
  refine fn_ok (H := xhn) (fh := cmp_Compare_int.fh) (O := cmp_Compare_int.O) (k := k) Try.func125 (by kernel_rfl) (by kernel_rfl) (fun j _ => (Tw.orc_sound cmp_isNaN_int.dok (cmp_isNaN_int.ok j) (fun _ => rfl) noO_sound)) (by kernel_rfl) (m := 0) rfl ?_
  refine (cmp_Compare_int.sf k a.1 a.2).trans ?_
  exact congrArg (Option.map _) h
def bytealg_CompareString.f (a0 a1 : ByteArray) : Option Int := some (Lib.compareBytes a0.data.toList a1.data.toList)
def bytealg_CompareString.dec : List AV → List R.Obj → Option (ByteArray × ByteArray)
  | [.str a0, .str a1], [] => some (a0, a1)
  | _, _ => none
def bytealg_CompareString.tw : Tw := ⟨142, ByteArray × ByteArray, Int, bytealg_CompareString.dec, fun a => [.str a.1, .str a.2], fun a => [], fun k a => bytealg_CompareString.f a.1 a.2, fun a r => (.int .i64 r, []), true⟩
theorem bytealg_CompareString.dok : bytealg_CompareString.tw.DecOk := by
  intro args hc a h
  have h : bytealg_CompareString.dec args hc = some a := h
  unfold bytealg_CompareString.dec at h
  split at h
  · cases h; exact ⟨rfl, rfl⟩
  · cases h
set_option maxRecDepth 100000 in
set_option maxHeartbeats 8000000 in
theorem bytealg_CompareString.calls (a0 a1 : ByteArray) (w : World) : Calls Try.prog 142 #[.string a0, .string a1] w fun e w' => e = .returned (.int .i64 (Lib.compareBytes a0.data.toList a1.data.toList)) ∧ w' = w := by
  go_enter Try.func142, Try.ntmps142
  go_wp2
  rw [run_callFunc_extern Try.func168 (by kernel_rfl) (by kernel_rfl) (by kernel_rfl) (e := Extern.BytealgCompare.compare) (by kernel_rfl), Lib.run_compareString]
  simp only [Result.andThen]
  rw [Oper.upon_value]
  go_wp2
  go_ret
  exact ⟨rfl, rfl⟩
theorem bytealg_CompareString.ok (k : Nat) : bytealg_CompareString.tw.Ok Try.prog k := by
  intro md hmd a r h
  obtain rfl := Option.some.inj (show some _ = some r from h)
  refine ⟨callable_of Try.func142 (by kernel_rfl) (by kernel_rfl), fun w M I vs E => ?_⟩
  have e : vs = #[.string a.1, .string a.2] := two_of E.len (fun q => (E.args 0 _ _ rfl q).str_inv) (fun q => (E.args 1 _ _ rfl q).str_inv)
  subst e
  refine (bytealg_CompareString.calls a.1 a.2 w).mono fun e w' => ?_
  rintro ⟨rfl, rfl⟩
  exact ⟨_, M, rfl, (E.rel md).weaken (fun κ q => q.elim), .closed (.int _ _)⟩
def strings_Compare.f (a0 : ByteArray) (a1 : ByteArray) : Option (Int) := ((bytealg_CompareString.f a0 a1).bind fun t1 => (some t1))
def strings_Compare.en (r : Int) : Res := (.int .i64 r, [])
def strings_Compare.dec : List AV → List R.Obj → Option (ByteArray × ByteArray)
  | [.str a0, .str a1], [] => some (a0, a1)
  | _, _ => none
def strings_Compare.tw : Tw := ⟨126, ByteArray × ByteArray, Int, strings_Compare.dec, fun a => [.str a.1, .str a.2], fun a => [], fun k a => strings_Compare.f a.1 a.2, fun a r => strings_Compare.en r, true⟩
theorem strings_Compare.dok : strings_Compare.tw.DecOk := by
  intro args hc a h
  have h : strings_Compare.dec args hc = some a := h
  unfold strings_Compare.dec at h
  split at h
  · cases h; exact ⟨rfl, rfl⟩
  · cases h
noncomputable def strings_Compare.O (k : Nat) : Oracle := (bytealg_CompareString.tw.orc k noO)
def strings_Compare.fh : FH := ⟨fun i => match i with | _ => none, [], false⟩
set_option maxRecDepth 100000 in
theorem strings_Compare.ef (k : Nat) (a0 : ByteArray) (a1 : ByteArray) : R.start Try.prog xhn strings_Compare.O 0 Try.f126 strings_Compare.fh k [.str a0, .str a1] [] = ((bytealg_CompareString.f a0 a1).bind fun t1 => (some (strings_Compare.en t1))) := by kernel_rfl
theorem strings_Compare.sf (k : Nat) (a0 : ByteArray) (a1 : ByteArray) : R.start Try.prog xhn strings_Compare.O 0 Try.f126 strings_Compare.fh k [.str a0, .str a1] [] = (strings_Compare.f a0 a1).map (strings_Compare.en) := by
  rw [strings_Compare.ef]
  simp only [strings_Compare.f, R.map_ite, R.map_bind, R.map_none, R.map_some, R.wr64_eq]
theorem strings_Compare.ok (k : Nat) : strings_Compare.tw.Ok Try.prog k := by
  intro md hmd a r h
  refine fn_ok (H := xhn) (fh := strings_Compare.fh) (O := strings_Compare.O) (k := k) Try.func126 (by kernel_rfl) (by kernel_rfl) (fun j _ => (Tw.orc_sound bytealg_CompareString.dok (bytealg_CompareString.ok j) (fun _ => rfl) noO_sound)) (by kernel_rfl) (m := 0) rfl ?_
  refine (strings_Compare.sf k a.1 a.2).trans ?_
  exact congrArg (Option.map _) h
def cmp_Or_int.l0 : Nat → (List Int) → Int → Int → Option (Int)
  | 0, _, _, _ => none
  | k + 1, x6, x7, x8 => (if x8 < x7 then (if 0 ≤ x8 then (if x8 < (x6.length : Int) then (if (rdI x6 x8) = 0 then (cmp_Or_int.l0 k x6 x7 (wrap64 (x8 + 1))) else (some (rdI x6 x8))) else none) else none) else (some 0))
def cmp_Or_int.f (k : Nat) (l0 : List Int) : Option (Int) := (cmp_Or_int.l0 k l0 (l0.length : Int) 0)
def cmp_Or_int.en (r : Int) : Res := (.int .i64 r, [])
def cmp_Or_int.dec : List AV → List R.Obj → Option (List Int)
  | [.imm (.I .i64 l0)], [] => some l0
  | _, _ => none
def cmp_Or_int.tw : Tw := ⟨124, List Int, Int, cmp_Or_int.dec, fun a => [.imm (.I .i64 a)], fun a => [], fun k a => cmp_Or_int.f k a, fun a r => cmp_Or_int.en r, true⟩
theorem cmp_Or_int.dok : cmp_Or_int.tw.DecOk := by
  intro args hc a h
  have h : cmp_Or_int.dec args hc = some a := h
  unfold cmp_Or_int.dec at h
  split at h
  · cases h; exact ⟨rfl, rfl⟩
  · cases h
noncomputable def cmp_Or_int.O (k : Nat) : Oracle := noO
def cmp_Or_int.fh : FH := ⟨fun i => match i with | 3 => some [(3, 0), (6, 0), (7, 0), (8, 0)] | _ => none, [], false⟩
noncomputable def cmp_Or_int.x0 (k : Nat) (x6 : List Int) (x7 : Int) (x8 : Int) : Option Res := R.exec Try.prog xhn cmp_Or_int.O 0 Try.f124 cmp_Or_int.fh k (R.point Try.f124 3) ⟨[(3, .int .i64 0), (6, .imm (.I .i64 x6)), (7, .int .i64 x7), (8, .int .i64 x8)], [], 2⟩
set_option maxRecDepth 100000 in
theorem cmp_Or_int.e0 (k : Nat) (x6 : List Int) (x7 : Int) (x8 : Int) : cmp_Or_int.x0 (k + 1) x6 x7 x8 = (if x8 < x7 then (if 0 ≤ x8 then (if x8 < (x6.length : Int) then (if (rdI x6 x8) = 0 then (cmp_Or_int.x0 k x6 x7 (wr64 (x8 + 1))) else (some (cmp_Or_int.en (rdI x6 x8)))) else none) else none) else (some (cmp_Or_int.en 0))) := by kernel_rfl
set_option maxRecDepth 100000 in
theorem cmp_Or_int.ef (k : Nat) (l0 : List Int) : R.start Try.prog xhn cmp_Or_int.O 0 Try.f124 cmp_Or_int.fh k [.imm (.I .i64 l0)] [] = (cmp_Or_int.x0 k l0 (l0.length : Int) 0) := by kernel_rfl
theorem cmp_Or_int.link : ∀ k, (∀ (x6 : List Int) (x7 : Int) (x8 : Int), cmp_Or_int.x0 k x6 x7 x8 = (cmp_Or_int.l0 k x6 x7 x8).map (cmp_Or_int.en))
  | 0 => fun _ _ _ => by simp only [cmp_Or_int.l0, R.map_none]; rfl
  | k + 1 => by
    have ih0 := cmp_Or_int.link k
    · intro x6 x7 x8
      rw [cmp_Or_int.e0]
      simp only [cmp_Or_int.l0, R.map_ite, R.map_bind, R.map_none, R.map_some, R.wr64_eq, ← ih0]
theorem cmp_Or_int.sf (k : Nat) (l0 : List Int) : R.start Try.prog xhn cmp_Or_int.O 0 Try.f124 cmp_Or_int.fh k [.imm (.I .i64 l0)] [] = (cmp_Or_int.f k l0).map (cmp_Or_int.en) := by
  have ih0 := cmp_Or_int.link k
  rw [cmp_Or_int.ef]
  simp only [cmp_Or_int.f, R.map_ite, R.map_bind, R.map_none, R.map_some, R.wr64_eq, ← ih0]
theorem cmp_Or_int.ok (k : Nat) : cmp_Or_int.tw.Ok Try.prog k := by
  intro md hmd a r h
  refine fn_ok (H := xhn) (fh := cmp_Or_int.fh) (O := cmp_Or_int.O) (k := k) Try.func124 (by kernel_rfl) (by kernel_rfl) (fun j _ => noO_sound) (by kernel_rfl) (m := 0) rfl ?_
  refine (cmp_Or_int.sf k a).trans ?_
  exact congrArg (Option.map _) h
def impl_stepOrder.f (k : Nat) (a0_0 : Int) (a0_1 : ByteArray) (a0_2 : Int) (a0_3 : Int) (a1_0 : Int) (a1_1 : ByteArray) (a1_2 : Int) (a1_3 : Int) : Option (Int) := ((cmp_Compare_int.f a0_0 a1_0).bind fun t1 => ((strings_Compare.f a0_1 a1_1).bind fun t2 => ((cmp_Compare_int.f a0_2 a1_2).bind fun t3 => ((cmp_Or_int.f k ([t1, t2, t3])).bind fun t4 => (some t4)))))
def impl_stepOrder.en (r : Int) : Res := (.int .i64 r, [])
def impl_stepOrder.dec : List AV → List R.Obj → Option (Int × ByteArray × Int × Int × Int × ByteArray × Int × Int)
  | [.agg [.int .i64 a0_0, .str a0_1, .int .i64 a0_2, .int .i64 a0_3], .agg [.int .i64 a1_0, .str a1_1, .int .i64 a1_2, .int .i64 a1_3]], [] => some (a0_0, a0_1, a0_2, a0_3, a1_0, a1_1, a1_2, a1_3)
  | _, _ => none
def impl_stepOrder.tw : Tw := ⟨88, Int × ByteArray × Int × Int × Int × ByteArray × Int × Int, Int, impl_stepOrder.dec, fun a => [.agg [.int .i64 a.1, .str a.2.1, .int .i64 a.2.2.1, .int .i64 a.2.2.2.1], .agg [.int .i64 a.2.2.2.2.1, .str a.2.2.2.2.2.1, .int .i64 a.2.2.2.2.2.2.1, .int .i64 a.2.2.2.2.2.2.2]], fun a => [], fun k a => impl_stepOrder.f k a.1 a.2.1 a.2.2.1 a.2.2.2.1 a.2.2.2.2.1 a.2.2.2.2.2.1 a.2.2.2.2.2.2.1 a.2.2.2.2.2.2.2, fun a r => impl_stepOrder.en r, true⟩
theorem impl_stepOrder.dok : impl_stepOrder.tw.DecOk := by
  intro args hc a h
  have h : impl_stepOrder.dec args hc = some a := h
  unfold impl_stepOrder.dec at h
  split at h
  · cases h; exact ⟨rfl, rfl⟩
  · cases h
noncomputable def impl_stepOrder.O (k : Nat) : Oracle := (cmp_Compare_int.tw.orc k (strings_Compare.tw.orc k (cmp_Or_int.tw.orc k noO)))
def impl_stepOrder.fh : FH := ⟨fun i => match i with | _ => none, [], false⟩
set_option maxRecDepth 100000 in
theorem impl_stepOrder.ef (k : Nat) (a0_0 : Int) (a0_1 : ByteArray) (a0_2 : Int) (a0_3 : Int) (a1_0 : Int) (a1_1 : ByteArray) (a1_2 : Int) (a1_3 : Int) : R.start Try.prog xhn impl_stepOrder.O 0 Try.f88 impl_stepOrder.fh k [.agg [.int .i64 a0_0, .str a0_1, .int .i64 a0_2, .int .i64 a0_3], .agg [.int .i64 a1_0, .str a1_1, .int .i64 a1_2, .int .i64 a1_3]] [] = ((cmp_Compare_int.f a0_0 a1_0).bind fun t1 => ((strings_Compare.f a0_1 a1_1).bind fun t2 => ((cmp_Compare_int.f a0_2 a1_2).bind fun t3 => ((cmp_Or_int.f k ([t1, t2, t3])).bind fun t4 => (some (impl_stepOrder.en t4)))))) := by kernel_rfl
theorem impl_stepOrder.sf (k : Nat) (a0_0 : Int) (a0_1 : ByteArray) (a0_2 : Int) (a0_3 : Int) (a1_0 : Int) (a1_1 : ByteArray) (a1_2 : Int) (a1_3 : Int) : R.start Try.prog xhn impl_stepOrder.O 0 Try.f88 impl_stepOrder.fh k [.agg [.int .i64 a0_0, .str a0_1, .int .i64 a0_2, .int .i64 a0_3], .agg [.int .i64 a1_0, .str a1_1, .int .i64 a1_2, .int .i64 a1_3]] [] = (impl_stepOrder.f k a0_0 a0_1 a0_2 a0_3 a1_0 a1_1 a1_2 a1_3).map (impl_stepOrder.en) := by
  rw [impl_stepOrder.ef]
  simp only [impl_stepOrder.f, R.map_ite, R.map_bind, R.map_none, R.map_some, R.wr64_eq]
theorem impl_stepOrder.ok (k : Nat) : impl_stepOrder.tw.Ok Try.prog k := by
  intro md hmd a r h
  refine fn_ok (H := xhn) (fh := impl_stepOrder.fh) (O := impl_stepOrder.O) (k := k) Try.func88 (by kernel_rfl) (by kernel_rfl) (fun j _ => (Tw.orc_sound cmp_Compare_int.dok (cmp_Compare_int.ok j) (fun _ => rfl) (Tw.orc_sound strings_Compare.dok (strings_Compare.ok j) (fun _ => rfl) (Tw.orc_sound cmp_Or_int.dok (cmp_Or_int.ok j) (fun _ => rfl) noO_sound)))) (by kernel_rfl) (m := 0) rfl ?_
  refine (impl_stepOrder.sf k a.1 a.2.1 a.2.2.1 a.2.2.2.1 a.2.2.2.2.1 a.2.2.2.2.2.1 a.2.2.2.2.2.2.1 a.2.2.2.2.2.2.2).trans ?_
  exact congrArg (Option.map _) h
def impl_AutomatonValid.l0 : Nat → (List Stp) → Int → Int → Int → (List Int) → (List Int) → (List Stp) → Option (Bool)
  | 0, _, _, _, _, _, _, _ => none
  | k + 1, x36, x37, x38, y0_0, y0_1, y0_2, y0_3 => (if x38 < x37 then (if 0 ≤ x38 then (if x38 < (x36.length : Int) then (if (rdT x36 x38).f0 < 0 then (some false) else (if (rdT x36 x38).f0 ≥ y0_0 then (some false) else (if (rdT x36 x38).f2 < 0 then (some false) else (if (rdT x36 x38).f2 ≥ y0_0 then (some false) else (if (rdT x36 x38).f1.toList = ([97] : List UInt8) then (if (rdT x36 x38).f3 < 0 then (some false) else (if (rdT x36 x38).f3 > 3 then (some false) else (if x38 > 0 then (if 0 ≤ (wrap64 (x38 - 1)) then (if (wrap64 (x38 - 1)) < (y0_3.length : Int) then ((impl_stepOrder.f k ((rdT y0_3 (wrap64 (x38 - 1))).f0) ((rdT y0_3 (wrap64 (x38 - 1))).f1) ((rdT y0_3 (wrap64 (x38 - 1))).f2) ((rdT y0_3 (wrap64 (x38 - 1))).f3) ((rdT x36 x38).f0) ((rdT x36 x38).f1) ((rdT x36 x38).f2) ((rdT x36 x38).f3)).bind fun t3 => (if t3 ≥ 0 then (some false) else (impl_AutomatonValid.l0 k x36 x37 (wrap64 (x38 + 1)) y0_0 y0_1 y0_2 y0_3))) else none) else none) else (impl_AutomatonValid.l0 k x36 x37 (wrap64 (x38 + 1)) y0_0 y0_1 y0_2 y0_3)))) else (if (rdT x36 x38).f1.toList = ([98] : List UInt8) then (if (rdT x36 x38).f3 < 0 then (some false) else (if (rdT x36 x38).f3 > 3 then (some false) else (if x38 > 0 then (if 0 ≤ (wrap64 (x38 - 1)) then (if (wrap64 (x38 - 1)) < (y0_3.length : Int) then ((impl_stepOrder.f k ((rdT y0_3 (wrap64 (x38 - 1))).f0) ((rdT y0_3 (wrap64 (x38 - 1))).f1) ((rdT y0_3 (wrap64 (x38 - 1))).f2) ((rdT y0_3 (wrap64 (x38 - 1))).f3) ((rdT x36 x38).f0) ((rdT x36 x38).f1) ((rdT x36 x38).f2) ((rdT x36 x38).f3)).bind fun t4 => (if t4 ≥ 0 then (some false) else (impl_AutomatonValid.l0 k x36 x37 (wrap64 (x38 + 1)) y0_0 y0_1 y0_2 y0_3))) else none) else none) else (impl_AutomatonValid.l0 k x36 x37 (wrap64 (x38 + 1)) y0_0 y0_1 y0_2 y0_3)))) else (some false))))))) else none) else none) else (some true))
def impl_AutomatonValid.f (k : Nat) (a0_0 : Int) (l0_1 : List Int) (l0_2 : List Int) (l0_3 : List Stp) : Option (Bool) := (if a0_0 < 1 then (some false) else (if a0_0 > 4 then (some false) else (if (l0_3.length : Int) > 24 then (some false) else ((impl_statesOk.f k l0_1 a0_0).bind fun t1 => (if t1 = true then ((impl_statesOk.f k l0_2 a0_0).bind fun t2 => (if t2 = true then (impl_AutomatonValid.l0 k l0_3 (l0_3.length : Int) 0 a0_0 l0_1 l0_2 l0_3) else (some false))) else (some false))))))
def impl_AutomatonValid.en (r : Bool) : Res := (.lit r, [])
def impl_AutomatonValid.dec : List AV → List R.Obj → Option (Int × (List Int) × (List Int) × (List Stp))
  | [.agg [.int .i64 a0_0, .imm (.I .i64 l0_1), .imm (.I .i64 l0_2), .imm (.T l0_3)]], [] => some (a0_0, l0_1, l0_2, l0_3)
  | _, _ => none
def impl_AutomatonValid.tw : Tw := ⟨42, Int × (List Int) × (List Int) × (List Stp), Bool, impl_AutomatonValid.dec, fun a => [.agg [.int .i64 a.1, .imm (.I .i64 a.2.1), .imm (.I .i64 a.2.2.1), .imm (.T a.2.2.2)]], fun a => [], fun k a => impl_AutomatonValid.f k a.1 a.2.1 a.2.2.1 a.2.2.2, fun a r => impl_AutomatonValid.en r, true⟩
theorem impl_AutomatonValid.dok : impl_AutomatonValid.tw.DecOk := by
  intro args hc a h
  have h : impl_AutomatonValid.dec args hc = some a := h
  unfold impl_AutomatonValid.dec at h
  split at h
  · cases h; exact ⟨rfl, rfl⟩
  · cases h
noncomputable def impl_AutomatonValid.O (k : Nat) : Oracle := (impl_statesOk.tw.orc k (impl_stepOrder.tw.orc k noO))
def impl_AutomatonValid.fh : FH := ⟨fun i => match i with | 4 => some [(1, 0), (36, 0), (37, 0), (38, 0)] | _ => none, [], false⟩
noncomputable def impl_AutomatonValid.x0 (k : Nat) (x36 : List Stp) (x37 : Int) (x38 : Int) (y0_0 : Int) (y0_1 : List Int) (y0_2 : List Int) (y0_3 : List Stp) : Option Res := R.exec Try.prog xhn impl_AutomatonValid.O 0 Try.f42 impl_AutomatonValid.fh k (R.point Try.f42 4) ⟨[(1, .ptr 0 0), (36, .imm (.T x36)), (37, .int .i64 x37), (38, .int .i64 x38)], [(0, .box false [.int .i64 y0_0, .imm (.I .i64 y0_1), .imm (.I .i64 y0_2), .imm (.T y0_3)])], 3⟩
set_option maxRecDepth 100000 in
theorem impl_AutomatonValid.e0 (k : Nat) (x36 : List Stp) (x37 : Int) (x38 : Int) (y0_0 : Int) (y0_1 : List Int) (y0_2 : List Int) (y0_3 : List Stp) : impl_AutomatonValid.x0 (k + 1) x36 x37 x38 y0_0 y0_1 y0_2 y0_3 = (if x38 < x37 then (if 0 ≤ x38 then (if x38 < (x36.length : Int) then (if (rdT x36 x38).f0 < 0 then (some (impl_AutomatonValid.en false)) else (if (rdT x36 x38).f0 ≥ y0_0 then (some (impl_AutomatonValid.en false)) else (if (rdT x36 x38).f2 < 0 then (some (impl_AutomatonValid.en false)) else (if (rdT x36 x38).f2 ≥ y0_0 then (some (impl_AutomatonValid.en false)) else (if (rdT x36 x38).f1.toList = ([97] : List UInt8) then (if (rdT x36 x38).f3 < 0 then (some (impl_AutomatonValid.en false)) else (if (rdT x36 x38).f3 > 3 then (some (impl_AutomatonValid.en false)) else (if x38 > 0 then (if 0 ≤ (wr64 (x38 - 1)) then (if (wr64 (x38 - 1)) < (y0_3.length : Int) then ((impl_stepOrder.f k ((rdT y0_3 (wr64 (x38 - 1))).f0) ((rdT y0_3 (wr64 (x38 - 1))).f1) ((rdT y0_3 (wr64 (x38 - 1))).f2) ((rdT y0_3 (wr64 (x38 - 1))).f3) ((rdT x36 x38).f0) ((rdT x36 x38).f1) ((rdT x36 x38).f2) ((rdT x36 x38).f3)).bind fun t3 => (if t3 ≥ 0 then (some (impl_AutomatonValid.en false)) else (impl_AutomatonValid.x0 k x36 x37 (wr64 (x38 + 1)) y0_0 y0_1 y0_2 y0_3))) else none) else none) else (impl_AutomatonValid.x0 k x36 x37 (wr64 (x38 + 1)) y0_0 y0_1 y0_2 y0_3)))) else (if (rdT x36 x38).f1.toList = ([98] : List UInt8) then (if (rdT x36 x38).f3 < 0 then (some (impl_AutomatonValid.en false)) else (if (rdT x36 x38).f3 > 3 then (some (impl_AutomatonValid.en false)) else (if x38 > 0 then (if 0 ≤ (wr64 (x38 - 1)) then (if (wr64 (x38 - 1)) < (y0_3.length : Int) then ((impl_stepOrder.f k ((rdT y0_3 (wr64 (x38 - 1))).f0) ((rdT y0_3 (wr64 (x38 - 1))).f1) ((rdT y0_3 (wr64 (x38 - 1))).f2) ((rdT y0_3 (wr64 (x38 - 1))).f3) ((rdT x36 x38).f0) ((rdT x36 x38).f1) ((rdT x36 x38).f2) ((rdT x36 x38).f3)).bind fun t4 => (if t4 ≥ 0 then (some (impl_AutomatonValid.en false)) else (impl_AutomatonValid.x0 k x36 x37 (wr64 (x38 + 1)) y0_0 y0_1 y0_2 y0_3))) else none) else none) else (impl_AutomatonValid.x0 k x36 x37 (wr64 (x38 + 1)) y0_0 y0_1 y0_2 y0_3)))) else (some (impl_AutomatonValid.en false)))))))) else none) else none) else (some (impl_AutomatonValid.en true))) := by kernel_rfl
set_option maxRecDepth 100000 in
theorem impl_AutomatonValid.ef (k : Nat) (a0_0 : Int) (l0_1 : List Int) (l0_2 : List Int) (l0_3 : List Stp) : R.start Try.prog xhn impl_AutomatonValid.O 0 Try.f42 impl_AutomatonValid.fh k [.agg [.int .i64 a0_0, .imm (.I .i64 l0_1), .imm (.I .i64 l0_2), .imm (.T l0_3)]] [] = (if a0_0 < 1 then (some (impl_AutomatonValid.en false)) else (if a0_0 > 4 then (some (impl_AutomatonValid.en false)) else (if (l0_3.length : Int) > 24 then (some (impl_AutomatonValid.en false)) else ((impl_statesOk.f k l0_1 a0_0).bind fun t1 => (if t1 = true then ((impl_statesOk.f k l0_2 a0_0).bind fun t2 => (if t2 = true then (impl_AutomatonValid.x0 k l0_3 (l0_3.length : Int) 0 a0_0 l0_1 l0_2 l0_3) else (some (impl_AutomatonValid.en false)))) else (some (impl_AutomatonValid.en false))))))) := by kernel_rfl
theorem impl_AutomatonValid.link : ∀ k, (∀ (x36 : List Stp) (x37 : Int) (x38 : Int) (y0_0 : Int) (y0_1 : List Int) (y0_2 : List Int) (y0_3 : List Stp), impl_AutomatonValid.x0 k x36 x37 x38 y0_0 y0_1 y0_2 y0_3 = (impl_AutomatonValid.l0 k x36 x37 x38 y0_0 y0_1 y0_2 y0_3).map (impl_AutomatonValid.en))
  | 0 => fun _ _ _ _ _ _ _ => by simp only [impl_AutomatonValid.l0, R.map_none]; rfl
  | k + 1 => by
    have ih0 := impl_AutomatonValid.link k
    · intro x36 x37 x38 y0_0 y0_1 y0_2 y0_3
      rw [impl_AutomatonValid.e0]
      simp only [impl_AutomatonValid.l0, R.map_ite, R.map_bind, R.map_none, R.map_some, R.wr64_eq, ← ih0]
theorem impl_AutomatonValid.sf (k : Nat) (a0_0 : Int) (l0_1 : List Int) (l0_2 : List Int) (l0_3 : List Stp) : R.start Try.prog xhn impl_AutomatonValid.O 0 Try.f42 impl_AutomatonValid.fh k [.agg [.int .i64 a0_0, .imm (.I .i64 l0_1), .imm (.I .i64 l0_2), .imm (.T l0_3)]] [] = (impl_AutomatonValid.f k a0_0 l0_1 l0_2 l0_3).map (impl_AutomatonValid.en) := by
  have ih0 := impl_AutomatonValid.link k
  rw [impl_AutomatonValid.ef]
  simp only [impl_AutomatonValid.f, R.map_ite, R.map_bind, R.map_none, R.map_some, R.wr64_eq, ← ih0]
theorem impl_AutomatonValid.ok (k : Nat) : impl_AutomatonValid.tw.Ok Try.prog k := by
  intro md hmd a r h
  refine fn_ok (H := xhn) (fh := impl_AutomatonValid.fh) (O := impl_AutomatonValid.O) (k := k) Try.func42 (by kernel_rfl) (by kernel_rfl) (fun j _ => (Tw.orc_sound impl_statesOk.dok (impl_statesOk.ok j) (fun _ => rfl) (Tw.orc_sound impl_stepOrder.dok (impl_stepOrder.ok j) (fun _ => rfl) noO_sound))) (by kernel_rfl) (m := 0) rfl ?_
  refine (impl_AutomatonValid.sf k a.1 a.2.1 a.2.2.1 a.2.2.2).trans ?_
  exact congrArg (Option.map _) h
def impl_ReverseAutomaton_1.f (a0_0 : Int) (a0_1 : ByteArray) (a0_2 : Int) (a0_3 : Int) : Option (Int × ByteArray × Int × Int) := (some (a0_2, a0_1, a0_0, a0_3))
def impl_ReverseAutomaton_1.en (r : Int × ByteArray × Int × Int) : Res := (.agg [.int .i64 r.1, .str r.2.1, .int .i64 r.2.2.1, .int .i64 r.2.2.2], [])
def impl_ReverseAutomaton_1.dec : List AV → List R.Obj → Option (Int × ByteArray × Int × Int)
  | [.agg [.int .i64 a0_0, .str a0_1, .int .i64 a0_2, .int .i64 a0_3]], [] => some (a0_0, a0_1, a0_2, a0_3)
  | _, _ => none
def impl_ReverseAutomaton_1.tw : Tw := ⟨131, Int × ByteArray × Int × Int, Int × ByteArray × Int × Int, impl_ReverseAutomaton_1.dec, fun a => [.agg [.int .i64 a.1, .str a.2.1, .int .i64 a.2.2.1, .int .i64 a.2.2.2]], fun a => [], fun k a => impl_ReverseAutomaton_1.f a.1 a.2.1 a.2.2.1 a.2.2.2, fun a r => impl_ReverseAutomaton_1.en r, true⟩
theorem impl_ReverseAutomaton_1.dok : impl_ReverseAutomaton_1.tw.DecOk := by
  intro args hc a h
  have h : impl_ReverseAutomaton_1.dec args hc = some a := h
  unfold impl_ReverseAutomaton_1.dec at h
  split at h
  · cases h; exact ⟨rfl, rfl⟩
  · cases h
noncomputable def impl_ReverseAutomaton_1.O (k : Nat) : Oracle := noO
def impl_ReverseAutomaton_1.fh : FH := ⟨fun i => match i with | _ => none, [], false⟩
set_option maxRecDepth 100000 in
theorem impl_ReverseAutomaton_1.ef (k : Nat) (a0_0 : Int) (a0_1 : ByteArray) (a0_2 : Int) (a0_3 : Int) : R.start Try.prog xhn impl_ReverseAutomaton_1.O 0 Try.f131 impl_ReverseAutomaton_1.fh k [.agg [.int .i64 a0_0, .str a0_1, .int .i64 a0_2, .int .i64 a0_3]] [] = (some (impl_ReverseAutomaton_1.en (a0_2, a0_1, a0_0, a0_3))) := by kernel_rfl
theorem impl_ReverseAutomaton_1.sf (k : Nat) (a0_0 : Int) (a0_1 : ByteArray) (a0_2 : Int) (a0_3 : Int) : R.start Try.prog xhn impl_ReverseAutomaton_1.O 0 Try.f131 impl_ReverseAutomaton_1.fh k [.agg [.int .i64 a0_0, .str a0_1, .int .i64 a0_2, .int .i64 a0_3]] [] = (impl_ReverseAutomaton_1.f a0_0 a0_1 a0_2 a0_3).map (impl_ReverseAutomaton_1.en) := by
  rw [impl_ReverseAutomaton_1.ef]
  simp only [impl_ReverseAutomaton_1.f, R.map_ite, R.map_bind, R.map_none, R.map_some, R.wr64_eq]
theorem impl_ReverseAutomaton_1.ok (k : Nat) : impl_ReverseAutomaton_1.tw.Ok Try.prog k := by
  intro md hmd a r h
  refine fn_ok (H := xhn) (fh := impl_ReverseAutomaton_1.fh) (O := impl_ReverseAutomaton_1.O) (k := k) Try.func131 (by kernel_rfl) (by kernel_rfl) (fun j _ => noO_sound) (by kernel_rfl) (m := 0) rfl ?_
  refine (impl_ReverseAutomaton_1.sf k a.1 a.2.1 a.2.2.1 a.2.2.2).trans ?_
  exact congrArg (Option.map _) h
def impl_stepped.l0 : Nat → (List Stp) → (List Stp) → Int → Int → Option (List Stp)
  | 0, _, _, _, _ => none
  | k + 1, y0, x9, x10, x11 => (if x11 < x10 then (if 0 ≤ x11 then (if x11 < (x9.length : Int) then ((impl_ReverseAutomaton_1.f ((rdT x9 x11).f0) ((rdT x9 x11).f1) ((rdT x9 x11).f2) ((rdT x9 x11).f3)).bind fun t1 => (if y0.length < 3518437208883 then (impl_stepped.l0 k (y0 ++ [(⟨t1.1, t1.2.1, t1.2.2.1, t1.2.2.2⟩ : Stp)]) x9 x10 (wrap64 (x11 + 1))) else none)) else none) else none) else (some y0))
def impl_stepped.f (k : Nat) (l0 : List Stp) : Option (List Stp) := (impl_stepped.l0 k ([] : List Stp) l0 (l0.length : Int) 0)
def impl_stepped.en (r : List Stp) : Res := (.sl 0 0, [.arr 67 0 (.T r) false])
def impl_stepped.dec : List AV → List R.Obj → Option (List Stp)
  | [.imm (.T l0), .clo 131 []], [] => some l0
  | _, _ => none
def impl_stepped.tw : Tw := ⟨64, List Stp, List Stp, impl_stepped.dec, fun a => [.imm (.T a), .clo 131 []], fun a => [], fun k a => impl_stepped.f k a, fun a r => impl_stepped.en r, true⟩
theorem impl_stepped.dok : impl_stepped.tw.DecOk := by
  intro args hc a h
  have h : impl_stepped.dec args hc = some a := h
  unfold impl_stepped.dec at h
  split at h
  · cases h; exact ⟨rfl, rfl⟩
  · cases h
noncomputable def impl_stepped.O (k : Nat) : Oracle := (impl_ReverseAutomaton_1.tw.orc k noO)
def impl_stepped.fh : FH := ⟨fun i => match i with | 3 => some [(1, 0), (5, 0), (9, 0), (10, 0), (11, 0)] | _ => none, [(true, 67)], false⟩
noncomputable def impl_stepped.x0 (k : Nat) (y0 : List Stp) (x9 : List Stp) (x10 : Int) (x11 : Int) : Option Res := R.exec Try.prog xhn impl_stepped.O 0 Try.f64 impl_stepped.fh k (R.point Try.f64 3) ⟨[(1, .clo 131 []), (5, .sl 0 0), (9, .imm (.T x9)), (10, .int .i64 x10), (11, .int .i64 x11)], [(0, .arr 67 0 (.T y0) false)], 3⟩
set_option maxRecDepth 100000 in
theorem impl_stepped.e0 (k : Nat) (y0 : List Stp) (x9 : List Stp) (x10 : Int) (x11 : Int) : impl_stepped.x0 (k + 1) y0 x9 x10 x11 = (if x11 < x10 then (if 0 ≤ x11 then (if x11 < (x9.length : Int) then ((impl_ReverseAutomaton_1.f ((rdT x9 x11).f0) ((rdT x9 x11).f1) ((rdT x9 x11).f2) ((rdT x9 x11).f3)).bind fun t1 => (if y0.length < 3518437208883 then (impl_stepped.x0 k (y0 ++ [(⟨t1.1, t1.2.1, t1.2.2.1, t1.2.2.2⟩ : Stp)]) x9 x10 (wr64 (x11 + 1))) else none)) else none) else none) else (some (impl_stepped.en y0))) := by kernel_rfl
set_option maxRecDepth 100000 in
theorem impl_stepped.ef (k : Nat) (l0 : List Stp) : R.start Try.prog xhn impl_stepped.O 0 Try.f64 impl_stepped.fh k [.imm (.T l0), .clo 131 []] [] = (impl_stepped.x0 k ([] : List Stp) l0 (l0.length : Int) 0) := by kernel_rfl
theorem impl_stepped.link : ∀ k, (∀ (y0 : List Stp) (x9 : List Stp) (x10 : Int) (x11 : Int), impl_stepped.x0 k y0 x9 x10 x11 = (impl_stepped.l0 k y0 x9 x10 x11).map (impl_stepped.en))
  | 0 => fun _ _ _ _ => by simp only [impl_stepped.l0, R.map_none]; rfl
  | k + 1 => by
    have ih0 := impl_stepped.link k
    · intro y0 x9 x10 x11
      rw [impl_stepped.e0]
      simp only [impl_stepped.l0, R.map_ite, R.map_bind, R.map_none, R.map_some, R.wr64_eq, ← ih0]
theorem impl_stepped.sf (k : Nat) (l0 : List Stp) : R.start Try.prog xhn impl_stepped.O 0 Try.f64 impl_stepped.fh k [.imm (.T l0), .clo 131 []] [] = (impl_stepped.f k l0).map (impl_stepped.en) := by
  have ih0 := impl_stepped.link k
  rw [impl_stepped.ef]
  simp only [impl_stepped.f, R.map_ite, R.map_bind, R.map_none, R.map_some, R.wr64_eq, ← ih0]
theorem impl_stepped.ok (k : Nat) : impl_stepped.tw.Ok Try.prog k := by
  intro md hmd a r h
  refine fn_ok (H := xhn) (fh := impl_stepped.fh) (O := impl_stepped.O) (k := k) Try.func64 (by kernel_rfl) (by kernel_rfl) (fun j _ => (Tw.orc_sound impl_ReverseAutomaton_1.dok (impl_ReverseAutomaton_1.ok j) (fun _ => rfl) noO_sound)) (by kernel_rfl) (m := 0) rfl ?_
  refine (impl_stepped.sf k a).trans ?_
  exact congrArg (Option.map _) h
def slices_Clone_int_int.f (l0 : List Int) : Option (List Int) := if l0.length ≤ 1000000000 then some l0 else none
def slices_Clone_int_int.dec : List AV → List R.Obj → Option (List Int)
  | [.imm (.I .i64 l0)], [] => some l0
  | _, _ => none
def slices_Clone_int_int.tw : Tw := ⟨90, List Int, List Int, slices_Clone_int_int.dec, fun a => [.imm (.I .i64 a)], fun a => [], fun k a => slices_Clone_int_int.f a, fun a r => (.sl 0 0, [.arr 3 0 (.I .i64 r) false]), false⟩
theorem slices_Clone_int_int.dok : slices_Clone_int_int.tw.DecOk := by
  intro args hc a h
  have h : slices_Clone_int_int.dec args hc = some a := h
  unfold slices_Clone_int_int.dec at h
  split at h
  · cases h; exact ⟨rfl, rfl⟩
  · cases h
theorem slices_Clone_int_int.ok (k : Nat) : slices_Clone_int_int.tw.Ok Try.prog k := by
  intro md hmd l0 r h
  have h : slices_Clone_int_int.f l0 = some r := h
  unfold slices_Clone_int_int.f at h
  split at h
  case isFalse => cases h
  rename_i hl
  obtain rfl := Option.some.inj h
  obtain ⟨i0, hi⟩ : ∃ i0, Try.prog.info? 3 = some i0 := Option.isSome_iff_exists.1 (by kernel_rfl)
  have h4 : (Try.prog.info? 3).bind (fun i => i.zero.map fun z => (i.size, i.bytes, z.cells.size)) = some (1, 8, 1) := by kernel_rfl
  rw [hi] at h4
  obtain ⟨z, hz0, hzz⟩ := Option.map_eq_some_iff.1 (show i0.zero.map (fun z => (i0.size, i0.bytes, z.cells.size)) = some (1, 8, 1) from h4)
  simp only [Prod.mk.injEq] at hzz
  obtain ⟨hz1, hz2, hzs⟩ := hzz
  refine ⟨callable_of Try.func90 (by kernel_rfl) (by kernel_rfl), fun w M I vs E => ?_⟩
  have hl' : (Ct.I .i64 l0).len ≤ 1000000000 := hl
  refine clone_leaves (c := .I .i64 l0) rfl E (fun b off cap news n1 n2 n3 => ?_) (fun n cap => Go.Proofs.AnyE.slices_Clone_nil Try.layCloneI n cap w) (fun ad cap => R.clone_zero Try.layCloneI i0 z 1 8 hi hz0 hz1 hz2 hzs (by decide) Try.sizeOf3 ad cap w) (fun q => Bool.noConfusion (show false = true from hmd q))
  exact Go.Proofs.AnyE.slices_Clone Try.layCloneI i0 z 1 8 hi hz0 hz1 hz2 hzs (by decide) Try.sizeOf3 b off _ cap news w n1 (by unfold maxLen; omega) (by omega) n2 n3
def slices_Clone_impl_Step_impl_Step.f (l0 : List Stp) : Option (List Stp) := if l0.length ≤ 1000000000 then some l0 else none
def slices_Clone_impl_Step_impl_Step.dec : List AV → List R.Obj → Option (List Stp)
  | [.imm (.T l0)], [] => some l0
  | _, _ => none
def slices_Clone_impl_Step_impl_Step.tw : Tw := ⟨115, List Stp, List Stp, slices_Clone_impl_Step_impl_Step.dec, fun a => [.imm (.T a)], fun a => [], fun k a => slices_Clone_impl_Step_impl_Step.f a, fun a r => (.sl 0 0, [.arr 67 0 (.T r) false]), false⟩
theorem slices_Clone_impl_Step_impl_Step.dok : slices_Clone_impl_Step_impl_Step.tw.DecOk := by
  intro args hc a h
  have h : slices_Clone_impl_Step_impl_Step.dec args hc = some a := h
  unfold slices_Clone_impl_Step_impl_Step.dec at h
  split at h
  · cases h; exact ⟨rfl, rfl⟩
  · cases h
theorem slices_Clone_impl_Step_impl_Step.ok (k : Nat) : slices_Clone_impl_Step_impl_Step.tw.Ok Try.prog k := by
  intro md hmd l0 r h
  have h : slices_Clone_impl_Step_impl_Step.f l0 = some r := h
  unfold slices_Clone_impl_Step_impl_Step.f at h
  split at h
  case isFalse => cases h
  rename_i hl
  obtain rfl := Option.some.inj h
  obtain ⟨i0, hi⟩ : ∃ i0, Try.prog.info? 67 = some i0 := Option.isSome_iff_exists.1 (by kernel_rfl)
  have h4 : (Try.prog.info? 67).bind (fun i => i.zero.map fun z => (i.size, i.bytes, z.cells.size)) = some (4, 40, 4) := by kernel_rfl
  rw [hi] at h4
  obtain ⟨z, hz0, hzz⟩ := Option.map_eq_some_iff.1 (show i0.zero.map (fun z => (i0.size, i0.bytes, z.cells.size)) = some (4, 40, 4) from h4)
  simp only [Prod.mk.injEq] at hzz
  obtain ⟨hz1, hz2, hzs⟩ := hzz
  refine ⟨callable_of Try.func115 (by kernel_rfl) (by kernel_rfl), fun w M I vs E => ?_⟩
  have hl' : (Ct.T l0).len ≤ 1000000000 := hl
  refine clone_leaves (c := .T l0) rfl E (fun b off cap news n1 n2 n3 => ?_) (fun n cap => Go.Proofs.AnyE.slices_Clone_nil Try.layCloneT n cap w) (fun ad cap => R.clone_zero Try.layCloneT i0 z 4 40 hi hz0 hz1 hz2 hzs (by decide) Try.sizeOf67 ad cap w) (fun q => Bool.noConfusion (show false = true from hmd q))
  exact Go.Proofs.AnyE.slices_Clone Try.layCloneT i0 z 4 40 hi hz0 hz1 hz2 hzs (by decide) Try.sizeOf67 b off _ cap news w n1 (by unfold maxLen; omega) (by omega) n2 n3
def slices_Sort_int_int.f (l0 : List Int) : Option (List Int) := if l0.length ≤ 1000000000 then some (R.sortI l0) else none
def slices_Sort_int_int.dec : List AV → List R.Obj → Option (List Int)
  | [.sl 0 0], [.arr 3 0 (.I .i64 l0) false] => some l0
  | _, _ => none
def slices_Sort_int_int.tw : Tw := ⟨116, List Int, List Int, slices_Sort_int_int.dec, fun a => [.sl 0 0], fun a => [.arr 3 0 (.I .i64 a) false], fun k a => slices_Sort_int_int.f a, fun a r => (.tup [], [.arr 3 0 (.I .i64 r) false]), false⟩
theorem slices_Sort_int_int.dok : slices_Sort_int_int.tw.DecOk := by
  intro args hc a h
  have h : slices_Sort_int_int.dec args hc = some a := h
  unfold slices_Sort_int_int.dec at h
  split at h
  · cases h; exact ⟨rfl, rfl⟩
  · cases h
theorem slices_Sort_int_int.ok (k : Nat) : slices_Sort_int_int.tw.Ok Try.prog k := by
  intro md hmd l0 r h
  have h : slices_Sort_int_int.f l0 = some r := h
  unfold slices_Sort_int_int.f at h
  split at h
  case isFalse => cases h
  rename_i hl
  obtain rfl := Option.some.inj h
  refine ⟨callable_of Try.func116 (by kernel_rfl) (by kernel_rfl), fun w M I vs E => ?_⟩
  exact sortI_leaves E (fun blk cap hH hb => Go.Proofs.AnyM.slices_Sort_int Try.laySortI blk 0 cap l0 w hH hb (by omega)) (Go.Proofs.AnyM.slices_Sort_int_none Try.laySortI none 0 w)
def slices_SortFunc_impl_Step_impl_Step.f (l0 : List Stp) : Option (List Stp) := if l0.length ≤ 1000000000 then some (R.sortT l0) else none
def slices_SortFunc_impl_Step_impl_Step.dec : List AV → List R.Obj → Option (List Stp)
  | [.sl 0 0, .clo 88 []], [.arr 67 0 (.T l0) false] => some l0
  | _, _ => none
def slices_SortFunc_impl_Step_impl_Step.tw : Tw := ⟨117, List Stp, List Stp, slices_SortFunc_impl_Step_impl_Step.dec, fun a => [.sl 0 0, .clo 88 []], fun a => [.arr 67 0 (.T a) false], fun k a => slices_SortFunc_impl_Step_impl_Step.f a, fun a r => (.tup [], [.arr 67 0 (.T r) false]), false⟩
theorem slices_SortFunc_impl_Step_impl_Step.dok : slices_SortFunc_impl_Step_impl_Step.tw.DecOk := by
  intro args hc a h
  have h : slices_SortFunc_impl_Step_impl_Step.dec args hc = some a := h
  unfold slices_SortFunc_impl_Step_impl_Step.dec at h
  split at h
  · cases h; exact ⟨rfl, rfl⟩
  · cases h
theorem impl_stepOrder.cmp (x y : Stp) : impl_stepOrder.f 4 x.f0 x.f1 x.f2 x.f3 y.f0 y.f1 y.f2 y.f3 = some (R.ordT x y) := by
  have c1 : ∀ a b : Int, cmp_Compare_int.f a b = some (R.cmpI a b) := fun a b => by
    unfold cmp_Compare_int.f cmp_isNaN_int.f R.cmpI
    simp only [decide_true, Bool.not_true, Option.bind_some, Bool.false_eq_true, if_false]
    by_cases h : a < b
    · rw [if_pos h, if_pos h]
    · rw [if_neg h, if_neg h]; by_cases h2 : a > b
      · rw [if_pos h2, if_pos h2]
      · rw [if_neg h2, if_neg h2]
  have w1 : wrap64 ((0 : Int) + 1) = 1 := by unfold wrap64; decide
  have w2 : wrap64 ((1 : Int) + 1) = 2 := by unfold wrap64; decide
  have w3 : wrap64 ((2 : Int) + 1) = 3 := by unfold wrap64; decide
  have c2 : ∀ a b c : Int, cmp_Or_int.f 4 [a, b, c] = some (if a = 0 then (if b = 0 then c else b) else a) := fun a b c => by
    unfold cmp_Or_int.f
    have r0 : rdI [a, b, c] 0 = a := rfl
    have r1 : rdI [a, b, c] 1 = b := rfl
    have r2 : rdI [a, b, c] 2 = c := rfl
    simp only [cmp_Or_int.l0, List.length_cons, List.length_nil, r0, r1, r2, w1, w2, w3]
    by_cases h0 : a = 0
    · by_cases h1 : b = 0
      · by_cases h2 : c = 0
        · simp [h0, h1, h2, r1, r2, w1, w2, w3]
        · simp [h0, h1, h2, r1, r2, w1, w2, w3]
      · simp [h0, h1, r1, r2, w1, w2, w3]
    · simp [h0]
  unfold impl_stepOrder.f strings_Compare.f bytealg_CompareString.f
  simp only [c1, Option.bind_some, c2]
  rfl
theorem slices_SortFunc_impl_Step_impl_Step.ok (k : Nat) : slices_SortFunc_impl_Step_impl_Step.tw.Ok Try.prog k := by
  intro md hmd l0 r h
  have h : slices_SortFunc_impl_Step_impl_Step.f l0 = some r := h
  unfold slices_SortFunc_impl_Step_impl_Step.f at h
  split at h
  case isFalse => cases h
  rename_i hl
  obtain rfl := Option.some.inj h
  refine ⟨callable_of Try.func117 (by kernel_rfl) (by kernel_rfl), fun w M I vs E => ?_⟩
  have eg : ∀ args w, (callFunc 88 args).run Try.prog w = .ok (.enter 88 args) w := enters_of Try.func88 (by kernel_rfl) rfl
  have hcmp : ∀ x y : Stp, CallSpec true Try.prog 88 [.agg [.int .i64 x.f0, .str x.f1, .int .i64 x.f2, .int .i64 x.f3], .agg [.int .i64 y.f0, .str y.f1, .int .i64 y.f2, .int .i64 y.f3]] [] (.int .i64 (R.ordT x y)) [] := fun x y =>
    impl_stepOrder.ok 4 true (fun _ => rfl) (x.f0, x.f1, x.f2, x.f3, y.f0, y.f1, y.f2, y.f3) (R.ordT x y) (impl_stepOrder.cmp x y)
  refine sortT_leaves E (fun blk cap hH hb => ?_) (Go.Proofs.AnyF.slices_SortFunc_none Try.laySortT none 0 _ w)
  exact Go.Proofs.AnyQ.slices_SortFunc_eq Try.laySortT 4 Try.isAgg67 Try.sizeOf67 R.encT (fun _ => rfl) (fun x v hv => by
    simp only [R.encT, List.mem_cons, List.not_mem_nil, or_false] at hv
    rcases hv with rfl | rfl | rfl | rfl <;> rfl) R.ordT R.swoT 88 #[] blk 0 cap l0.toArray w eg (R.cmpLays_of hcmp blk 0 _ w) hH hb (by have q : l0.length ≤ 1000000000 := hl; show List.length l0 < _; omega)
def impl_made.f (k : Nat) (a0 : Int) (l1 : List Int) (l2 : List Int) (l3 : List Stp) : Option (Int × (List Int) × (List Int) × (List Stp) × Bool) := ((slices_Clone_int_int.f l1).bind fun t1 => ((slices_Clone_int_int.f l2).bind fun t2 => ((slices_Clone_impl_Step_impl_Step.f l3).bind fun t3 => ((slices_Sort_int_int.f t1).bind fun t4 => ((slices_Sort_int_int.f t2).bind fun t5 => ((slices_SortFunc_impl_Step_impl_Step.f t3).bind fun t6 => ((impl_AutomatonValid.f k a0 t4 t5 t6).bind fun t7 => (if t7 = true then (some (a0, t4, t5, t6, true)) else (some (0, ([] : List Int), ([] : List Int), ([] : List Stp), false))))))))))
def impl_made.en (r : Int × (List Int) × (List Int) × (List Stp) × Bool) : Res := (.tup [.agg [.int .i64 r.1, .sl 0 0, .sl 1 0, .sl 2 0], .lit r.2.2.2.2], [.arr 3 0 (.I .i64 r.2.1) false, .arr 3 0 (.I .i64 r.2.2.1) false, .arr 67 0 (.T r.2.2.2.1) false])
def impl_made.dec : List AV → List R.Obj → Option (Int × (List Int) × (List Int) × (List Stp))
  | [.int .i64 a0, .imm (.I .i64 l1), .imm (.I .i64 l2), .imm (.T l3)], [] => some (a0, l1, l2, l3)
  | _, _ => none
def impl_made.tw : Tw := ⟨63, Int × (List Int) × (List Int) × (List Stp), Int × (List Int) × (List Int) × (List Stp) × Bool, impl_made.dec, fun a => [.int .i64 a.1, .imm (.I .i64 a.2.1), .imm (.I .i64 a.2.2.1), .imm (.T a.2.2.2)], fun a => [], fun k a => impl_made.f k a.1 a.2.1 a.2.2.1 a.2.2.2, fun a r => impl_made.en r, false⟩
theorem impl_made.dok : impl_made.tw.DecOk := by
  intro args hc a h
  have h : impl_made.dec args hc = some a := h
  unfold impl_made.dec at h
  split at h
  · cases h; exact ⟨rfl, rfl⟩
  · cases h
noncomputable def impl_made.O (k : Nat) : Oracle := (slices_Clone_int_int.tw.orc k (slices_Clone_impl_Step_impl_Step.tw.orc k (slices_Sort_int_int.tw.orc k (slices_SortFunc_impl_Step_impl_Step.tw.orc k (impl_AutomatonValid.tw.orc k noO)))))
def impl_made.fh : FH := ⟨fun i => match i with | _ => none, [(true, 3), (true, 3), (true, 67)], false⟩
set_option maxRecDepth 100000 in
theorem impl_made.ef (k : Nat) (a0 : Int) (l1 : List Int) (l2 : List Int) (l3 : List Stp) : R.start Try.prog xhn impl_made.O 0 Try.f63 impl_made.fh k [.int .i64 a0, .imm (.I .i64 l1), .imm (.I .i64 l2), .imm (.T l3)] [] = ((slices_Clone_int_int.f l1).bind fun t1 => ((slices_Clone_int_int.f l2).bind fun t2 => ((slices_Clone_impl_Step_impl_Step.f l3).bind fun t3 => ((slices_Sort_int_int.f t1).bind fun t4 => ((slices_Sort_int_int.f t2).bind fun t5 => ((slices_SortFunc_impl_Step_impl_Step.f t3).bind fun t6 => ((impl_AutomatonValid.f k a0 t4 t5 t6).bind fun t7 => (if t7 = true then (some (impl_made.en (a0, t4, t5, t6, true))) else (some (impl_made.en (0, ([] : List Int), ([] : List Int), ([] : List Stp), false))))))))))) := by kernel_rfl
theorem impl_made.sf (k : Nat) (a0 : Int) (l1 : List Int) (l2 : List Int) (l3 : List Stp) : R.start Try.prog xhn impl_made.O 0 Try.f63 impl_made.fh k [.int .i64 a0, .imm (.I .i64 l1), .imm (.I .i64 l2), .imm (.T l3)] [] = (impl_made.f k a0 l1 l2 l3).map (impl_made.en) := by
  rw [impl_made.ef]
  simp only [impl_made.f, R.map_ite, R.map_bind, R.map_none, R.map_some, R.wr64_eq]
theorem impl_made.ok (k : Nat) : impl_made.tw.Ok Try.prog k := by
  intro md hmd a r h
  refine fn_ok (H := xhn) (fh := impl_made.fh) (O := impl_made.O) (k := k) Try.func63 (by kernel_rfl) (by kernel_rfl) (fun j _ => (Tw.orc_sound slices_Clone_int_int.dok (slices_Clone_int_int.ok j) (fun q => Bool.noConfusion (show false = true from hmd q)) (Tw.orc_sound slices_Clone_impl_Step_impl_Step.dok (slices_Clone_impl_Step_impl_Step.ok j) (fun q => Bool.noConfusion (show false = true from hmd q)) (Tw.orc_sound slices_Sort_int_int.dok (slices_Sort_int_int.ok j) (fun q => Bool.noConfusion (show false = true from hmd q)) (Tw.orc_sound slices_SortFunc_impl_Step_impl_Step.dok (slices_SortFunc_impl_Step_impl_Step.ok j) (fun q => Bool.noConfusion (show false = true from hmd q)) (Tw.orc_sound impl_AutomatonValid.dok (impl_AutomatonValid.ok j) (fun _ => rfl) noO_sound)))))) (by kernel_rfl) (m := 0) rfl ?_
  refine (impl_made.sf k a.1 a.2.1 a.2.2.1 a.2.2.2).trans ?_
  exact congrArg (Option.map _) h
def impl_ReverseAutomaton.f (k : Nat) (a0_0 : Int) (l0_1 : List Int) (l0_2 : List Int) (l0_3 : List Stp) : Option (Int × (List Int) × (List Int) × (List Stp) × Bool) := ((impl_AutomatonValid.f k a0_0 l0_1 l0_2 l0_3).bind fun t1 => (if t1 = true then ((impl_stepped.f k l0_3).bind fun t2 => ((impl_made.f k a0_0 l0_2 l0_1 t2).bind fun t3 => (some (t3.1, t3.2.1, t3.2.2.1, t3.2.2.2.1, t3.2.2.2.2)))) else (some (0, ([] : List Int), ([] : List Int), ([] : List Stp), false))))
def impl_ReverseAutomaton.en (r : Int × (List Int) × (List Int) × (List Stp) × Bool) : Res := (.tup [.agg [.int .i64 r.1, .sl 0 0, .sl 1 0, .sl 2 0], .lit r.2.2.2.2], [.arr 3 0 (.I .i64 r.2.1) false, .arr 3 0 (.I .i64 r.2.2.1) false, .arr 67 0 (.T r.2.2.2.1) false])
def impl_ReverseAutomaton.dec : List AV → List R.Obj → Option (Int × (List Int) × (List Int) × (List Stp))
  | [.agg [.int .i64 a0_0, .imm (.I .i64 l0_1), .imm (.I .i64 l0_2), .imm (.T l0_3)]], [] => some (a0_0, l0_1, l0_2, l0_3)
  | _, _ => none
def impl_ReverseAutomaton.tw : Tw := ⟨94, Int × (List Int) × (List Int) × (List Stp), Int × (List Int) × (List Int) × (List Stp) × Bool, impl_ReverseAutomaton.dec, fun a => [.agg [.int .i64 a.1, .imm (.I .i64 a.2.1), .imm (.I .i64 a.2.2.1), .imm (.T a.2.2.2)]], fun a => [], fun k a => impl_ReverseAutomaton.f k a.1 a.2.1 a.2.2.1 a.2.2.2, fun a r => impl_ReverseAutomaton.en r, false⟩
theorem impl_ReverseAutomaton.dok : impl_ReverseAutomaton.tw.DecOk := by
  intro args hc a h
  have h : impl_ReverseAutomaton.dec args hc = some a := h
  unfold impl_ReverseAutomaton.dec at h
  split at h
  · cases h; exact ⟨rfl, rfl⟩
  · cases h
noncomputable def impl_ReverseAutomaton.O (k : Nat) : Oracle := (impl_AutomatonValid.tw.orc k (impl_stepped.tw.orc k (impl_made.tw.orc k noO)))
def impl_ReverseAutomaton.fh : FH := ⟨fun i => match i with | _ => none, [(true, 3), (true, 3), (true, 67)], false⟩
set_option maxRecDepth 100000 in
theorem impl_ReverseAutomaton.ef (k : Nat) (a0_0 : Int) (l0_1 : List Int) (l0_2 : List Int) (l0_3 : List Stp) : R.start Try.prog xhn impl_ReverseAutomaton.O 0 Try.f94 impl_ReverseAutomaton.fh k [.agg [.int .i64 a0_0, .imm (.I .i64 l0_1), .imm (.I .i64 l0_2), .imm (.T l0_3)]] [] = ((impl_AutomatonValid.f k a0_0 l0_1 l0_2 l0_3).bind fun t1 => (if t1 = true then ((impl_stepped.f k l0_3).bind fun t2 => ((impl_made.f k a0_0 l0_2 l0_1 t2).bind fun t3 => (some (impl_ReverseAutomaton.en (t3.1, t3.2.1, t3.2.2.1, t3.2.2.2.1, t3.2.2.2.2))))) else (some (impl_ReverseAutomaton.en (0, ([] : List Int), ([] : List Int), ([] : List Stp), false))))) := by kernel_rfl
theorem impl_ReverseAutomaton.sf (k : Nat) (a0_0 : Int) (l0_1 : List Int) (l0_2 : List Int) (l0_3 : List Stp) : R.start Try.prog xhn impl_ReverseAutomaton.O 0 Try.f94 impl_ReverseAutomaton.fh k [.agg [.int .i64 a0_0, .imm (.I .i64 l0_1), .imm (.I .i64 l0_2), .imm (.T l0_3)]] [] = (impl_ReverseAutomaton.f k a0_0 l0_1 l0_2 l0_3).map (impl_ReverseAutomaton.en) := by
  rw [impl_ReverseAutomaton.ef]
  simp only [impl_ReverseAutomaton.f, R.map_ite, R.map_bind, R.map_none, R.map_some, R.wr64_eq]
theorem impl_ReverseAutomaton.ok (k : Nat) : impl_ReverseAutomaton.tw.Ok Try.prog k := by
  intro md hmd a r h
  refine fn_ok (H := xhn) (fh := impl_ReverseAutomaton.fh) (O := impl_ReverseAutomaton.O) (k := k) Try.func94 (by kernel_rfl) (by kernel_rfl) (fun j _ => (Tw.orc_sound impl_AutomatonValid.dok (impl_AutomatonValid.ok j) (fun _ => rfl) (Tw.orc_sound impl_stepped.dok (impl_stepped.ok j) (fun _ => rfl) (Tw.orc_sound impl_made.dok (impl_made.ok j) (fun q => Bool.noConfusion (show false = true from hmd q)) noO_sound)))) (by kernel_rfl) (m := 0) rfl ?_
  refine (impl_ReverseAutomaton.sf k a.1 a.2.1 a.2.2.1 a.2.2.2).trans ?_
  exact congrArg (Option.map _) h
def impl_WordValid.l0 : Nat → ByteArray → Int → Int → Option (Bool)
  | 0, _, _, _ => none
  | k + 1, x0, x5, x6 => (if x6 < x5 then (if 0 ≤ x6 then (if x6 < (x0.size : Int) then (if (btI x0 x6) = 97 then (impl_WordValid.l0 k x0 x5 (wrap64 (x6 + 1))) else (if (btI x0 x6) = 98 then (impl_WordValid.l0 k x0 x5 (wrap64 (x6 + 1))) else (some false))) else none) else none) else (some (decide ((x0.size : Int) ≤ 1000))))
def impl_WordValid.f (k : Nat) (a0 : ByteArray) : Option (Bool) := (impl_WordValid.l0 k a0 (a0.size : Int) 0)
def impl_WordValid.en (r : Bool) : Res := (.lit r, [])
def impl_WordValid.dec : List AV → List R.Obj → Option (ByteArray)
  | [.str a0], [] => some a0
  | _, _ => none
def impl_WordValid.tw : Tw := ⟨47, ByteArray, Bool, impl_WordValid.dec, fun a => [.str a], fun a => [], fun k a => impl_WordValid.f k a, fun a r => impl_WordValid.en r, true⟩
theorem impl_WordValid.dok : impl_WordValid.tw.DecOk := by
  intro args hc a h
  have h : impl_WordValid.dec args hc = some a := h
  unfold impl_WordValid.dec at h
  split at h
  · cases h; exact ⟨rfl, rfl⟩
  · cases h
noncomputable def impl_WordValid.O (k : Nat) : Oracle := noO
def impl_WordValid.fh : FH := ⟨fun i => match i with | 2 => some [(0, 0), (5, 0), (6, 0)] | _ => none, [], false⟩
noncomputable def impl_WordValid.x0 (k : Nat) (x0 : ByteArray) (x5 : Int) (x6 : Int) : Option Res := R.exec Try.prog xhn impl_WordValid.O 0 Try.f47 impl_WordValid.fh k (R.point Try.f47 2) ⟨[(0, .str x0), (5, .int .i64 x5), (6, .int .i64 x6)], [], 2⟩
set_option maxRecDepth 100000 in
theorem impl_WordValid.e0 (k : Nat) (x0 : ByteArray) (x5 : Int) (x6 : Int) : impl_WordValid.x0 (k + 1) x0 x5 x6 = (if x6 < x5 then (if 0 ≤ x6 then (if x6 < (x0.size : Int) then (if (btI x0 x6) = 97 then (impl_WordValid.x0 k x0 x5 (wr64 (x6 + 1))) else (if (btI x0 x6) = 98 then (impl_WordValid.x0 k x0 x5 (wr64 (x6 + 1))) else (some (impl_WordValid.en false)))) else none) else none) else (some (impl_WordValid.en (decide ((x0.size : Int) ≤ 1000))))) := by
  refine Eq.trans ?_ (R.icong (fun h0 => (R.icong (fun h1 => (R.icong (fun h2 => (R.icong (fun h3 => rfl) (fun h3 => (R.idropT (p := 0 ≤ x6) (z := none) h1 (R.idropT (p := x6 < (x0.size : Int)) (z := none) h2 rfl))))) (fun h2 => rfl))) (fun h1 => rfl))) (fun h0 => rfl))
  kernel_rfl
set_option maxRecDepth 100000 in
theorem impl_WordValid.ef (k : Nat) (a0 : ByteArray) : R.start Try.prog xhn impl_WordValid.O 0 Try.f47 impl_WordValid.fh k [.str a0] [] = (impl_WordValid.x0 k a0 (a0.size : Int) 0) := by kernel_rfl
theorem impl_WordValid.link : ∀ k, (∀ (x0 : ByteArray) (x5 : Int) (x6 : Int), impl_WordValid.x0 k x0 x5 x6 = (impl_WordValid.l0 k x0 x5 x6).map (impl_WordValid.en))
  | 0 => fun _ _ _ => by simp only [impl_WordValid.l0, R.map_none]; rfl
  | k + 1 => by
    have ih0 := impl_WordValid.link k
    · intro x0 x5 x6
      rw [impl_WordValid.e0]
      simp only [impl_WordValid.l0, R.map_ite, R.map_bind, R.map_none, R.map_some, R.wr64_eq, ← ih0]
theorem impl_WordValid.sf (k : Nat) (a0 : ByteArray) : R.start Try.prog xhn impl_WordValid.O 0 Try.f47 impl_WordValid.fh k [.str a0] [] = (impl_WordValid.f k a0).map (impl_WordValid.en) := by
  have ih0 := impl_WordValid.link k
  rw [impl_WordValid.ef]
  simp only [impl_WordValid.f, R.map_ite, R.map_bind, R.map_none, R.map_some, R.wr64_eq, ← ih0]
theorem impl_WordValid.ok (k : Nat) : impl_WordValid.tw.Ok Try.prog k := by
  intro md hmd a r h
  refine fn_ok (H := xhn) (fh := impl_WordValid.fh) (O := impl_WordValid.O) (k := k) Try.func47 (by kernel_rfl) (by kernel_rfl) (fun j _ => noO_sound) (by kernel_rfl) (m := 0) rfl ?_
  refine (impl_WordValid.sf k a).trans ?_
  exact congrArg (Option.map _) h
def slices_Reverse_byte_byte.l0 : Nat → (List Int) → Int → Int → Option (List Int)
  | 0, _, _, _ => none
  | k + 1, y0, x2, x3 => (if x2 < x3 then (if 0 ≤ x3 then (if x3 < (y0.length : Int) then (if 0 ≤ x2 then (if x2 < (y0.length : Int) then (if x3 < ((y0.set x2.toNat (rdI y0 x3)).length : Int) then (slices_Reverse_byte_byte.l0 k ((y0.set x2.toNat (rdI y0 x3)).set x3.toNat (rdI y0 x2)) (wrap64 (x2 + 1)) (wrap64 (x3 - 1))) else none) else none) else none) else none) else none) else (some y0))
def slices_Reverse_byte_byte.f (k : Nat) (l1 : List Int) : Option (List Int) := (slices_Reverse_byte_byte.l0 k l1 0 (wrap64 ((l1.length : Int) - 1)))
def slices_Reverse_byte_byte.en (r : List Int) : Res := (.tup [], [.arr 5 0 (.I .u8 r) false])
def slices_Reverse_byte_byte.dec : List AV → List R.Obj → Option (List Int)
  | [.sl 0 0], [.arr 5 0 (.I .u8 l1) false] => some l1
  | _, _ => none
def slices_Reverse_byte_byte.tw : Tw := ⟨95, List Int, List Int, slices_Reverse_byte_byte.dec, fun a => [.sl 0 0], fun a => [.arr 5 0 (.I .u8 a) false], fun k a => slices_Reverse_byte_byte.f k a, fun a r => slices_Reverse_byte_byte.en r, true⟩
theorem slices_Reverse_byte_byte.dok : slices_Reverse_byte_byte.tw.DecOk := by
  intro args hc a h
  have h : slices_Reverse_byte_byte.dec args hc = some a := h
  unfold slices_Reverse_byte_byte.dec at h
  split at h
  · cases h; exact ⟨rfl, rfl⟩
  · cases h
noncomputable def slices_Reverse_byte_byte.O (k : Nat) : Oracle := noO
def slices_Reverse_byte_byte.fh : FH := ⟨fun i => match i with | 1 => some [(0, 0), (2, 0), (3, 0)] | _ => none, [], false⟩
noncomputable def slices_Reverse_byte_byte.x0 (k : Nat) (y0 : List Int) (x2 : Int) (x3 : Int) : Option Res := R.exec Try.prog xhn slices_Reverse_byte_byte.O 1 Try.f95 slices_Reverse_byte_byte.fh k (R.point Try.f95 1) ⟨[(0, .sl 0 0), (2, .int .i64 x2), (3, .int .i64 x3)], [(0, .arr 5 0 (.I .u8 y0) false)], 3⟩
set_option maxRecDepth 100000 in
theorem slices_Reverse_byte_byte.e0 (k : Nat) (y0 : List Int) (x2 : Int) (x3 : Int) : slices_Reverse_byte_byte.x0 (k + 1) y0 x2 x3 = (if x2 < x3 then (if 0 ≤ x3 then (if x3 < (y0.length : Int) then (if 0 ≤ x2 then (if x2 < (y0.length : Int) then (if x3 < ((y0.set x2.toNat (rdI y0 x3)).length : Int) then (slices_Reverse_byte_byte.x0 k ((y0.set x2.toNat (rdI y0 x3)).set x3.toNat (rdI y0 x2)) (wr64 (x2 + 1)) (wr64 (x3 - 1))) else none) else none) else none) else none) else none) else (some (slices_Reverse_byte_byte.en y0))) := by
  refine Eq.trans ?_ (R.icong (fun h0 => (R.icong (fun h1 => (R.icong (fun h2 => (R.icong (fun h3 => (R.icong (fun h4 => (R.idropT (p := 0 ≤ x2) (z := none) h3 (R.idropT (p := x2 < (y0.length : Int)) (z := none) h4 (R.idropT (p := 0 ≤ x3) (z := none) h1 rfl)))) (fun h4 => rfl))) (fun h3 => rfl))) (fun h2 => rfl))) (fun h1 => rfl))) (fun h0 => rfl))
  kernel_rfl
set_option maxRecDepth 100000 in
theorem slices_Reverse_byte_byte.ef (k : Nat) (l1 : List Int) : R.start Try.prog xhn slices_Reverse_byte_byte.O 1 Try.f95 slices_Reverse_byte_byte.fh k [.sl 0 0] [.arr 5 0 (.I .u8 l1) false] = (slices_Reverse_byte_byte.x0 k l1 0 (wr64 ((l1.length : Int) - 1))) := by kernel_rfl
theorem slices_Reverse_byte_byte.link : ∀ k, (∀ (y0 : List Int) (x2 : Int) (x3 : Int), slices_Reverse_byte_byte.x0 k y0 x2 x3 = (slices_Reverse_byte_byte.l0 k y0 x2 x3).map (slices_Reverse_byte_byte.en))
  | 0 => fun _ _ _ => by simp only [slices_Reverse_byte_byte.l0, R.map_none]; rfl
  | k + 1 => by
    have ih0 := slices_Reverse_byte_byte.link k
    · intro y0 x2 x3
      rw [slices_Reverse_byte_byte.e0]
      simp only [slices_Reverse_byte_byte.l0, R.map_ite, R.map_bind, R.map_none, R.map_some, R.wr64_eq, ← ih0]
theorem slices_Reverse_byte_byte.sf (k : Nat) (l1 : List Int) : R.start Try.prog xhn slices_Reverse_byte_byte.O 1 Try.f95 slices_Reverse_byte_byte.fh k [.sl 0 0] [.arr 5 0 (.I .u8 l1) false] = (slices_Reverse_byte_byte.f k l1).map (slices_Reverse_byte_byte.en) := by
  have ih0 := slices_Reverse_byte_byte.link k
  rw [slices_Reverse_byte_byte.ef]
  simp only [slices_Reverse_byte_byte.f, R.map_ite, R.map_bind, R.map_none, R.map_some, R.wr64_eq, ← ih0]
theorem slices_Reverse_byte_byte.ok (k : Nat) : slices_Reverse_byte_byte.tw.Ok Try.prog k := by
  intro md hmd a r h
  refine fn_ok (H := xhn) (fh := slices_Reverse_byte_byte.fh) (O := slices_Reverse_byte_byte.O) (k := k) Try.func95 (by kernel_rfl) (by kernel_rfl) (fun j _ => noO_sound) (by kernel_rfl) (m := 1) rfl ?_
  refine (slices_Reverse_byte_byte.sf k a).trans ?_
  exact congrArg (Option.map _) h
def slices_Repeat_int_int.f (l0 : List Int) (a1 : Int) : Option (List Int) := if l0.length = 1 ∧ 1 ≤ a1 ∧ a1 ≤ 4 then some (List.replicate a1.toNat (rdI l0 0)) else none
def slices_Repeat_int_int.dec : List AV → List R.Obj → Option (List Int × Int)
  | [.imm (.I .i64 l0), .int .i64 a1], [] => some (l0, a1)
  | _, _ => none
def slices_Repeat_int_int.tw : Tw := ⟨132, List Int × Int, List Int, slices_Repeat_int_int.dec, fun a => [.imm (.I .i64 a.1), .int .i64 a.2], fun a => [], fun k a => slices_Repeat_int_int.f a.1 a.2, fun a r => (.sl 0 0, [.arr 3 0 (.I .i64 r) false]), false⟩
theorem slices_Repeat_int_int.dok : slices_Repeat_int_int.tw.DecOk := by
  intro args hc a h
  have h : slices_Repeat_int_int.dec args hc = some a := h
  unfold slices_Repeat_int_int.dec at h
  split at h
  · cases h; exact ⟨rfl, rfl⟩
  · cases h
open Go.Proofs.YtoeeeafknajkkaaW.PrintWords in
theorem slices_Repeat_int_int.ok (k : Nat) : slices_Repeat_int_int.tw.Ok Try.prog k := by
  rintro md hmd ⟨l0, a1⟩ r h
  have h : slices_Repeat_int_int.f l0 a1 = some r := h
  refine ⟨callable_of Try.func132 (by kernel_rfl) (by kernel_rfl), fun w M I vs E => ?_⟩
  obtain ⟨V0, hV0⟩ : ∃ V0, vs[0]? = some V0 := ⟨vs[0]'(by have := E.len; have : 2 = vs.size := this; omega), Array.getElem?_eq_getElem _⟩
  have e : vs = #[V0, .int .i64 a1] := two_of E.len (fun q => Option.some.inj (q.symm.trans hV0)) (fun q => (E.args 1 _ _ rfl q).int_inv)
  obtain ⟨A0, c0, hs, hc, ha, hcell⟩ := (E.args 0 _ _ rfl hV0).imm_inv.imm_at
  subst hs
  subst e
  have hl : l0.length = 1 := by
    unfold slices_Repeat_int_int.f at h
    split at h
    · rename_i g; exact g.1
    · cases h
  have hr0 : Kd.C (Kd.int .i64) w A0 l0.length l0 := by
    refine ⟨rfl, by omega, fun hp => ?_⟩
    obtain ⟨b, o, rfl⟩ := ha hp
    refine ⟨_, rfl, fun j p hj => ⟨[.int .i64 p], rfl, rfl, fun i u hi => ?_⟩⟩
    have hjl : j < l0.length := (List.getElem?_eq_some_iff.1 hj).1
    match i with
    | 0 =>
      simp only [List.getElem?_cons_zero, Option.some.injEq] at hi
      subst hi
      obtain ⟨v, q1, _, q2⟩ := hcell b o rfl j 0 hjl (by simp [Ct.sz])
      have e1 : (Ct.I .i64 l0).sz = 1 := rfl
      rw [e1, Nat.mul_one, Nat.add_zero] at q1
      have e2 := (VR.closed (M := M) q2).int_inv
      rw [R.add_at, show (Kd.int IntKind.i64).sz = 1 from rfl, Nat.mul_one, Nat.add_zero, q1, e2]
      have e3 : rdI l0 (j : Int) = p := by simp [rdI, hj]
      exact congrArg (fun z => some (Value.int .i64 z)) e3
    | i + 1 => simp at hi
  refine (X.slices_Repeat_int_int.calls A0 c0 l0 a1 r w hr0 hc h).mono fun e w' => ?_
  rintro ⟨v, rfl, hR, hB⟩
  exact ext_ints (Kd.own_of_R (enc := Value.int .i64) (h1 := fun _ => rfl) hR) hB (fun q => Bool.noConfusion (show false = true from hmd q))
mutual
def impl_toEnd.l0 : Nat → ByteArray → (List Int) → (List Int) → Int → Int → Int → (List Int) → (List Int) → (List Stp) → Option (List (List Int))
  | 0, _, _, _, _, _, _, _, _, _ => none
  | k + 1, x1, y1, x18, x19, x20, y0_0, y0_1, y0_2, y0_3 => (if x20 < x19 then (if 0 ≤ x20 then (if x20 < (x18.length : Int) then (if 0 ≤ (rdI x18 x20) then (if (rdI x18 x20) < (y1.length : Int) then (impl_toEnd.l0 k x1 (y1.set (rdI x18 x20).toNat 0) x18 x19 (wrap64 (x20 + 1)) y0_0 y0_1 y0_2 y0_3) else none) else none) else none) else none) else (impl_toEnd.l1 k x1 y1 ([y1]) (wrap64 ((x1.size : Int) - 1)) y0_0 y0_1 y0_2 y0_3))
def impl_toEnd.l1 : Nat → ByteArray → (List Int) → (List (List Int)) → Int → Int → (List Int) → (List Int) → (List Stp) → Option (List (List Int))
  | 0, _, _, _, _, _, _, _, _ => none
  | k + 1, x1, y1, y2, x9, y0_0, y0_1, y0_2, y0_3 => (if x9 ≥ 0 then ((slices_Repeat_int_int.f ([1000000]) y0_0).bind fun t2 => (impl_toEnd.l2 k x1 y1 y2 x9 t2 y0_3 (y0_3.length : Int) 0 y0_0 y0_1 y0_2 y0_3)) else (some y2))
def impl_toEnd.l2 : Nat → ByteArray → (List Int) → (List (List Int)) → Int → (List Int) → (List Stp) → Int → Int → Int → (List Int) → (List Int) → (List Stp) → Option (List (List Int))
  | 0, _, _, _, _, _, _, _, _, _, _, _, _ => none
  | k + 1, x1, y1, y2, x9, y3, x42, x43, x44, y0_0, y0_1, y0_2, y0_3 => (if x44 < x43 then (if 0 ≤ x44 then (if x44 < (x42.length : Int) then (if 0 ≤ x9 then (if x9 ≤ (wrap64 (x9 + 1)) then (if (wrap64 (x9 + 1)) ≤ (x1.size : Int) then (if (rdT x42 x44).f1.toList = (x1.extract x9.toNat (wrap64 (x9 + 1)).toNat).toList then (if 0 ≤ (rdT x42 x44).f0 then (if (rdT x42 x44).f0 < (y3.length : Int) then (if 0 ≤ (rdT x42 x44).f2 then (if (rdT x42 x44).f2 < (y1.length : Int) then (impl_toEnd.l2 k x1 y1 y2 x9 (y3.set (rdT x42 x44).f0.toNat (mn (rdI y3 (rdT x42 x44).f0) (wrap64 ((rdT x42 x44).f3 + (rdI y1 (rdT x42 x44).f2))))) x42 x43 (wrap64 (x44 + 1)) y0_0 y0_1 y0_2 y0_3) else none) else none) else none) else none) else (impl_toEnd.l2 k x1 y1 y2 x9 y3 x42 x43 (wrap64 (x44 + 1)) y0_0 y0_1 y0_2 y0_3)) else none) else none) else none) else none) else none) else (if y2.length < 5864062014805 then (impl_toEnd.l1 k x1 y3 (y2 ++ [y3]) (wrap64 (x9 - 1)) y0_0 y0_1 y0_2 y0_3) else none))
end
def impl_toEnd.f (k : Nat) (a0_0 : Int) (l0_1 : List Int) (l0_2 : List Int) (l0_3 : List Stp) (a1 : ByteArray) : Option (List (List Int)) := ((slices_Repeat_int_int.f ([1000000]) a0_0).bind fun t1 => (impl_toEnd.l0 k a1 t1 l0_2 (l0_2.length : Int) 0 a0_0 l0_1 l0_2 l0_3))
def impl_toEnd.en (r : List (List Int)) : Res := (.sl 0 0, [.arr 22 0 (.L r) false])
def impl_toEnd.dec : List AV → List R.Obj → Option (Int × (List Int) × (List Int) × (List Stp) × ByteArray)
  | [.agg [.int .i64 a0_0, .imm (.I .i64 l0_1), .imm (.I .i64 l0_2), .imm (.T l0_3)], .str a1], [] => some (a0_0, l0_1, l0_2, l0_3, a1)
  | _, _ => none
def impl_toEnd.tw : Tw := ⟨96, Int × (List Int) × (List Int) × (List Stp) × ByteArray, List (List Int), impl_toEnd.dec, fun a => [.agg [.int .i64 a.1, .imm (.I .i64 a.2.1), .imm (.I .i64 a.2.2.1), .imm (.T a.2.2.2.1)], .str a.2.2.2.2], fun a => [], fun k a => impl_toEnd.f k a.1 a.2.1 a.2.2.1 a.2.2.2.1 a.2.2.2.2, fun a r => impl_toEnd.en r, false⟩
theorem impl_toEnd.dok : impl_toEnd.tw.DecOk := by
  intro args hc a h
  have h : impl_toEnd.dec args hc = some a := h
  unfold impl_toEnd.dec at h
  split at h
  · cases h; exact ⟨rfl, rfl⟩
  · cases h
noncomputable def impl_toEnd.O (k : Nat) : Oracle := (slices_Repeat_int_int.tw.orc k noO)
def impl_toEnd.fh : FH := ⟨fun i => match i with | 3 => some [(1, 0), (2, 0), (5, 0), (18, 0), (19, 0), (20, 0)] | 9 => some [(1, 0), (2, 0), (5, 0), (8, 0), (9, 0)] | 13 => some [(1, 0), (2, 0), (5, 0), (8, 0), (9, 0), (10, 0), (42, 0), (43, 0), (44, 0)] | _ => none, [(true, 22)], false⟩
noncomputable def impl_toEnd.x0 (k : Nat) (x1 : ByteArray) (y1 : List Int) (x18 : List Int) (x19 : Int) (x20 : Int) (y0_0 : Int) (y0_1 : List Int) (y0_2 : List Int) (y0_3 : List Stp) : Option Res := R.exec Try.prog xhn impl_toEnd.O 0 Try.f96 impl_toEnd.fh k (R.point Try.f96 3) ⟨[(1, .str x1), (2, .ptr 0 0), (5, .sl 1 0), (18, .imm (.I .i64 x18)), (19, .int .i64 x19), (20, .int .i64 x20)], [(0, .box false [.int .i64 y0_0, .imm (.I .i64 y0_1), .imm (.I .i64 y0_2), .imm (.T y0_3)]), (1, .arr 3 0 (.I .i64 y1) false)], 4⟩
noncomputable def impl_toEnd.x1 (k : Nat) (x1 : ByteArray) (y1 : List Int) (y2 : List (List Int)) (x9 : Int) (y0_0 : Int) (y0_1 : List Int) (y0_2 : List Int) (y0_3 : List Stp) : Option Res := R.exec Try.prog xhn impl_toEnd.O 0 Try.f96 impl_toEnd.fh k (R.point Try.f96 9) ⟨[(1, .str x1), (2, .ptr 0 0), (5, .sl 1 0), (8, .sl 2 0), (9, .int .i64 x9)], [(0, .box false [.int .i64 y0_0, .imm (.I .i64 y0_1), .imm (.I .i64 y0_2), .imm (.T y0_3)]), (1, .arr 3 0 (.I .i64 y1) true), (2, .arr 22 0 (.L y2) false)], 5⟩
noncomputable def impl_toEnd.x2 (k : Nat) (x1 : ByteArray) (y1 : List Int) (y2 : List (List Int)) (x9 : Int) (y3 : List Int) (x42 : List Stp) (x43 : Int) (x44 : Int) (y0_0 : Int) (y0_1 : List Int) (y0_2 : List Int) (y0_3 : List Stp) : Option Res := R.exec Try.prog xhn impl_toEnd.O 0 Try.f96 impl_toEnd.fh k (R.point Try.f96 13) ⟨[(1, .str x1), (2, .ptr 0 0), (5, .sl 1 0), (8, .sl 2 0), (9, .int .i64 x9), (10, .sl 3 0), (42, .imm (.T x42)), (43, .int .i64 x43), (44, .int .i64 x44)], [(0, .box false [.int .i64 y0_0, .imm (.I .i64 y0_1), .imm (.I .i64 y0_2), .imm (.T y0_3)]), (1, .arr 3 0 (.I .i64 y1) true), (2, .arr 22 0 (.L y2) false), (3, .arr 3 0 (.I .i64 y3) false)], 6⟩
set_option maxRecDepth 100000 in
theorem impl_toEnd.e0 (k : Nat) (x1 : ByteArray) (y1 : List Int) (x18 : List Int) (x19 : Int) (x20 : Int) (y0_0 : Int) (y0_1 : List Int) (y0_2 : List Int) (y0_3 : List Stp) : impl_toEnd.x0 (k + 1) x1 y1 x18 x19 x20 y0_0 y0_1 y0_2 y0_3 = (if x20 < x19 then (if 0 ≤ x20 then (if x20 < (x18.length : Int) then (if 0 ≤ (rdI x18 x20) then (if (rdI x18 x20) < (y1.length : Int) then (impl_toEnd.x0 k x1 (y1.set (rdI x18 x20).toNat 0) x18 x19 (wr64 (x20 + 1)) y0_0 y0_1 y0_2 y0_3) else none) else none) else none) else none) else (impl_toEnd.x1 k x1 y1 ([y1]) (wr64 ((x1.size : Int) - 1)) y0_0 y0_1 y0_2 y0_3)) := by kernel_rfl
set_option maxRecDepth 100000 in
theorem impl_toEnd.e1 (k : Nat) (x1 : ByteArray) (y1 : List Int) (y2 : List (List Int)) (x9 : Int) (y0_0 : Int) (y0_1 : List Int) (y0_2 : List Int) (y0_3 : List Stp) : impl_toEnd.x1 (k + 1) x1 y1 y2 x9 y0_0 y0_1 y0_2 y0_3 = (if x9 ≥ 0 then ((slices_Repeat_int_int.f ([1000000]) y0_0).bind fun t2 => (impl_toEnd.x2 k x1 y1 y2 x9 t2 y0_3 (y0_3.length : Int) 0 y0_0 y0_1 y0_2 y0_3)) else (some (impl_toEnd.en y2))) := by kernel_rfl
set_option maxRecDepth 100000 in
theorem impl_toEnd.e2 (k : Nat) (x1 : ByteArray) (y1 : List Int) (y2 : List (List Int)) (x9 : Int) (y3 : List Int) (x42 : List Stp) (x43 : Int) (x44 : Int) (y0_0 : Int) (y0_1 : List Int) (y0_2 : List Int) (y0_3 : List Stp) : impl_toEnd.x2 (k + 1) x1 y1 y2 x9 y3 x42 x43 x44 y0_0 y0_1 y0_2 y0_3 = (if x44 < x43 then (if 0 ≤ x44 then (if x44 < (x42.length : Int) then (if 0 ≤ x9 then (if x9 ≤ (wr64 (x9 + 1)) then (if (wr64 (x9 + 1)) ≤ (x1.size : Int) then (if (rdT x42 x44).f1.toList = (x1.extract x9.toNat (wr64 (x9 + 1)).toNat).toList then (if 0 ≤ (rdT x42 x44).f0 then (if (rdT x42 x44).f0 < (y3.length : Int) then (if 0 ≤ (rdT x42 x44).f2 then (if (rdT x42 x44).f2 < (y1.length : Int) then (impl_toEnd.x2 k x1 y1 y2 x9 (y3.set (rdT x42 x44).f0.toNat (mn (rdI y3 (rdT x42 x44).f0) (wr64 ((rdT x42 x44).f3 + (rdI y1 (rdT x42 x44).f2))))) x42 x43 (wr64 (x44 + 1)) y0_0 y0_1 y0_2 y0_3) else none) else none) else none) else none) else (impl_toEnd.x2 k x1 y1 y2 x9 y3 x42 x43 (wr64 (x44 + 1)) y0_0 y0_1 y0_2 y0_3)) else none) else none) else none) else none) else none) else (if y2.length < 5864062014805 then (impl_toEnd.x1 k x1 y3 (y2 ++ [y3]) (wr64 (x9 - 1)) y0_0 y0_1 y0_2 y0_3) else none)) := by
  refine Eq.trans ?_ (R.icong (fun h0 => (R.icong (fun h1 => (R.icong (fun h2 => (R.icong (fun h3 => (R.icong (fun h4 => (R.icong (fun h5 => (R.icong (fun h6 => (R.icong (fun h7 => (R.icong (fun h8 => (R.icong (fun h9 => (R.icong (fun h10 => (R.idropT (p := 0 ≤ (rdT x42 x44).f0) (z := none) h7 (R.idropT (p := (rdT x42 x44).f0 < (y3.length : Int)) (z := none) h8 rfl))) (fun h10 => rfl))) (fun h9 => rfl))) (fun h8 => rfl))) (fun h7 => rfl))) (fun h6 => rfl))) (fun h5 => rfl))) (fun h4 => rfl))) (fun h3 => rfl))) (fun h2 => rfl))) (fun h1 => rfl))) (fun h0 => rfl))
  kernel_rfl
set_option maxRecDepth 100000 in
theorem impl_toEnd.ef (k : Nat) (a0_0 : Int) (l0_1 : List Int) (l0_2 : List Int) (l0_3 : List Stp) (a1 : ByteArray) : R.start Try.prog xhn impl_toEnd.O 0 Try.f96 impl_toEnd.fh k [.agg [.int .i64 a0_0, .imm (.I .i64 l0_1), .imm (.I .i64 l0_2), .imm (.T l0_3)], .str a1] [] = ((slices_Repeat_int_int.f ([1000000]) a0_0).bind fun t1 => (impl_toEnd.x0 k a1 t1 l0_2 (l0_2.length : Int) 0 a0_0 l0_1 l0_2 l0_3)) := by kernel_rfl
theorem impl_toEnd.link : ∀ k, (∀ (x1 : ByteArray) (y1 : List Int) (x18 : List Int) (x19 : Int) (x20 : Int) (y0_0 : Int) (y0_1 : List Int) (y0_2 : List Int) (y0_3 : List Stp), impl_toEnd.x0 k x1 y1 x18 x19 x20 y0_0 y0_1 y0_2 y0_3 = (impl_toEnd.l0 k x1 y1 x18 x19 x20 y0_0 y0_1 y0_2 y0_3).map (impl_toEnd.en)) ∧ (∀ (x1 : ByteArray) (y1 : List Int) (y2 : List (List Int)) (x9 : Int) (y0_0 : Int) (y0_1 : List Int) (y0_2 : List Int) (y0_3 : List Stp), impl_toEnd.x1 k x1 y1 y2 x9 y0_0 y0_1 y0_2 y0_3 = (impl_toEnd.l1 k x1 y1 y2 x9 y0_0 y0_1 y0_2 y0_3).map (impl_toEnd.en)) ∧ (∀ (x1 : ByteArray) (y1 : List Int) (y2 : List (List Int)) (x9 : Int) (y3 : List Int) (x42 : List Stp) (x43 : Int) (x44 : Int) (y0_0 : Int) (y0_1 : List Int) (y0_2 : List Int) (y0_3 : List Stp), impl_toEnd.x2 k x1 y1 y2 x9 y3 x42 x43 x44 y0_0 y0_1 y0_2 y0_3 = (impl_toEnd.l2 k x1 y1 y2 x9 y3 x42 x43 x44 y0_0 y0_1 y0_2 y0_3).map (impl_toEnd.en))
  | 0 => ⟨fun _ _ _ _ _ _ _ _ _ => by simp only [impl_toEnd.l0, R.map_none]; rfl, fun _ _ _ _ _ _ _ _ => by simp only [impl_toEnd.l1, R.map_none]; rfl, fun _ _ _ _ _ _ _ _ _ _ _ _ => by simp only [impl_toEnd.l2, R.map_none]; rfl⟩
  | k + 1 => by
    obtain ⟨ih0, ih1, ih2⟩ := impl_toEnd.link k
    refine ⟨?_, ?_, ?_⟩
    · intro x1 y1 x18 x19 x20 y0_0 y0_1 y0_2 y0_3
      rw [impl_toEnd.e0]
      simp only [impl_toEnd.l0, R.map_ite, R.map_bind, R.map_none, R.map_some, R.wr64_eq, ← ih0, ← ih1, ← ih2]
    · intro x1 y1 y2 x9 y0_0 y0_1 y0_2 y0_3
      rw [impl_toEnd.e1]
      simp only [impl_toEnd.l1, R.map_ite, R.map_bind, R.map_none, R.map_some, R.wr64_eq, ← ih0, ← ih1, ← ih2]
    · intro x1 y1 y2 x9 y3 x42 x43 x44 y0_0 y0_1 y0_2 y0_3
      rw [impl_toEnd.e2]
      simp only [impl_toEnd.l2, R.map_ite, R.map_bind, R.map_none, R.map_some, R.wr64_eq, ← ih0, ← ih1, ← ih2]
theorem impl_toEnd.sf (k : Nat) (a0_0 : Int) (l0_1 : List Int) (l0_2 : List Int) (l0_3 : List Stp) (a1 : ByteArray) : R.start Try.prog xhn impl_toEnd.O 0 Try.f96 impl_toEnd.fh k [.agg [.int .i64 a0_0, .imm (.I .i64 l0_1), .imm (.I .i64 l0_2), .imm (.T l0_3)], .str a1] [] = (impl_toEnd.f k a0_0 l0_1 l0_2 l0_3 a1).map (impl_toEnd.en) := by
  obtain ⟨ih0, ih1, ih2⟩ := impl_toEnd.link k
  rw [impl_toEnd.ef]
  simp only [impl_toEnd.f, R.map_ite, R.map_bind, R.map_none, R.map_some, R.wr64_eq, ← ih0, ← ih1, ← ih2]
theorem impl_toEnd.ok (k : Nat) : impl_toEnd.tw.Ok Try.prog k := by
  intro md hmd a r h
  refine fn_ok (H := xhn) (fh := impl_toEnd.fh) (O := impl_toEnd.O) (k := k) Try.func96 (by kernel_rfl) (by kernel_rfl) (fun j _ => (Tw.orc_sound slices_Repeat_int_int.dok (slices_Repeat_int_int.ok j) (fun q => Bool.noConfusion (show false = true from hmd q)) noO_sound)) (by kernel_rfl) (m := 0) rfl ?_
  refine (impl_toEnd.sf k a.1 a.2.1 a.2.2.1 a.2.2.2.1 a.2.2.2.2).trans ?_
  exact congrArg (Option.map _) h
mutual
def impl_PrefixCosts.l0 : Nat → (List Int) → (List (List Int)) → Int → Int → Int → (List Int) → (List Int) → (List Stp) → Option ((List Int) × Bool)
  | 0, _, _, _, _, _, _, _, _ => none
  | k + 1, y1, y2, x36, x37, y0_0, y0_1, y0_2, y0_3 => (if x37 < x36 then (if 0 ≤ x37 then (if x37 < (y2.length : Int) then (impl_PrefixCosts.l1 k y1 (rdL y2 x37) 1000000 y2 x36 x37 y0_2 (y0_2.length : Int) 0 y0_0 y0_1 y0_2 y0_3) else none) else none) else (some (y1, true)))
def impl_PrefixCosts.l1 : Nat → (List Int) → (List Int) → Int → (List (List Int)) → Int → Int → (List Int) → Int → Int → Int → (List Int) → (List Int) → (List Stp) → Option ((List Int) × Bool)
  | 0, _, _, _, _, _, _, _, _, _, _, _, _, _ => none
  | k + 1, y1, x11, x12, y2, x36, x37, x42, x43, x44, y0_0, y0_1, y0_2, y0_3 => (if x44 < x43 then (if 0 ≤ x44 then (if x44 < (x42.length : Int) then (if 0 ≤ (rdI x42 x44) then (if (rdI x42 x44) < (x11.length : Int) then (impl_PrefixCosts.l1 k y1 x11 (mn x12 (rdI x11 (rdI x42 x44))) y2 x36 x37 x42 x43 (wrap64 (x44 + 1)) y0_0 y0_1 y0_2 y0_3) else none) else none) else none) else none) else (if y1.length < 17592186044416 then (impl_PrefixCosts.l0 k (y1 ++ [x12]) y2 x36 (wrap64 (x37 + 1)) y0_0 y0_1 y0_2 y0_3) else none))
end
def impl_PrefixCosts.f (k : Nat) (a0_0 : Int) (l0_1 : List Int) (l0_2 : List Int) (l0_3 : List Stp) (a1 : ByteArray) : Option ((List Int) × Bool) := ((impl_ReverseAutomaton.f k a0_0 l0_1 l0_2 l0_3).bind fun t1 => (if t1.2.2.2.2 = true then ((impl_WordValid.f k a1).bind fun t2 => (if t2 = true then (if a1.size ≤ 17592186044416 then ((slices_Reverse_byte_byte.f k (numsOf a1)).bind fun t3 => ((impl_toEnd.f k t1.1 t1.2.1 t1.2.2.1 t1.2.2.2.1 (strOfNums t3)).bind fun t4 => (impl_PrefixCosts.l0 k ([] : List Int) t4 (t4.length : Int) 0 a0_0 l0_1 l0_2 l0_3))) else none) else (some (([] : List Int), false)))) else (some (([] : List Int), false))))
def impl_PrefixCosts.en (r : (List Int) × Bool) : Res := (.tup [.sl 0 0, .lit r.2], [.arr 3 0 (.I .i64 r.1) false])
def impl_PrefixCosts.dec : List AV → List R.Obj → Option (Int × (List Int) × (List Int) × (List Stp) × ByteArray)
  | [.agg [.int .i64 a0_0, .imm (.I .i64 l0_1), .imm (.I .i64 l0_2), .imm (.T l0_3)], .str a1], [] => some (a0_0, l0_1, l0_2, l0_3, a1)
  | _, _ => none
def impl_PrefixCosts.tw : Tw := ⟨33, Int × (List Int) × (List Int) × (List Stp) × ByteArray, (List Int) × Bool, impl_PrefixCosts.dec, fun a => [.agg [.int .i64 a.1, .imm (.I .i64 a.2.1), .imm (.I .i64 a.2.2.1), .imm (.T a.2.2.2.1)], .str a.2.2.2.2], fun a => [], fun k a => impl_PrefixCosts.f k a.1 a.2.1 a.2.2.1 a.2.2.2.1 a.2.2.2.2, fun a r => impl_PrefixCosts.en r, false⟩
theorem impl_PrefixCosts.dok : impl_PrefixCosts.tw.DecOk := by
  intro args hc a h
  have h : impl_PrefixCosts.dec args hc = some a := h
  unfold impl_PrefixCosts.dec at h
  split at h
  · cases h; exact ⟨rfl, rfl⟩
  · cases h
noncomputable def impl_PrefixCosts.O (k : Nat) : Oracle := (impl_ReverseAutomaton.tw.orc k (impl_WordValid.tw.orc k (slices_Reverse_byte_byte.tw.orc k (impl_toEnd.tw.orc k noO))))
def impl_PrefixCosts.fh : FH := ⟨fun i => match i with | 8 => some [(2, 0), (9, 0), (35, 0), (36, 0), (37, 0)] | 12 => some [(2, 0), (9, 0), (11, 0), (12, 0), (35, 0), (36, 0), (37, 0), (42, 0), (43, 0), (44, 0)] | _ => none, [(true, 3)], false⟩
noncomputable def impl_PrefixCosts.x0 (k : Nat) (y1 : List Int) (y2 : List (List Int)) (x36 : Int) (x37 : Int) (y0_0 : Int) (y0_1 : List Int) (y0_2 : List Int) (y0_3 : List Stp) : Option Res := R.exec Try.prog xhn impl_PrefixCosts.O 0 Try.f33 impl_PrefixCosts.fh k (R.point Try.f33 8) ⟨[(2, .ptr 0 0), (9, .sl 1 0), (35, .sl 2 0), (36, .int .i64 x36), (37, .int .i64 x37)], [(0, .box false [.int .i64 y0_0, .imm (.I .i64 y0_1), .imm (.I .i64 y0_2), .imm (.T y0_3)]), (1, .arr 3 0 (.I .i64 y1) false), (2, .arr 22 0 (.L y2) false)], 5⟩
noncomputable def impl_PrefixCosts.x1 (k : Nat) (y1 : List Int) (x11 : List Int) (x12 : Int) (y2 : List (List Int)) (x36 : Int) (x37 : Int) (x42 : List Int) (x43 : Int) (x44 : Int) (y0_0 : Int) (y0_1 : List Int) (y0_2 : List Int) (y0_3 : List Stp) : Option Res := R.exec Try.prog xhn impl_PrefixCosts.O 0 Try.f33 impl_PrefixCosts.fh k (R.point Try.f33 12) ⟨[(2, .ptr 0 0), (9, .sl 1 0), (11, .imm (.I .i64 x11)), (12, .int .i64 x12), (35, .sl 2 0), (36, .int .i64 x36), (37, .int .i64 x37), (42, .imm (.I .i64 x42)), (43, .int .i64 x43), (44, .int .i64 x44)], [(0, .box false [.int .i64 y0_0, .imm (.I .i64 y0_1), .imm (.I .i64 y0_2), .imm (.T y0_3)]), (1, .arr 3 0 (.I .i64 y1) false), (2, .arr 22 0 (.L y2) false)], 5⟩
set_option maxRecDepth 100000 in
theorem impl_PrefixCosts.e0 (k : Nat) (y1 : List Int) (y2 : List (List Int)) (x36 : Int) (x37 : Int) (y0_0 : Int) (y0_1 : List Int) (y0_2 : List Int) (y0_3 : List Stp) : impl_PrefixCosts.x0 (k + 1) y1 y2 x36 x37 y0_0 y0_1 y0_2 y0_3 = (if x37 < x36 then (if 0 ≤ x37 then (if x37 < (y2.length : Int) then (impl_PrefixCosts.x1 k y1 (rdL y2 x37) 1000000 y2 x36 x37 y0_2 (y0_2.length : Int) 0 y0_0 y0_1 y0_2 y0_3) else none) else none) else (some (impl_PrefixCosts.en (y1, true)))) := by kernel_rfl
set_option maxRecDepth 100000 in
theorem impl_PrefixCosts.e1 (k : Nat) (y1 : List Int) (x11 : List Int) (x12 : Int) (y2 : List (List Int)) (x36 : Int) (x37 : Int) (x42 : List Int) (x43 : Int) (x44 : Int) (y0_0 : Int) (y0_1 : List Int) (y0_2 : List Int) (y0_3 : List Stp) : impl_PrefixCosts.x1 (k + 1) y1 x11 x12 y2 x36 x37 x42 x43 x44 y0_0 y0_1 y0_2 y0_3 = (if x44 < x43 then (if 0 ≤ x44 then (if x44 < (x42.length : Int) then (if 0 ≤ (rdI x42 x44) then (if (rdI x42 x44) < (x11.length : Int) then (impl_PrefixCosts.x1 k y1 x11 (mn x12 (rdI x11 (rdI x42 x44))) y2 x36 x37 x42 x43 (wr64 (x44 + 1)) y0_0 y0_1 y0_2 y0_3) else none) else none) else none) else none) else (if y1.length < 17592186044416 then (impl_PrefixCosts.x0 k (y1 ++ [x12]) y2 x36 (wr64 (x37 + 1)) y0_0 y0_1 y0_2 y0_3) else none)) := by kernel_rfl
set_option maxRecDepth 100000 in
theorem impl_PrefixCosts.ef (k : Nat) (a0_0 : Int) (l0_1 : List Int) (l0_2 : List Int) (l0_3 : List Stp) (a1 : ByteArray) : R.start Try.prog xhn impl_PrefixCosts.O 0 Try.f33 impl_PrefixCosts.fh k [.agg [.int .i64 a0_0, .imm (.I .i64 l0_1), .imm (.I .i64 l0_2), .imm (.T l0_3)], .str a1] [] = ((impl_ReverseAutomaton.f k a0_0 l0_1 l0_2 l0_3).bind fun t1 => (if t1.2.2.2.2 = true then ((impl_WordValid.f k a1).bind fun t2 => (if t2 = true then (if a1.size ≤ 17592186044416 then ((slices_Reverse_byte_byte.f k (numsOf a1)).bind fun t3 => ((impl_toEnd.f k t1.1 t1.2.1 t1.2.2.1 t1.2.2.2.1 (strOfNums t3)).bind fun t4 => (impl_PrefixCosts.x0 k ([] : List Int) t4 (t4.length : Int) 0 a0_0 l0_1 l0_2 l0_3))) else none) else (some (impl_PrefixCosts.en (([] : List Int), false))))) else (some (impl_PrefixCosts.en (([] : List Int), false))))) := by kernel_rfl
theorem impl_PrefixCosts.link : ∀ k, (∀ (y1 : List Int) (y2 : List (List Int)) (x36 : Int) (x37 : Int) (y0_0 : Int) (y0_1 : List Int) (y0_2 : List Int) (y0_3 : List Stp), impl_PrefixCosts.x0 k y1 y2 x36 x37 y0_0 y0_1 y0_2 y0_3 = (impl_PrefixCosts.l0 k y1 y2 x36 x37 y0_0 y0_1 y0_2 y0_3).map (impl_PrefixCosts.en)) ∧ (∀ (y1 : List Int) (x11 : List Int) (x12 : Int) (y2 : List (List Int)) (x36 : Int) (x37 : Int) (x42 : List Int) (x43 : Int) (x44 : Int) (y0_0 : Int) (y0_1 : List Int) (y0_2 : List Int) (y0_3 : List Stp), impl_PrefixCosts.x1 k y1 x11 x12 y2 x36 x37 x42 x43 x44 y0_0 y0_1 y0_2 y0_3 = (impl_PrefixCosts.l1 k y1 x11 x12 y2 x36 x37 x42 x43 x44 y0_0 y0_1 y0_2 y0_3).map (impl_PrefixCosts.en))
  | 0 => ⟨fun _ _ _ _ _ _ _ _ => by simp only [impl_PrefixCosts.l0, R.map_none]; rfl, fun _ _ _ _ _ _ _ _ _ _ _ _ _ => by simp only [impl_PrefixCosts.l1, R.map_none]; rfl⟩
  | k + 1 => by
    obtain ⟨ih0, ih1⟩ := impl_PrefixCosts.link k
    refine ⟨?_, ?_⟩
    · intro y1 y2 x36 x37 y0_0 y0_1 y0_2 y0_3
      rw [impl_PrefixCosts.e0]
      simp only [impl_PrefixCosts.l0, R.map_ite, R.map_bind, R.map_none, R.map_some, R.wr64_eq, ← ih0, ← ih1]
    · intro y1 x11 x12 y2 x36 x37 x42 x43 x44 y0_0 y0_1 y0_2 y0_3
      rw [impl_PrefixCosts.e1]
      simp only [impl_PrefixCosts.l1, R.map_ite, R.map_bind, R.map_none, R.map_some, R.wr64_eq, ← ih0, ← ih1]
theorem impl_PrefixCosts.sf (k : Nat) (a0_0 : Int) (l0_1 : List Int) (l0_2 : List Int) (l0_3 : List Stp) (a1 : ByteArray) : R.start Try.prog xhn impl_PrefixCosts.O 0 Try.f33 impl_PrefixCosts.fh k [.agg [.int .i64 a0_0, .imm (.I .i64 l0_1), .imm (.I .i64 l0_2), .imm (.T l0_3)], .str a1] [] = (impl_PrefixCosts.f k a0_0 l0_1 l0_2 l0_3 a1).map (impl_PrefixCosts.en) := by
  obtain ⟨ih0, ih1⟩ := impl_PrefixCosts.link k
  rw [impl_PrefixCosts.ef]
  simp only [impl_PrefixCosts.f, R.map_ite, R.map_bind, R.map_none, R.map_some, R.wr64_eq, ← ih0, ← ih1]
theorem impl_PrefixCosts.ok (k : Nat) : impl_PrefixCosts.tw.Ok Try.prog k := by
  intro md hmd a r h
  refine fn_ok (H := xhn) (fh := impl_PrefixCosts.fh) (O := impl_PrefixCosts.O) (k := k) Try.func33 (by kernel_rfl) (by kernel_rfl) (fun j _ => (Tw.orc_sound impl_ReverseAutomaton.dok (impl_ReverseAutomaton.ok j) (fun q => Bool.noConfusion (show false = true from hmd q)) (Tw.orc_sound impl_WordValid.dok (impl_WordValid.ok j) (fun _ => rfl) (Tw.orc_sound slices_Reverse_byte_byte.dok (slices_Reverse_byte_byte.ok j) (fun _ => rfl) (Tw.orc_sound impl_toEnd.dok (impl_toEnd.ok j) (fun q => Bool.noConfusion (show false = true from hmd q)) noO_sound))))) (by kernel_rfl) (m := 0) rfl ?_
  refine (impl_PrefixCosts.sf k a.1 a.2.1 a.2.2.1 a.2.2.2.1 a.2.2.2.2).trans ?_
  exact congrArg (Option.map _) h
def laws_eqIntS.l0 : Nat → (List Int) → (List Int) → Int → Option (Bool)
  | 0, _, _, _ => none
  | k + 1, x0, x1, x5 => (if x5 < (x0.length : Int) then (if 0 ≤ x5 then (if x5 < (x1.length : Int) then (if (rdI x0 x5) = (rdI x1 x5) then (laws_eqIntS.l0 k x0 x1 (wrap64 (x5 + 1))) else (some false)) else none) else none) else (some true))
def laws_eqIntS.f (k : Nat) (l0 : List Int) (l1 : List Int) : Option (Bool) := (if (l0.length : Int) = (l1.length : Int) then (laws_eqIntS.l0 k l0 l1 0) else (some false))
def laws_eqIntS.en (r : Bool) : Res := (.lit r, [])
def laws_eqIntS.dec : List AV → List R.Obj → Option ((List Int) × (List Int))
  | [.imm (.I .i64 l0), .imm (.I .i64 l1)], [] => some (l0, l1)
  | _, _ => none
def laws_eqIntS.tw : Tw := ⟨34, (List Int) × (List Int), Bool, laws_eqIntS.dec, fun a => [.imm (.I .i64 a.1), .imm (.I .i64 a.2)], fun a => [], fun k a => laws_eqIntS.f k a.1 a.2, fun a r => laws_eqIntS.en r, true⟩
theorem laws_eqIntS.dok : laws_eqIntS.tw.DecOk := by
  intro args hc a h
  have h : laws_eqIntS.dec args hc = some a := h
  unfold laws_eqIntS.dec at h
  split at h
  · cases h; exact ⟨rfl, rfl⟩
  · cases h
noncomputable def laws_eqIntS.O (k : Nat) : Oracle := noO
def laws_eqIntS.fh : FH := ⟨fun i => match i with | 4 => some [(0, 0), (1, 0), (5, 0)] | _ => none, [], false⟩
noncomputable def laws_eqIntS.x0 (k : Nat) (x0 : List Int) (x1 : List Int) (x5 : Int) : Option Res := R.exec Try.prog xhn laws_eqIntS.O 0 Try.f34 laws_eqIntS.fh k (R.point Try.f34 4) ⟨[(0, .imm (.I .i64 x0)), (1, .imm (.I .i64 x1)), (5, .int .i64 x5)], [], 2⟩
set_option maxRecDepth 100000 in
theorem laws_eqIntS.e0 (k : Nat) (x0 : List Int) (x1 : List Int) (x5 : Int) : laws_eqIntS.x0 (k + 1) x0 x1 x5 = (if x5 < (x0.length : Int) then (if 0 ≤ x5 then (if x5 < (x1.length : Int) then (if (rdI x0 x5) = (rdI x1 x5) then (laws_eqIntS.x0 k x0 x1 (wr64 (x5 + 1))) else (some (laws_eqIntS.en false))) else none) else none) else (some (laws_eqIntS.en true))) := by
  refine Eq.trans ?_ (R.icong (fun h0 => (R.icong (fun h1 => (R.idropT (p := x5 < (x0.length : Int)) (z := none) h0 (R.idropT (p := 0 ≤ x5) (z := none) h1 rfl))) (fun h1 => rfl))) (fun h0 => rfl))
  kernel_rfl
set_option maxRecDepth 100000 in
theorem laws_eqIntS.ef (k : Nat) (l0 : List Int) (l1 : List Int) : R.start Try.prog xhn laws_eqIntS.O 0 Try.f34 laws_eqIntS.fh k [.imm (.I .i64 l0), .imm (.I .i64 l1)] [] = (if (l0.length : Int) = (l1.length : Int) then (laws_eqIntS.x0 k l0 l1 0) else (some (laws_eqIntS.en false))) := by kernel_rfl
theorem laws_eqIntS.link : ∀ k, (∀ (x0 : List Int) (x1 : List Int) (x5 : Int), laws_eqIntS.x0 k x0 x1 x5 = (laws_eqIntS.l0 k x0 x1 x5).map (laws_eqIntS.en))
  | 0 => fun _ _ _ => by simp only [laws_eqIntS.l0, R.map_none]; rfl
  | k + 1 => by
    have ih0 := laws_eqIntS.link k
    · intro x0 x1 x5
      rw [laws_eqIntS.e0]
      simp only [laws_eqIntS.l0, R.map_ite, R.map_bind, R.map_none, R.map_some, R.wr64_eq, ← ih0]
theorem laws_eqIntS.sf (k : Nat) (l0 : List Int) (l1 : List Int) : R.start Try.prog xhn laws_eqIntS.O 0 Try.f34 laws_eqIntS.fh k [.imm (.I .i64 l0), .imm (.I .i64 l1)] [] = (laws_eqIntS.f k l0 l1).map (laws_eqIntS.en) := by
  have ih0 := laws_eqIntS.link k
  rw [laws_eqIntS.ef]
  simp only [laws_eqIntS.f, R.map_ite, R.map_bind, R.map_none, R.map_some, R.wr64_eq, ← ih0]
theorem laws_eqIntS.ok (k : Nat) : laws_eqIntS.tw.Ok Try.prog k := by
  intro md hmd a r h
  refine fn_ok (H := xhn) (fh := laws_eqIntS.fh) (O := laws_eqIntS.O) (k := k) Try.func34 (by kernel_rfl) (by kernel_rfl) (fun j _ => noO_sound) (by kernel_rfl) (m := 0) rfl ?_
  refine (laws_eqIntS.sf k a.1 a.2).trans ?_
  exact congrArg (Option.map _) h
def laws_eqStep.f (a0_0 : Int) (a0_1 : ByteArray) (a0_2 : Int) (a0_3 : Int) (a1_0 : Int) (a1_1 : ByteArray) (a1_2 : Int) (a1_3 : Int) : Option (Bool) := (if a0_0 = a1_0 then (if a0_1.toList = a1_1.toList then (if a0_2 = a1_2 then (if a0_3 = a1_3 then (some true) else (some false)) else (some false)) else (some false)) else (some false))
def laws_eqStep.en (r : Bool) : Res := (.lit r, [])
def laws_eqStep.dec : List AV → List R.Obj → Option (Int × ByteArray × Int × Int × Int × ByteArray × Int × Int)
  | [.agg [.int .i64 a0_0, .str a0_1, .int .i64 a0_2, .int .i64 a0_3], .agg [.int .i64 a1_0, .str a1_1, .int .i64 a1_2, .int .i64 a1_3]], [] => some (a0_0, a0_1, a0_2, a0_3, a1_0, a1_1, a1_2, a1_3)
  | _, _ => none
def laws_eqStep.tw : Tw := ⟨118, Int × ByteArray × Int × Int × Int × ByteArray × Int × Int, Bool, laws_eqStep.dec, fun a => [.agg [.int .i64 a.1, .str a.2.1, .int .i64 a.2.2.1, .int .i64 a.2.2.2.1], .agg [.int .i64 a.2.2.2.2.1, .str a.2.2.2.2.2.1, .int .i64 a.2.2.2.2.2.2.1, .int .i64 a.2.2.2.2.2.2.2]], fun a => [], fun k a => laws_eqStep.f a.1 a.2.1 a.2.2.1 a.2.2.2.1 a.2.2.2.2.1 a.2.2.2.2.2.1 a.2.2.2.2.2.2.1 a.2.2.2.2.2.2.2, fun a r => laws_eqStep.en r, true⟩
theorem laws_eqStep.dok : laws_eqStep.tw.DecOk := by
  intro args hc a h
  have h : laws_eqStep.dec args hc = some a := h
  unfold laws_eqStep.dec at h
  split at h
  · cases h; exact ⟨rfl, rfl⟩
  · cases h
noncomputable def laws_eqStep.O (k : Nat) : Oracle := noO
def laws_eqStep.fh : FH := ⟨fun i => match i with | _ => none, [], false⟩
set_option maxRecDepth 100000 in
theorem laws_eqStep.ef (k : Nat) (a0_0 : Int) (a0_1 : ByteArray) (a0_2 : Int) (a0_3 : Int) (a1_0 : Int) (a1_1 : ByteArray) (a1_2 : Int) (a1_3 : Int) : R.start Try.prog xhn laws_eqStep.O 0 Try.f118 laws_eqStep.fh k [.agg [.int .i64 a0_0, .str a0_1, .int .i64 a0_2, .int .i64 a0_3], .agg [.int .i64 a1_0, .str a1_1, .int .i64 a1_2, .int .i64 a1_3]] [] = (if a0_0 = a1_0 then (if a0_1.toList = a1_1.toList then (if a0_2 = a1_2 then (if a0_3 = a1_3 then (some (laws_eqStep.en true)) else (some (laws_eqStep.en false))) else (some (laws_eqStep.en false))) else (some (laws_eqStep.en false))) else (some (laws_eqStep.en false))) := by kernel_rfl
theorem laws_eqStep.sf (k : Nat) (a0_0 : Int) (a0_1 : ByteArray) (a0_2 : Int) (a0_3 : Int) (a1_0 : Int) (a1_1 : ByteArray) (a1_2 : Int) (a1_3 : Int) : R.start Try.prog xhn laws_eqStep.O 0 Try.f118 laws_eqStep.fh k [.agg [.int .i64 a0_0, .str a0_1, .int .i64 a0_2, .int .i64 a0_3], .agg [.int .i64 a1_0, .str a1_1, .int .i64 a1_2, .int .i64 a1_3]] [] = (laws_eqStep.f a0_0 a0_1 a0_2 a0_3 a1_0 a1_1 a1_2 a1_3).map (laws_eqStep.en) := by
  rw [laws_eqStep.ef]
  simp only [laws_eqStep.f, R.map_ite, R.map_bind, R.map_none, R.map_some, R.wr64_eq]
theorem laws_eqStep.ok (k : Nat) : laws_eqStep.tw.Ok Try.prog k := by
  intro md hmd a r h
  refine fn_ok (H := xhn) (fh := laws_eqStep.fh) (O := laws_eqStep.O) (k := k) Try.func118 (by kernel_rfl) (by kernel_rfl) (fun j _ => noO_sound) (by kernel_rfl) (m := 0) rfl ?_
  refine (laws_eqStep.sf k a.1 a.2.1 a.2.2.1 a.2.2.2.1 a.2.2.2.2.1 a.2.2.2.2.2.1 a.2.2.2.2.2.2.1 a.2.2.2.2.2.2.2).trans ?_
  exact congrArg (Option.map _) h
def laws_eqStepS.l0 : Nat → (List Stp) → (List Stp) → Int → Option (Bool)
  | 0, _, _, _ => none
  | k + 1, x0, x1, x5 => (if x5 < (x0.length : Int) then (if 0 ≤ x5 then (if x5 < (x1.length : Int) then ((laws_eqStep.f ((rdT x0 x5).f0) ((rdT x0 x5).f1) ((rdT x0 x5).f2) ((rdT x0 x5).f3) ((rdT x1 x5).f0) ((rdT x1 x5).f1) ((rdT x1 x5).f2) ((rdT x1 x5).f3)).bind fun t1 => (if t1 = true then (laws_eqStepS.l0 k x0 x1 (wrap64 (x5 + 1))) else (some false))) else none) else none) else (some true))
def laws_eqStepS.f (k : Nat) (l0 : List Stp) (l1 : List Stp) : Option (Bool) := (if (l0.length : Int) = (l1.length : Int) then (laws_eqStepS.l0 k l0 l1 0) else (some false))
def laws_eqStepS.en (r : Bool) : Res := (.lit r, [])
def laws_eqStepS.dec : List AV → List R.Obj → Option ((List Stp) × (List Stp))
  | [.imm (.T l0), .imm (.T l1)], [] => some (l0, l1)
  | _, _ => none
def laws_eqStepS.tw : Tw := ⟨66, (List Stp) × (List Stp), Bool, laws_eqStepS.dec, fun a => [.imm (.T a.1), .imm (.T a.2)], fun a => [], fun k a => laws_eqStepS.f k a.1 a.2, fun a r => laws_eqStepS.en r, true⟩
theorem laws_eqStepS.dok : laws_eqStepS.tw.DecOk := by
  intro args hc a h
  have h : laws_eqStepS.dec args hc = some a := h
  unfold laws_eqStepS.dec at h
  split at h
  · cases h; exact ⟨rfl, rfl⟩
  · cases h
noncomputable def laws_eqStepS.O (k : Nat) : Oracle := (laws_eqStep.tw.orc k noO)
def laws_eqStepS.fh : FH := ⟨fun i => match i with | 4 => some [(0, 0), (1, 0), (5, 0)] | _ => none, [], false⟩
noncomputable def laws_eqStepS.x0 (k : Nat) (x0 : List Stp) (x1 : List Stp) (x5 : Int) : Option Res := R.exec Try.prog xhn laws_eqStepS.O 0 Try.f66 laws_eqStepS.fh k (R.point Try.f66 4) ⟨[(0, .imm (.T x0)), (1, .imm (.T x1)), (5, .int .i64 x5)], [], 2⟩
set_option maxRecDepth 100000 in
theorem laws_eqStepS.e0 (k : Nat) (x0 : List Stp) (x1 : List Stp) (x5 : Int) : laws_eqStepS.x0 (k + 1) x0 x1 x5 = (if x5 < (x0.length : Int) then (if 0 ≤ x5 then (if x5 < (x1.length : Int) then ((laws_eqStep.f ((rdT x0 x5).f0) ((rdT x0 x5).f1) ((rdT x0 x5).f2) ((rdT x0 x5).f3) ((rdT x1 x5).f0) ((rdT x1 x5).f1) ((rdT x1 x5).f2) ((rdT x1 x5).f3)).bind fun t1 => (if t1 = true then (laws_eqStepS.x0 k x0 x1 (wr64 (x5 + 1))) else (some (laws_eqStepS.en false)))) else none) else none) else (some (laws_eqStepS.en true))) := by
  refine Eq.trans ?_ (R.icong (fun h0 => (R.icong (fun h1 => (R.idropT (p := x5 < (x0.length : Int)) (z := none) h0 (R.idropT (p := 0 ≤ x5) (z := none) h1 rfl))) (fun h1 => rfl))) (fun h0 => rfl))
  kernel_rfl
set_option maxRecDepth 100000 in
theorem laws_eqStepS.ef (k : Nat) (l0 : List Stp) (l1 : List Stp) : R.start Try.prog xhn laws_eqStepS.O 0 Try.f66 laws_eqStepS.fh k [.imm (.T l0), .imm (.T l1)] [] = (if (l0.length : Int) = (l1.length : Int) then (laws_eqStepS.x0 k l0 l1 0) else (some (laws_eqStepS.en false))) := by kernel_rfl
theorem laws_eqStepS.link : ∀ k, (∀ (x0 : List Stp) (x1 : List Stp) (x5 : Int), laws_eqStepS.x0 k x0 x1 x5 = (laws_eqStepS.l0 k x0 x1 x5).map (laws_eqStepS.en))
  | 0 => fun _ _ _ => by simp only [laws_eqStepS.l0, R.map_none]; rfl
  | k + 1 => by
    have ih0 := laws_eqStepS.link k
    · intro x0 x1 x5
      rw [laws_eqStepS.e0]
      simp only [laws_eqStepS.l0, R.map_ite, R.map_bind, R.map_none, R.map_some, R.wr64_eq, ← ih0]
theorem laws_eqStepS.sf (k : Nat) (l0 : List Stp) (l1 : List Stp) : R.start Try.prog xhn laws_eqStepS.O 0 Try.f66 laws_eqStepS.fh k [.imm (.T l0), .imm (.T l1)] [] = (laws_eqStepS.f k l0 l1).map (laws_eqStepS.en) := by
  have ih0 := laws_eqStepS.link k
  rw [laws_eqStepS.ef]
  simp only [laws_eqStepS.f, R.map_ite, R.map_bind, R.map_none, R.map_some, R.wr64_eq, ← ih0]
theorem laws_eqStepS.ok (k : Nat) : laws_eqStepS.tw.Ok Try.prog k := by
  intro md hmd a r h
  refine fn_ok (H := xhn) (fh := laws_eqStepS.fh) (O := laws_eqStepS.O) (k := k) Try.func66 (by kernel_rfl) (by kernel_rfl) (fun j _ => (Tw.orc_sound laws_eqStep.dok (laws_eqStep.ok j) (fun _ => rfl) noO_sound)) (by kernel_rfl) (m := 0) rfl ?_
  refine (laws_eqStepS.sf k a.1 a.2).trans ?_
  exact congrArg (Option.map _) h
def laws_eqAutomaton.f (k : Nat) (a0_0 : Int) (l0_1 : List Int) (l0_2 : List Int) (l0_3 : List Stp) (a1_0 : Int) (l1_1 : List Int) (l1_2 : List Int) (l1_3 : List Stp) : Option (Bool) := (if a0_0 = a1_0 then ((laws_eqIntS.f k l0_1 l1_1).bind fun t1 => (if t1 = true then ((laws_eqIntS.f k l0_2 l1_2).bind fun t2 => (if t2 = true then ((laws_eqStepS.f k l0_3 l1_3).bind fun t3 => (if t3 = true then (some true) else (some false))) else (some false))) else (some false))) else (some false))
def laws_eqAutomaton.en (r : Bool) : Res := (.lit r, [])
def laws_eqAutomaton.dec : List AV → List R.Obj → Option (Int × (List Int) × (List Int) × (List Stp) × Int × (List Int) × (List Int) × (List Stp))
  | [.agg [.int .i64 a0_0, .imm (.I .i64 l0_1), .imm (.I .i64 l0_2), .imm (.T l0_3)], .agg [.int .i64 a1_0, .imm (.I .i64 l1_1), .imm (.I .i64 l1_2), .imm (.T l1_3)]], [] => some (a0_0, l0_1, l0_2, l0_3, a1_0, l1_1, l1_2, l1_3)
  | _, _ => none
def laws_eqAutomaton.tw : Tw := ⟨19, Int × (List Int) × (List Int) × (List Stp) × Int × (List Int) × (List Int) × (List Stp), Bool, laws_eqAutomaton.dec, fun a => [.agg [.int .i64 a.1, .imm (.I .i64 a.2.1), .imm (.I .i64 a.2.2.1), .imm (.T a.2.2.2.1)], .agg [.int .i64 a.2.2.2.2.1, .imm (.I .i64 a.2.2.2.2.2.1), .imm (.I .i64 a.2.2.2.2.2.2.1), .imm (.T a.2.2.2.2.2.2.2)]], fun a => [], fun k a => laws_eqAutomaton.f k a.1 a.2.1 a.2.2.1 a.2.2.2.1 a.2.2.2.2.1 a.2.2.2.2.2.1 a.2.2.2.2.2.2.1 a.2.2.2.2.2.2.2, fun a r => laws_eqAutomaton.en r, true⟩
theorem laws_eqAutomaton.dok : laws_eqAutomaton.tw.DecOk := by
  intro args hc a h
  have h : laws_eqAutomaton.dec args hc = some a := h
  unfold laws_eqAutomaton.dec at h
  split at h
  · cases h; exact ⟨rfl, rfl⟩
  · cases h
noncomputable def laws_eqAutomaton.O (k : Nat) : Oracle := (laws_eqIntS.tw.orc k (laws_eqStepS.tw.orc k noO))
def laws_eqAutomaton.fh : FH := ⟨fun i => match i with | _ => none, [], false⟩
set_option maxRecDepth 100000 in
theorem laws_eqAutomaton.ef (k : Nat) (a0_0 : Int) (l0_1 : List Int) (l0_2 : List Int) (l0_3 : List Stp) (a1_0 : Int) (l1_1 : List Int) (l1_2 : List Int) (l1_3 : List Stp) : R.start Try.prog xhn laws_eqAutomaton.O 0 Try.f19 laws_eqAutomaton.fh k [.agg [.int .i64 a0_0, .imm (.I .i64 l0_1), .imm (.I .i64 l0_2), .imm (.T l0_3)], .agg [.int .i64 a1_0, .imm (.I .i64 l1_1), .imm (.I .i64 l1_2), .imm (.T l1_3)]] [] = (if a0_0 = a1_0 then ((laws_eqIntS.f k l0_1 l1_1).bind fun t1 => (if t1 = true then ((laws_eqIntS.f k l0_2 l1_2).bind fun t2 => (if t2 = true then ((laws_eqStepS.f k l0_3 l1_3).bind fun t3 => (if t3 = true then (some (laws_eqAutomaton.en true)) else (some (laws_eqAutomaton.en false)))) else (some (laws_eqAutomaton.en false)))) else (some (laws_eqAutomaton.en false)))) else (some (laws_eqAutomaton.en false))) := by kernel_rfl
theorem laws_eqAutomaton.sf (k : Nat) (a0_0 : Int) (l0_1 : List Int) (l0_2 : List Int) (l0_3 : List Stp) (a1_0 : Int) (l1_1 : List Int) (l1_2 : List Int) (l1_3 : List Stp) : R.start Try.prog xhn laws_eqAutomaton.O 0 Try.f19 laws_eqAutomaton.fh k [.agg [.int .i64 a0_0, .imm (.I .i64 l0_1), .imm (.I .i64 l0_2), .imm (.T l0_3)], .agg [.int .i64 a1_0, .imm (.I .i64 l1_1), .imm (.I .i64 l1_2), .imm (.T l1_3)]] [] = (laws_eqAutomaton.f k a0_0 l0_1 l0_2 l0_3 a1_0 l1_1 l1_2 l1_3).map (laws_eqAutomaton.en) := by
  rw [laws_eqAutomaton.ef]
  simp only [laws_eqAutomaton.f, R.map_ite, R.map_bind, R.map_none, R.map_some, R.wr64_eq]
theorem laws_eqAutomaton.ok (k : Nat) : laws_eqAutomaton.tw.Ok Try.prog k := by
  intro md hmd a r h
  refine fn_ok (H := xhn) (fh := laws_eqAutomaton.fh) (O := laws_eqAutomaton.O) (k := k) Try.func19 (by kernel_rfl) (by kernel_rfl) (fun j _ => (Tw.orc_sound laws_eqIntS.dok (laws_eqIntS.ok j) (fun _ => rfl) (Tw.orc_sound laws_eqStepS.dok (laws_eqStepS.ok j) (fun _ => rfl) noO_sound))) (by kernel_rfl) (m := 0) rfl ?_
  refine (laws_eqAutomaton.sf k a.1 a.2.1 a.2.2.1 a.2.2.2.1 a.2.2.2.2.1 a.2.2.2.2.2.1 a.2.2.2.2.2.2.1 a.2.2.2.2.2.2.2).trans ?_
  exact congrArg (Option.map _) h
def laws_markIntS.l0 : Nat → (List Int) → Int → Int → Option (Int × (List Int))
  | 0, _, _, _ => none
  | k + 1, y0, x1, x5 => (if x5 < (y0.length : Int) then (if 0 ≤ x5 then (laws_markIntS.l0 k (y0.set x5.toNat x1) (wrap64 (x1 + 1)) (wrap64 (x5 + 1))) else none) else (some (x1, y0)))
def laws_markIntS.f (k : Nat) (l2 : List Int) (a1 : Int) : Option (Int × (List Int)) := (laws_markIntS.l0 k l2 a1 0)
def laws_markIntS.en (r : Int × (List Int)) : Res := (.int .i64 r.1, [.arr 3 0 (.I .i64 r.2) false])
def laws_markIntS.dec : List AV → List R.Obj → Option ((List Int) × Int)
  | [.sl 0 0, .int .i64 a1], [.arr 3 0 (.I .i64 l2) false] => some (l2, a1)
  | _, _ => none
def laws_markIntS.tw : Tw := ⟨35, (List Int) × Int, Int × (List Int), laws_markIntS.dec, fun a => [.sl 0 0, .int .i64 a.2], fun a => [.arr 3 0 (.I .i64 a.1) false], fun k a => laws_markIntS.f k a.1 a.2, fun a r => laws_markIntS.en r, true⟩
theorem laws_markIntS.dok : laws_markIntS.tw.DecOk := by
  intro args hc a h
  have h : laws_markIntS.dec args hc = some a := h
  unfold laws_markIntS.dec at h
  split at h
  · cases h; exact ⟨rfl, rfl⟩
  · cases h
noncomputable def laws_markIntS.O (k : Nat) : Oracle := noO
def laws_markIntS.fh : FH := ⟨fun i => match i with | 2 => some [(0, 0), (1, 0), (5, 0)] | _ => none, [], false⟩
noncomputable def laws_markIntS.x0 (k : Nat) (y0 : List Int) (x1 : Int) (x5 : Int) : Option Res := R.exec Try.prog xhn laws_markIntS.O 1 Try.f35 laws_markIntS.fh k (R.point Try.f35 2) ⟨[(0, .sl 0 0), (1, .int .i64 x1), (5, .int .i64 x5)], [(0, .arr 3 0 (.I .i64 y0) false)], 3⟩
set_option maxRecDepth 100000 in
theorem laws_markIntS.e0 (k : Nat) (y0 : List Int) (x1 : Int) (x5 : Int) : laws_markIntS.x0 (k + 1) y0 x1 x5 = (if x5 < (y0.length : Int) then (if 0 ≤ x5 then (laws_markIntS.x0 k (y0.set x5.toNat x1) (wr64 (x1 + 1)) (wr64 (x5 + 1))) else none) else (some (laws_markIntS.en (x1, y0)))) := by
  refine Eq.trans ?_ (R.icong (fun h0 => (R.icong (fun h1 => (R.idropT (p := x5 < (y0.length : Int)) (z := none) h0 rfl)) (fun h1 => rfl))) (fun h0 => rfl))
  kernel_rfl
set_option maxRecDepth 100000 in
theorem laws_markIntS.ef (k : Nat) (l2 : List Int) (a1 : Int) : R.start Try.prog xhn laws_markIntS.O 1 Try.f35 laws_markIntS.fh k [.sl 0 0, .int .i64 a1] [.arr 3 0 (.I .i64 l2) false] = (laws_markIntS.x0 k l2 a1 0) := by kernel_rfl
theorem laws_markIntS.link : ∀ k, (∀ (y0 : List Int) (x1 : Int) (x5 : Int), laws_markIntS.x0 k y0 x1 x5 = (laws_markIntS.l0 k y0 x1 x5).map (laws_markIntS.en))
  | 0 => fun _ _ _ => by simp only [laws_markIntS.l0, R.map_none]; rfl
  | k + 1 => by
    have ih0 := laws_markIntS.link k
    · intro y0 x1 x5
      rw [laws_markIntS.e0]
      simp only [laws_markIntS.l0, R.map_ite, R.map_bind, R.map_none, R.map_some, R.wr64_eq, ← ih0]
theorem laws_markIntS.sf (k : Nat) (l2 : List Int) (a1 : Int) : R.start Try.prog xhn laws_markIntS.O 1 Try.f35 laws_markIntS.fh k [.sl 0 0, .int .i64 a1] [.arr 3 0 (.I .i64 l2) false] = (laws_markIntS.f k l2 a1).map (laws_markIntS.en) := by
  have ih0 := laws_markIntS.link k
  rw [laws_markIntS.ef]
  simp only [laws_markIntS.f, R.map_ite, R.map_bind, R.map_none, R.map_some, R.wr64_eq, ← ih0]
theorem laws_markIntS.ok (k : Nat) : laws_markIntS.tw.Ok Try.prog k := by
  intro md hmd a r h
  refine fn_ok (H := xhn) (fh := laws_markIntS.fh) (O := laws_markIntS.O) (k := k) Try.func35 (by kernel_rfl) (by kernel_rfl) (fun j _ => noO_sound) (by kernel_rfl) (m := 1) rfl ?_
  refine (laws_markIntS.sf k a.1 a.2).trans ?_
  exact congrArg (Option.map _) h
def laws_markText.l0 : Nat → Int → ByteArray → Option (ByteArray)
  | 0, _, _ => none
  | k + 1, x0, x3 => (if x0 > 0 then (if (strOfNums [(((wrap64 (48 + (x0.tmod 10)))) % 256)]).size + x3.size ≤ 9223372036854775807 then (laws_markText.l0 k (wrap64 (x0.tdiv 10)) ((strOfNums [(((wrap64 (48 + (x0.tmod 10)))) % 256)]) ++ x3)) else none) else (if 1 + x3.size ≤ 9223372036854775807 then (some ((⟨#[109]⟩ : ByteArray) ++ x3)) else none))
def laws_markText.f (k : Nat) (a0 : Int) : Option (ByteArray) := (if a0 ≤ 0 then (some (⟨#[109, 48]⟩ : ByteArray)) else (laws_markText.l0 k a0 (⟨#[]⟩ : ByteArray)))
def laws_markText.en (r : ByteArray) : Res := (.str r, [])
def laws_markText.dec : List AV → List R.Obj → Option (Int)
  | [.int .i64 a0], [] => some a0
  | _, _ => none
def laws_markText.tw : Tw := ⟨119, Int, ByteArray, laws_markText.dec, fun a => [.int .i64 a], fun a => [], fun k a => laws_markText.f k a, fun a r => laws_markText.en r, true⟩
theorem laws_markText.dok : laws_markText.tw.DecOk := by
  intro args hc a h
  have h : laws_markText.dec args hc = some a := h
  unfold laws_markText.dec at h
  split at h
  · cases h; exact ⟨rfl, rfl⟩
  · cases h
noncomputable def laws_markText.O (k : Nat) : Oracle := noO
def laws_markText.fh : FH := ⟨fun i => match i with | 4 => some [(0, 0), (3, 0)] | _ => none, [], false⟩
noncomputable def laws_markText.x0 (k : Nat) (x0 : Int) (x3 : ByteArray) : Option Res := R.exec Try.prog xhn laws_markText.O 0 Try.f119 laws_markText.fh k (R.point Try.f119 4) ⟨[(0, .int .i64 x0), (3, .str x3)], [], 2⟩
set_option maxRecDepth 100000 in
theorem laws_markText.e0 (k : Nat) (x0 : Int) (x3 : ByteArray) : laws_markText.x0 (k + 1) x0 x3 = (if x0 > 0 then (if (strOfNums [(((wr64 (48 + (x0.tmod 10)))) % 256)]).size + x3.size ≤ 9223372036854775807 then (laws_markText.x0 k (wr64 (x0.tdiv 10)) ((strOfNums [(((wr64 (48 + (x0.tmod 10)))) % 256)]) ++ x3)) else none) else (if 1 + x3.size ≤ 9223372036854775807 then (some (laws_markText.en ((⟨#[109]⟩ : ByteArray) ++ x3))) else none)) := by kernel_rfl
set_option maxRecDepth 100000 in
theorem laws_markText.ef (k : Nat) (a0 : Int) : R.start Try.prog xhn laws_markText.O 0 Try.f119 laws_markText.fh k [.int .i64 a0] [] = (if a0 ≤ 0 then (some (laws_markText.en (⟨#[109, 48]⟩ : ByteArray))) else (laws_markText.x0 k a0 (⟨#[]⟩ : ByteArray))) := by kernel_rfl
theorem laws_markText.link : ∀ k, (∀ (x0 : Int) (x3 : ByteArray), laws_markText.x0 k x0 x3 = (laws_markText.l0 k x0 x3).map (laws_markText.en))
  | 0 => fun _ _ => by simp only [laws_markText.l0, R.map_none]; rfl
  | k + 1 => by
    have ih0 := laws_markText.link k
    · intro x0 x3
      rw [laws_markText.e0]
      simp only [laws_markText.l0, R.map_ite, R.map_bind, R.map_none, R.map_some, R.wr64_eq, ← ih0]
theorem laws_markText.sf (k : Nat) (a0 : Int) : R.start Try.prog xhn laws_markText.O 0 Try.f119 laws_markText.fh k [.int .i64 a0] [] = (laws_markText.f k a0).map (laws_markText.en) := by
  have ih0 := laws_markText.link k
  rw [laws_markText.ef]
  simp only [laws_markText.f, R.map_ite, R.map_bind, R.map_none, R.map_some, R.wr64_eq, ← ih0]
theorem laws_markText.ok (k : Nat) : laws_markText.tw.Ok Try.prog k := by
  intro md hmd a r h
  refine fn_ok (H := xhn) (fh := laws_markText.fh) (O := laws_markText.O) (k := k) Try.func119 (by kernel_rfl) (by kernel_rfl) (fun j _ => noO_sound) (by kernel_rfl) (m := 0) rfl ?_
  refine (laws_markText.sf k a).trans ?_
  exact congrArg (Option.map _) h
def laws_markStepS.l0 : Nat → (List Stp) → Int → Int → Option (Int × (List Stp))
  | 0, _, _, _ => none
  | k + 1, y0, x1, x5 => (if x5 < (y0.length : Int) then (if 0 ≤ x5 then ((laws_markText.f k (wrap64 (x1 + 1))).bind fun t1 => (if x5 < ((y0.set x5.toNat (⟨x1, (rdT y0 x5).f1, (rdT y0 x5).f2, (rdT y0 x5).f3⟩ : Stp)).length : Int) then (if x5 < (((y0.set x5.toNat (⟨x1, (rdT y0 x5).f1, (rdT y0 x5).f2, (rdT y0 x5).f3⟩ : Stp)).set x5.toNat (⟨(rdT (y0.set x5.toNat (⟨x1, (rdT y0 x5).f1, (rdT y0 x5).f2, (rdT y0 x5).f3⟩ : Stp)) x5).f0, t1, (rdT (y0.set x5.toNat (⟨x1, (rdT y0 x5).f1, (rdT y0 x5).f2, (rdT y0 x5).f3⟩ : Stp)) x5).f2, (rdT (y0.set x5.toNat (⟨x1, (rdT y0 x5).f1, (rdT y0 x5).f2, (rdT y0 x5).f3⟩ : Stp)) x5).f3⟩ : Stp)).length : Int) then (if x5 < ((((y0.set x5.toNat (⟨x1, (rdT y0 x5).f1, (rdT y0 x5).f2, (rdT y0 x5).f3⟩ : Stp)).set x5.toNat (⟨(rdT (y0.set x5.toNat (⟨x1, (rdT y0 x5).f1, (rdT y0 x5).f2, (rdT y0 x5).f3⟩ : Stp)) x5).f0, t1, (rdT (y0.set x5.toNat (⟨x1, (rdT y0 x5).f1, (rdT y0 x5).f2, (rdT y0 x5).f3⟩ : Stp)) x5).f2, (rdT (y0.set x5.toNat (⟨x1, (rdT y0 x5).f1, (rdT y0 x5).f2, (rdT y0 x5).f3⟩ : Stp)) x5).f3⟩ : Stp)).set x5.toNat (⟨(rdT ((y0.set x5.toNat (⟨x1, (rdT y0 x5).f1, (rdT y0 x5).f2, (rdT y0 x5).f3⟩ : Stp)).set x5.toNat (⟨(rdT (y0.set x5.toNat (⟨x1, (rdT y0 x5).f1, (rdT y0 x5).f2, (rdT y0 x5).f3⟩ : Stp)) x5).f0, t1, (rdT (y0.set x5.toNat (⟨x1, (rdT y0 x5).f1, (rdT y0 x5).f2, (rdT y0 x5).f3⟩ : Stp)) x5).f2, (rdT (y0.set x5.toNat (⟨x1, (rdT y0 x5).f1, (rdT y0 x5).f2, (rdT y0 x5).f3⟩ : Stp)) x5).f3⟩ : Stp)) x5).f0, (rdT ((y0.set x5.toNat (⟨x1, (rdT y0 x5).f1, (rdT y0 x5).f2, (rdT y0 x5).f3⟩ : Stp)).set x5.toNat (⟨(rdT (y0.set x5.toNat (⟨x1, (rdT y0 x5).f1, (rdT y0 x5).f2, (rdT y0 x5).f3⟩ : Stp)) x5).f0, t1, (rdT (y0.set x5.toNat (⟨x1, (rdT y0 x5).f1, (rdT y0 x5).f2, (rdT y0 x5).f3⟩ : Stp)) x5).f2, (rdT (y0.set x5.toNat (⟨x1, (rdT y0 x5).f1, (rdT y0 x5).f2, (rdT y0 x5).f3⟩ : Stp)) x5).f3⟩ : Stp)) x5).f1, (wrap64 ((wrap64 (x1 + 1)) + 1)), (rdT ((y0.set x5.toNat (⟨x1, (rdT y0 x5).f1, (rdT y0 x5).f2, (rdT y0 x5).f3⟩ : Stp)).set x5.toNat (⟨(rdT (y0.set x5.toNat (⟨x1, (rdT y0 x5).f1, (rdT y0 x5).f2, (rdT y0 x5).f3⟩ : Stp)) x5).f0, t1, (rdT (y0.set x5.toNat (⟨x1, (rdT y0 x5).f1, (rdT y0 x5).f2, (rdT y0 x5).f3⟩ : Stp)) x5).f2, (rdT (y0.set x5.toNat (⟨x1, (rdT y0 x5).f1, (rdT y0 x5).f2, (rdT y0 x5).f3⟩ : Stp)) x5).f3⟩ : Stp)) x5).f3⟩ : Stp)).length : Int) then (laws_markStepS.l0 k ((((y0.set x5.toNat (⟨x1, (rdT y0 x5).f1, (rdT y0 x5).f2, (rdT y0 x5).f3⟩ : Stp)).set x5.toNat (⟨(rdT (y0.set x5.toNat (⟨x1, (rdT y0 x5).f1, (rdT y0 x5).f2, (rdT y0 x5).f3⟩ : Stp)) x5).f0, t1, (rdT (y0.set x5.toNat (⟨x1, (rdT y0 x5).f1, (rdT y0 x5).f2, (rdT y0 x5).f3⟩ : Stp)) x5).f2, (rdT (y0.set x5.toNat (⟨x1, (rdT y0 x5).f1, (rdT y0 x5).f2, (rdT y0 x5).f3⟩ : Stp)) x5).f3⟩ : Stp)).set x5.toNat (⟨(rdT ((y0.set x5.toNat (⟨x1, (rdT y0 x5).f1, (rdT y0 x5).f2, (rdT y0 x5).f3⟩ : Stp)).set x5.toNat (⟨(rdT (y0.set x5.toNat (⟨x1, (rdT y0 x5).f1, (rdT y0 x5).f2, (rdT y0 x5).f3⟩ : Stp)) x5).f0, t1, (rdT (y0.set x5.toNat (⟨x1, (rdT y0 x5).f1, (rdT y0 x5).f2, (rdT y0 x5).f3⟩ : Stp)) x5).f2, (rdT (y0.set x5.toNat (⟨x1, (rdT y0 x5).f1, (rdT y0 x5).f2, (rdT y0 x5).f3⟩ : Stp)) x5).f3⟩ : Stp)) x5).f0, (rdT ((y0.set x5.toNat (⟨x1, (rdT y0 x5).f1, (rdT y0 x5).f2, (rdT y0 x5).f3⟩ : Stp)).set x5.toNat (⟨(rdT (y0.set x5.toNat (⟨x1, (rdT y0 x5).f1, (rdT y0 x5).f2, (rdT y0 x5).f3⟩ : Stp)) x5).f0, t1, (rdT (y0.set x5.toNat (⟨x1, (rdT y0 x5).f1, (rdT y0 x5).f2, (rdT y0 x5).f3⟩ : Stp)) x5).f2, (rdT (y0.set x5.toNat (⟨x1, (rdT y0 x5).f1, (rdT y0 x5).f2, (rdT y0 x5).f3⟩ : Stp)) x5).f3⟩ : Stp)) x5).f1, (wrap64 ((wrap64 (x1 + 1)) + 1)), (rdT ((y0.set x5.toNat (⟨x1, (rdT y0 x5).f1, (rdT y0 x5).f2, (rdT y0 x5).f3⟩ : Stp)).set x5.toNat (⟨(rdT (y0.set x5.toNat (⟨x1, (rdT y0 x5).f1, (rdT y0 x5).f2, (rdT y0 x5).f3⟩ : Stp)) x5).f0, t1, (rdT (y0.set x5.toNat (⟨x1, (rdT y0 x5).f1, (rdT y0 x5).f2, (rdT y0 x5).f3⟩ : Stp)) x5).f2, (rdT (y0.set x5.toNat (⟨x1, (rdT y0 x5).f1, (rdT y0 x5).f2, (rdT y0 x5).f3⟩ : Stp)) x5).f3⟩ : Stp)) x5).f3⟩ : Stp)).set x5.toNat (⟨(rdT (((y0.set x5.toNat (⟨x1, (rdT y0 x5).f1, (rdT y0 x5).f2, (rdT y0 x5).f3⟩ : Stp)).set x5.toNat (⟨(rdT (y0.set x5.toNat (⟨x1, (rdT y0 x5).f1, (rdT y0 x5).f2, (rdT y0 x5).f3⟩ : Stp)) x5).f0, t1, (rdT (y0.set x5.toNat (⟨x1, (rdT y0 x5).f1, (rdT y0 x5).f2, (rdT y0 x5).f3⟩ : Stp)) x5).f2, (rdT (y0.set x5.toNat (⟨x1, (rdT y0 x5).f1, (rdT y0 x5).f2, (rdT y0 x5).f3⟩ : Stp)) x5).f3⟩ : Stp)).set x5.toNat (⟨(rdT ((y0.set x5.toNat (⟨x1, (rdT y0 x5).f1, (rdT y0 x5).f2, (rdT y0 x5).f3⟩ : Stp)).set x5.toNat (⟨(rdT (y0.set x5.toNat (⟨x1, (rdT y0 x5).f1, (rdT y0 x5).f2, (rdT y0 x5).f3⟩ : Stp)) x5).f0, t1, (rdT (y0.set x5.toNat (⟨x1, (rdT y0 x5).f1, (rdT y0 x5).f2, (rdT y0 x5).f3⟩ : Stp)) x5).f2, (rdT (y0.set x5.toNat (⟨x1, (rdT y0 x5).f1, (rdT y0 x5).f2, (rdT y0 x5).f3⟩ : Stp)) x5).f3⟩ : Stp)) x5).f0, (rdT ((y0.set x5.toNat (⟨x1, (rdT y0 x5).f1, (rdT y0 x5).f2, (rdT y0 x5).f3⟩ : Stp)).set x5.toNat (⟨(rdT (y0.set x5.toNat (⟨x1, (rdT y0 x5).f1, (rdT y0 x5).f2, (rdT y0 x5).f3⟩ : Stp)) x5).f0, t1, (rdT (y0.set x5.toNat (⟨x1, (rdT y0 x5).f1, (rdT y0 x5).f2, (rdT y0 x5).f3⟩ : Stp)) x5).f2, (rdT (y0.set x5.toNat (⟨x1, (rdT y0 x5).f1, (rdT y0 x5).f2, (rdT y0 x5).f3⟩ : Stp)) x5).f3⟩ : Stp)) x5).f1, (wrap64 ((wrap64 (x1 + 1)) + 1)), (rdT ((y0.set x5.toNat (⟨x1, (rdT y0 x5).f1, (rdT y0 x5).f2, (rdT y0 x5).f3⟩ : Stp)).set x5.toNat (⟨(rdT (y0.set x5.toNat (⟨x1, (rdT y0 x5).f1, (rdT y0 x5).f2, (rdT y0 x5).f3⟩ : Stp)) x5).f0, t1, (rdT (y0.set x5.toNat (⟨x1, (rdT y0 x5).f1, (rdT y0 x5).f2, (rdT y0 x5).f3⟩ : Stp)) x5).f2, (rdT (y0.set x5.toNat (⟨x1, (rdT y0 x5).f1, (rdT y0 x5).f2, (rdT y0 x5).f3⟩ : Stp)) x5).f3⟩ : Stp)) x5).f3⟩ : Stp)) x5).f0, (rdT (((y0.set x5.toNat (⟨x1, (rdT y0 x5).f1, (rdT y0 x5).f2, (rdT y0 x5).f3⟩ : Stp)).set x5.toNat (⟨(rdT (y0.set x5.toNat (⟨x1, (rdT y0 x5).f1, (rdT y0 x5).f2, (rdT y0 x5).f3⟩ : Stp)) x5).f0, t1, (rdT (y0.set x5.toNat (⟨x1, (rdT y0 x5).f1, (rdT y0 x5).f2, (rdT y0 x5).f3⟩ : Stp)) x5).f2, (rdT (y0.set x5.toNat (⟨x1, (rdT y0 x5).f1, (rdT y0 x5).f2, (rdT y0 x5).f3⟩ : Stp)) x5).f3⟩ : Stp)).set x5.toNat (⟨(rdT ((y0.set x5.toNat (⟨x1, (rdT y0 x5).f1, (rdT y0 x5).f2, (rdT y0 x5).f3⟩ : Stp)).set x5.toNat (⟨(rdT (y0.set x5.toNat (⟨x1, (rdT y0 x5).f1, (rdT y0 x5).f2, (rdT y0 x5).f3⟩ : Stp)) x5).f0, t1, (rdT (y0.set x5.toNat (⟨x1, (rdT y0 x5).f1, (rdT y0 x5).f2, (rdT y0 x5).f3⟩ : Stp)) x5).f2, (rdT (y0.set x5.toNat (⟨x1, (rdT y0 x5).f1, (rdT y0 x5).f2, (rdT y0 x5).f3⟩ : Stp)) x5).f3⟩ : Stp)) x5).f0, (rdT ((y0.set x5.toNat (⟨x1, (rdT y0 x5).f1, (rdT y0 x5).f2, (rdT y0 x5).f3⟩ : Stp)).set x5.toNat (⟨(rdT (y0.set x5.toNat (⟨x1, (rdT y0 x5).f1, (rdT y0 x5).f2, (rdT y0 x5).f3⟩ : Stp)) x5).f0, t1, (rdT (y0.set x5.toNat (⟨x1, (rdT y0 x5).f1, (rdT y0 x5).f2, (rdT y0 x5).f3⟩ : Stp)) x5).f2, (rdT (y0.set x5.toNat (⟨x1, (rdT y0 x5).f1, (rdT y0 x5).f2, (rdT y0 x5).f3⟩ : Stp)) x5).f3⟩ : Stp)) x5).f1, (wrap64 ((wrap64 (x1 + 1)) + 1)), (rdT ((y0.set x5.toNat (⟨x1, (rdT y0 x5).f1, (rdT y0 x5).f2, (rdT y0 x5).f3⟩ : Stp)).set x5.toNat (⟨(rdT (y0.set x5.toNat (⟨x1, (rdT y0 x5).f1, (rdT y0 x5).f2, (rdT y0 x5).f3⟩ : Stp)) x5).f0, t1, (rdT (y0.set x5.toNat (⟨x1, (rdT y0 x5).f1, (rdT y0 x5).f2, (rdT y0 x5).f3⟩ : Stp)) x5).f2, (rdT (y0.set x5.toNat (⟨x1, (rdT y0 x5).f1, (rdT y0 x5).f2, (rdT y0 x5).f3⟩ : Stp)) x5).f3⟩ : Stp)) x5).f3⟩ : Stp)) x5).f1, (rdT (((y0.set x5.toNat (⟨x1, (rdT y0 x5).f1, (rdT y0 x5).f2, (rdT y0 x5).f3⟩ : Stp)).set x5.toNat (⟨(rdT (y0.set x5.toNat (⟨x1, (rdT y0 x5).f1, (rdT y0 x5).f2, (rdT y0 x5).f3⟩ : Stp)) x5).f0, t1, (rdT (y0.set x5.toNat (⟨x1, (rdT y0 x5).f1, (rdT y0 x5).f2, (rdT y0 x5).f3⟩ : Stp)) x5).f2, (rdT (y0.set x5.toNat (⟨x1, (rdT y0 x5).f1, (rdT y0 x5).f2, (rdT y0 x5).f3⟩ : Stp)) x5).f3⟩ : Stp)).set x5.toNat (⟨(rdT ((y0.set x5.toNat (⟨x1, (rdT y0 x5).f1, (rdT y0 x5).f2, (rdT y0 x5).f3⟩ : Stp)).set x5.toNat (⟨(rdT (y0.set x5.toNat (⟨x1, (rdT y0 x5).f1, (rdT y0 x5).f2, (rdT y0 x5).f3⟩ : Stp)) x5).f0, t1, (rdT (y0.set x5.toNat (⟨x1, (rdT y0 x5).f1, (rdT y0 x5).f2, (rdT y0 x5).f3⟩ : Stp)) x5).f2, (rdT (y0.set x5.toNat (⟨x1, (rdT y0 x5).f1, (rdT y0 x5).f2, (rdT y0 x5).f3⟩ : Stp)) x5).f3⟩ : Stp)) x5).f0, (rdT ((y0.set x5.toNat (⟨x1, (rdT y0 x5).f1, (rdT y0 x5).f2, (rdT y0 x5).f3⟩ : Stp)).set x5.toNat (⟨(rdT (y0.set x5.toNat (⟨x1, (rdT y0 x5).f1, (rdT y0 x5).f2, (rdT y0 x5).f3⟩ : Stp)) x5).f0, t1, (rdT (y0.set x5.toNat (⟨x1, (rdT y0 x5).f1, (rdT y0 x5).f2, (rdT y0 x5).f3⟩ : Stp)) x5).f2, (rdT (y0.set x5.toNat (⟨x1, (rdT y0 x5).f1, (rdT y0 x5).f2, (rdT y0 x5).f3⟩ : Stp)) x5).f3⟩ : Stp)) x5).f1, (wrap64 ((wrap64 (x1 + 1)) + 1)), (rdT ((y0.set x5.toNat (⟨x1, (rdT y0 x5).f1, (rdT y0 x5).f2, (rdT y0 x5).f3⟩ : Stp)).set x5.toNat (⟨(rdT (y0.set x5.toNat (⟨x1, (rdT y0 x5).f1, (rdT y0 x5).f2, (rdT y0 x5).f3⟩ : Stp)) x5).f0, t1, (rdT (y0.set x5.toNat (⟨x1, (rdT y0 x5).f1, (rdT y0 x5).f2, (rdT y0 x5).f3⟩ : Stp)) x5).f2, (rdT (y0.set x5.toNat (⟨x1, (rdT y0 x5).f1, (rdT y0 x5).f2, (rdT y0 x5).f3⟩ : Stp)) x5).f3⟩ : Stp)) x5).f3⟩ : Stp)) x5).f2, (wrap64 ((wrap64 ((wrap64 (x1 + 1)) + 1)) + 1))⟩ : Stp)) (wrap64 ((wrap64 ((wrap64 ((wrap64 (x1 + 1)) + 1)) + 1)) + 1)) (wrap64 (x5 + 1))) else none) else none) else none)) else none) else (some (x1, y0)))
def laws_markStepS.f (k : Nat) (l2 : List Stp) (a1 : Int) : Option (Int × (List Stp)) := (laws_markStepS.l0 k l2 a1 0)
def laws_markStepS.en (r : Int × (List Stp)) : Res := (.int .i64 r.1, [.arr 67 0 (.T r.2) false])
def laws_markStepS.dec : List AV → List R.Obj → Option ((List Stp) × Int)
  | [.sl 0 0, .int .i64 a1], [.arr 67 0 (.T l2) false] => some (l2, a1)
  | _, _ => none
def laws_markStepS.tw : Tw := ⟨67, (List Stp) × Int, Int × (List Stp), laws_markStepS.dec, fun a => [.sl 0 0, .int .i64 a.2], fun a => [.arr 67 0 (.T a.1) false], fun k a => laws_markStepS.f k a.1 a.2, fun a r => laws_markStepS.en r, true⟩
theorem laws_markStepS.dok : laws_markStepS.tw.DecOk := by
  intro args hc a h
  have h : laws_markStepS.dec args hc = some a := h
  unfold laws_markStepS.dec at h
  split at h
  · cases h; exact ⟨rfl, rfl⟩
  · cases h
noncomputable def laws_markStepS.O (k : Nat) : Oracle := (laws_markText.tw.orc k noO)
def laws_markStepS.fh : FH := ⟨fun i => match i with | 2 => some [(0, 0), (1, 0), (5, 0)] | _ => none, [], false⟩
noncomputable def laws_markStepS.x0 (k : Nat) (y0 : List Stp) (x1 : Int) (x5 : Int) : Option Res := R.exec Try.prog xhn laws_markStepS.O 1 Try.f67 laws_markStepS.fh k (R.point Try.f67 2) ⟨[(0, .sl 0 0), (1, .int .i64 x1), (5, .int .i64 x5)], [(0, .arr 67 0 (.T y0) false)], 3⟩
set_option maxRecDepth 100000 in
theorem laws_markStepS.e0 (k : Nat) (y0 : List Stp) (x1 : Int) (x5 : Int) : laws_markStepS.x0 (k + 1) y0 x1 x5 = (if x5 < (y0.length : Int) then (if 0 ≤ x5 then ((laws_markText.f k (wr64 (x1 + 1))).bind fun t1 => (if x5 < ((y0.set x5.toNat (⟨x1, (rdT y0 x5).f1, (rdT y0 x5).f2, (rdT y0 x5).f3⟩ : Stp)).length : Int) then (if x5 < (((y0.set x5.toNat (⟨x1, (rdT y0 x5).f1, (rdT y0 x5).f2, (rdT y0 x5).f3⟩ : Stp)).set x5.toNat (⟨(rdT (y0.set x5.toNat (⟨x1, (rdT y0 x5).f1, (rdT y0 x5).f2, (rdT y0 x5).f3⟩ : Stp)) x5).f0, t1, (rdT (y0.set x5.toNat (⟨x1, (rdT y0 x5).f1, (rdT y0 x5).f2, (rdT y0 x5).f3⟩ : Stp)) x5).f2, (rdT (y0.set x5.toNat (⟨x1, (rdT y0 x5).f1, (rdT y0 x5).f2, (rdT y0 x5).f3⟩ : Stp)) x5).f3⟩ : Stp)).length : Int) then (if x5 < ((((y0.set x5.toNat (⟨x1, (rdT y0 x5).f1, (rdT y0 x5).f2, (rdT y0 x5).f3⟩ : Stp)).set x5.toNat (⟨(rdT (y0.set x5.toNat (⟨x1, (rdT y0 x5).f1, (rdT y0 x5).f2, (rdT y0 x5).f3⟩ : Stp)) x5).f0, t1, (rdT (y0.set x5.toNat (⟨x1, (rdT y0 x5).f1, (rdT y0 x5).f2, (rdT y0 x5).f3⟩ : Stp)) x5).f2, (rdT (y0.set x5.toNat (⟨x1, (rdT y0 x5).f1, (rdT y0 x5).f2, (rdT y0 x5).f3⟩ : Stp)) x5).f3⟩ : Stp)).set x5.toNat (⟨(rdT ((y0.set x5.toNat (⟨x1, (rdT y0 x5).f1, (rdT y0 x5).f2, (rdT y0 x5).f3⟩ : Stp)).set x5.toNat (⟨(rdT (y0.set x5.toNat (⟨x1, (rdT y0 x5).f1, (rdT y0 x5).f2, (rdT y0 x5).f3⟩ : Stp)) x5).f0, t1, (rdT (y0.set x5.toNat (⟨x1, (rdT y0 x5).f1, (rdT y0 x5).f2, (rdT y0 x5).f3⟩ : Stp)) x5).f2, (rdT (y0.set x5.toNat (⟨x1, (rdT y0 x5).f1, (rdT y0 x5).f2, (rdT y0 x5).f3⟩ : Stp)) x5).f3⟩ : Stp)) x5).f0, (rdT ((y0.set x5.toNat (⟨x1, (rdT y0 x5).f1, (rdT y0 x5).f2, (rdT y0 x5).f3⟩ : Stp)).set x5.toNat (⟨(rdT (y0.set x5.toNat (⟨x1, (rdT y0 x5).f1, (rdT y0 x5).f2, (rdT y0 x5).f3⟩ : Stp)) x5).f0, t1, (rdT (y0.set x5.toNat (⟨x1, (rdT y0 x5).f1, (rdT y0 x5).f2, (rdT y0 x5).f3⟩ : Stp)) x5).f2, (rdT (y0.set x5.toNat (⟨x1, (rdT y0 x5).f1, (rdT y0 x5).f2, (rdT y0 x5).f3⟩ : Stp)) x5).f3⟩ : Stp)) x5).f1, (wr64 ((wr64 (x1 + 1)) + 1)), (rdT ((y0.set x5.toNat (⟨x1, (rdT y0 x5).f1, (rdT y0 x5).f2, (rdT y0 x5).f3⟩ : Stp)).set x5.toNat (⟨(rdT (y0.set x5.toNat (⟨x1, (rdT y0 x5).f1, (rdT y0 x5).f2, (rdT y0 x5).f3⟩ : Stp)) x5).f0, t1, (rdT (y0.set x5.toNat (⟨x1, (rdT y0 x5).f1, (rdT y0 x5).f2, (rdT y0 x5).f3⟩ : Stp)) x5).f2, (rdT (y0.set x5.toNat (⟨x1, (rdT y0 x5).f1, (rdT y0 x5).f2, (rdT y0 x5).f3⟩ : Stp)) x5).f3⟩ : Stp)) x5).f3⟩ : Stp)).length : Int) then (laws_markStepS.x0 k ((((y0.set x5.toNat (⟨x1, (rdT y0 x5).f1, (rdT y0 x5).f2, (rdT y0 x5).f3⟩ : Stp)).set x5.toNat (⟨(rdT (y0.set x5.toNat (⟨x1, (rdT y0 x5).f1, (rdT y0 x5).f2, (rdT y0 x5).f3⟩ : Stp)) x5).f0, t1, (rdT (y0.set x5.toNat (⟨x1, (rdT y0 x5).f1, (rdT y0 x5).f2, (rdT y0 x5).f3⟩ : Stp)) x5).f2, (rdT (y0.set x5.toNat (⟨x1, (rdT y0 x5).f1, (rdT y0 x5).f2, (rdT y0 x5).f3⟩ : Stp)) x5).f3⟩ : Stp)).set x5.toNat (⟨(rdT ((y0.set x5.toNat (⟨x1, (rdT y0 x5).f1, (rdT y0 x5).f2, (rdT y0 x5).f3⟩ : Stp)).set x5.toNat (⟨(rdT (y0.set x5.toNat (⟨x1, (rdT y0 x5).f1, (rdT y0 x5).f2, (rdT y0 x5).f3⟩ : Stp)) x5).f0, t1, (rdT (y0.set x5.toNat (⟨x1, (rdT y0 x5).f1, (rdT y0 x5).f2, (rdT y0 x5).f3⟩ : Stp)) x5).f2, (rdT (y0.set x5.toNat (⟨x1, (rdT y0 x5).f1, (rdT y0 x5).f2, (rdT y0 x5).f3⟩ : Stp)) x5).f3⟩ : Stp)) x5).f0, (rdT ((y0.set x5.toNat (⟨x1, (rdT y0 x5).f1, (rdT y0 x5).f2, (rdT y0 x5).f3⟩ : Stp)).set x5.toNat (⟨(rdT (y0.set x5.toNat (⟨x1, (rdT y0 x5).f1, (rdT y0 x5).f2, (rdT y0 x5).f3⟩ : Stp)) x5).f0, t1, (rdT (y0.set x5.toNat (⟨x1, (rdT y0 x5).f1, (rdT y0 x5).f2, (rdT y0 x5).f3⟩ : Stp)) x5).f2, (rdT (y0.set x5.toNat (⟨x1, (rdT y0 x5).f1, (rdT y0 x5).f2, (rdT y0 x5).f3⟩ : Stp)) x5).f3⟩ : Stp)) x5).f1, (wr64 ((wr64 (x1 + 1)) + 1)), (rdT ((y0.set x5.toNat (⟨x1, (rdT y0 x5).f1, (rdT y0 x5).f2, (rdT y0 x5).f3⟩ : Stp)).set x5.toNat (⟨(rdT (y0.set x5.toNat (⟨x1, (rdT y0 x5).f1, (rdT y0 x5).f2, (rdT y0 x5).f3⟩ : Stp)) x5).f0, t1, (rdT (y0.set x5.toNat (⟨x1, (rdT y0 x5).f1, (rdT y0 x5).f2, (rdT y0 x5).f3⟩ : Stp)) x5).f2, (rdT (y0.set x5.toNat (⟨x1, (rdT y0 x5).f1, (rdT y0 x5).f2, (rdT y0 x5).f3⟩ : Stp)) x5).f3⟩ : Stp)) x5).f3⟩ : Stp)).set x5.toNat (⟨(rdT (((y0.set x5.toNat (⟨x1, (rdT y0 x5).f1, (rdT y0 x5).f2, (rdT y0 x5).f3⟩ : Stp)).set x5.toNat (⟨(rdT (y0.set x5.toNat (⟨x1, (rdT y0 x5).f1, (rdT y0 x5).f2, (rdT y0 x5).f3⟩ : Stp)) x5).f0, t1, (rdT (y0.set x5.toNat (⟨x1, (rdT y0 x5).f1, (rdT y0 x5).f2, (rdT y0 x5).f3⟩ : Stp)) x5).f2, (rdT (y0.set x5.toNat (⟨x1, (rdT y0 x5).f1, (rdT y0 x5).f2, (rdT y0 x5).f3⟩ : Stp)) x5).f3⟩ : Stp)).set x5.toNat (⟨(rdT ((y0.set x5.toNat (⟨x1, (rdT y0 x5).f1, (rdT y0 x5).f2, (rdT y0 x5).f3⟩ : Stp)).set x5.toNat (⟨(rdT (y0.set x5.toNat (⟨x1, (rdT y0 x5).f1, (rdT y0 x5).f2, (rdT y0 x5).f3⟩ : Stp)) x5).f0, t1, (rdT (y0.set x5.toNat (⟨x1, (rdT y0 x5).f1, (rdT y0 x5).f2, (rdT y0 x5).f3⟩ : Stp)) x5).f2, (rdT (y0.set x5.toNat (⟨x1, (rdT y0 x5).f1, (rdT y0 x5).f2, (rdT y0 x5).f3⟩ : Stp)) x5).f3⟩ : Stp)) x5).f0, (rdT ((y0.set x5.toNat (⟨x1, (rdT y0 x5).f1, (rdT y0 x5).f2, (rdT y0 x5).f3⟩ : Stp)).set x5.toNat (⟨(rdT (y0.set x5.toNat (⟨x1, (rdT y0 x5).f1, (rdT y0 x5).f2, (rdT y0 x5).f3⟩ : Stp)) x5).f0, t1, (rdT (y0.set x5.toNat (⟨x1, (rdT y0 x5).f1, (rdT y0 x5).f2, (rdT y0 x5).f3⟩ : Stp)) x5).f2, (rdT (y0.set x5.toNat (⟨x1, (rdT y0 x5).f1, (rdT y0 x5).f2, (rdT y0 x5).f3⟩ : Stp)) x5).f3⟩ : Stp)) x5).f1, (wr64 ((wr64 (x1 + 1)) + 1)), (rdT ((y0.set x5.toNat (⟨x1, (rdT y0 x5).f1, (rdT y0 x5).f2, (rdT y0 x5).f3⟩ : Stp)).set x5.toNat (⟨(rdT (y0.set x5.toNat (⟨x1, (rdT y0 x5).f1, (rdT y0 x5).f2, (rdT y0 x5).f3⟩ : Stp)) x5).f0, t1, (rdT (y0.set x5.toNat (⟨x1, (rdT y0 x5).f1, (rdT y0 x5).f2, (rdT y0 x5).f3⟩ : Stp)) x5).f2, (rdT (y0.set x5.toNat (⟨x1, (rdT y0 x5).f1, (rdT y0 x5).f2, (rdT y0 x5).f3⟩ : Stp)) x5).f3⟩ : Stp)) x5).f3⟩ : Stp)) x5).f0, (rdT (((y0.set x5.toNat (⟨x1, (rdT y0 x5).f1, (rdT y0 x5).f2, (rdT y0 x5).f3⟩ : Stp)).set x5.toNat (⟨(rdT (y0.set x5.toNat (⟨x1, (rdT y0 x5).f1, (rdT y0 x5).f2, (rdT y0 x5).f3⟩ : Stp)) x5).f0, t1, (rdT (y0.set x5.toNat (⟨x1, (rdT y0 x5).f1, (rdT y0 x5).f2, (rdT y0 x5).f3⟩ : Stp)) x5).f2, (rdT (y0.set x5.toNat (⟨x1, (rdT y0 x5).f1, (rdT y0 x5).f2, (rdT y0 x5).f3⟩ : Stp)) x5).f3⟩ : Stp)).set x5.toNat (⟨(rdT ((y0.set x5.toNat (⟨x1, (rdT y0 x5).f1, (rdT y0 x5).f2, (rdT y0 x5).f3⟩ : Stp)).set x5.toNat (⟨(rdT (y0.set x5.toNat (⟨x1, (rdT y0 x5).f1, (rdT y0 x5).f2, (rdT y0 x5).f3⟩ : Stp)) x5).f0, t1, (rdT (y0.set x5.toNat (⟨x1, (rdT y0 x5).f1, (rdT y0 x5).f2, (rdT y0 x5).f3⟩ : Stp)) x5).f2, (rdT (y0.set x5.toNat (⟨x1, (rdT y0 x5).f1, (rdT y0 x5).f2, (rdT y0 x5).f3⟩ : Stp)) x5).f3⟩ : Stp)) x5).f0, (rdT ((y0.set x5.toNat (⟨x1, (rdT y0 x5).f1, (rdT y0 x5).f2, (rdT y0 x5).f3⟩ : Stp)).set x5.toNat (⟨(rdT (y0.set x5.toNat (⟨x1, (rdT y0 x5).f1, (rdT y0 x5).f2, (rdT y0 x5).f3⟩ : Stp)) x5).f0, t1, (rdT (y0.set x5.toNat (⟨x1, (rdT y0 x5).f1, (rdT y0 x5).f2, (rdT y0 x5).f3⟩ : Stp)) x5).f2, (rdT (y0.set x5.toNat (⟨x1, (rdT y0 x5).f1, (rdT y0 x5).f2, (rdT y0 x5).f3⟩ : Stp)) x5).f3⟩ : Stp)) x5).f1, (wr64 ((wr64 (x1 + 1)) + 1)), (rdT ((y0.set x5.toNat (⟨x1, (rdT y0 x5).f1, (rdT y0 x5).f2, (rdT y0 x5).f3⟩ : Stp)).set x5.toNat (⟨(rdT (y0.set x5.toNat (⟨x1, (rdT y0 x5).f1, (rdT y0 x5).f2, (rdT y0 x5).f3⟩ : Stp)) x5).f0, t1, (rdT (y0.set x5.toNat (⟨x1, (rdT y0 x5).f1, (rdT y0 x5).f2, (rdT y0 x5).f3⟩ : Stp)) x5).f2, (rdT (y0.set x5.toNat (⟨x1, (rdT y0 x5).f1, (rdT y0 x5).f2, (rdT y0 x5).f3⟩ : Stp)) x5).f3⟩ : Stp)) x5).f3⟩ : Stp)) x5).f1, (rdT (((y0.set x5.toNat (⟨x1, (rdT y0 x5).f1, (rdT y0 x5).f2, (rdT y0 x5).f3⟩ : Stp)).set x5.toNat (⟨(rdT (y0.set x5.toNat (⟨x1, (rdT y0 x5).f1, (rdT y0 x5).f2, (rdT y0 x5).f3⟩ : Stp)) x5).f0, t1, (rdT (y0.set x5.toNat (⟨x1, (rdT y0 x5).f1, (rdT y0 x5).f2, (rdT y0 x5).f3⟩ : Stp)) x5).f2, (rdT (y0.set x5.toNat (⟨x1, (rdT y0 x5).f1, (rdT y0 x5).f2, (rdT y0 x5).f3⟩ : Stp)) x5).f3⟩ : Stp)).set x5.toNat (⟨(rdT ((y0.set x5.toNat (⟨x1, (rdT y0 x5).f1, (rdT y0 x5).f2, (rdT y0 x5).f3⟩ : Stp)).set x5.toNat (⟨(rdT (y0.set x5.toNat (⟨x1, (rdT y0 x5).f1, (rdT y0 x5).f2, (rdT y0 x5).f3⟩ : Stp)) x5).f0, t1, (rdT (y0.set x5.toNat (⟨x1, (rdT y0 x5).f1, (rdT y0 x5).f2, (rdT y0 x5).f3⟩ : Stp)) x5).f2, (rdT (y0.set x5.toNat (⟨x1, (rdT y0 x5).f1, (rdT y0 x5).f2, (rdT y0 x5).f3⟩ : Stp)) x5).f3⟩ : Stp)) x5).f0, (rdT ((y0.set x5.toNat (⟨x1, (rdT y0 x5).f1, (rdT y0 x5).f2, (rdT y0 x5).f3⟩ : Stp)).set x5.toNat (⟨(rdT (y0.set x5.toNat (⟨x1, (rdT y0 x5).f1, (rdT y0 x5).f2, (rdT y0 x5).f3⟩ : Stp)) x5).f0, t1, (rdT (y0.set x5.toNat (⟨x1, (rdT y0 x5).f1, (rdT y0 x5).f2, (rdT y0 x5).f3⟩ : Stp)) x5).f2, (rdT (y0.set x5.toNat (⟨x1, (rdT y0 x5).f1, (rdT y0 x5).f2, (rdT y0 x5).f3⟩ : Stp)) x5).f3⟩ : Stp)) x5).f1, (wr64 ((wr64 (x1 + 1)) + 1)), (rdT ((y0.set x5.toNat (⟨x1, (rdT y0 x5).f1, (rdT y0 x5).f2, (rdT y0 x5).f3⟩ : Stp)).set x5.toNat (⟨(rdT (y0.set x5.toNat (⟨x1, (rdT y0 x5).f1, (rdT y0 x5).f2, (rdT y0 x5).f3⟩ : Stp)) x5).f0, t1, (rdT (y0.set x5.toNat (⟨x1, (rdT y0 x5).f1, (rdT y0 x5).f2, (rdT y0 x5).f3⟩ : Stp)) x5).f2, (rdT (y0.set x5.toNat (⟨x1, (rdT y0 x5).f1, (rdT y0 x5).f2, (rdT y0 x5).f3⟩ : Stp)) x5).f3⟩ : Stp)) x5).f3⟩ : Stp)) x5).f2, (wr64 ((wr64 ((wr64 (x1 + 1)) + 1)) + 1))⟩ : Stp)) (wr64 ((wr64 ((wr64 ((wr64 (x1 + 1)) + 1)) + 1)) + 1)) (wr64 (x5 + 1))) else none) else none) else none)) else none) else (some (laws_markStepS.en (x1, y0)))) := by
  refine Eq.trans ?_ (R.icong (fun h0 => (R.icong (fun h1 => (R.idropT (p := x5 < (y0.length : Int)) (z := none) h0 (R.bcong fun t1 => (R.idropT (p := 0 ≤ x5) (z := none) h1 (R.icong (fun h2 => (R.idropT (p := 0 ≤ x5) (z := none) h1 (R.icong (fun h3 => (R.idropT (p := 0 ≤ x5) (z := none) h1 rfl)) (fun h3 => rfl)))) (fun h2 => rfl)))))) (fun h1 => rfl))) (fun h0 => rfl))
  kernel_rfl
set_option maxRecDepth 100000 in
theorem laws_markStepS.ef (k : Nat) (l2 : List Stp) (a1 : Int) : R.start Try.prog xhn laws_markStepS.O 1 Try.f67 laws_markStepS.fh k [.sl 0 0, .int .i64 a1] [.arr 67 0 (.T l2) false] = (laws_markStepS.x0 k l2 a1 0) := by kernel_rfl
theorem laws_markStepS.link : ∀ k, (∀ (y0 : List Stp) (x1 : Int) (x5 : Int), laws_markStepS.x0 k y0 x1 x5 = (laws_markStepS.l0 k y0 x1 x5).map (laws_markStepS.en))
  | 0 => fun _ _ _ => by simp only [laws_markStepS.l0, R.map_none]; rfl
  | k + 1 => by
    have ih0 := laws_markStepS.link k
    · intro y0 x1 x5
      rw [laws_markStepS.e0]
      simp only [laws_markStepS.l0, R.map_ite, R.map_bind, R.map_none, R.map_some, R.wr64_eq, ← ih0]
theorem laws_markStepS.sf (k : Nat) (l2 : List Stp) (a1 : Int) : R.start Try.prog xhn laws_markStepS.O 1 Try.f67 laws_markStepS.fh k [.sl 0 0, .int .i64 a1] [.arr 67 0 (.T l2) false] = (laws_markStepS.f k l2 a1).map (laws_markStepS.en) := by
  have ih0 := laws_markStepS.link k
  rw [laws_markStepS.ef]
  simp only [laws_markStepS.f, R.map_ite, R.map_bind, R.map_none, R.map_some, R.wr64_eq, ← ih0]
theorem laws_markStepS.ok (k : Nat) : laws_markStepS.tw.Ok Try.prog k := by
  intro md hmd a r h
  refine fn_ok (H := xhn) (fh := laws_markStepS.fh) (O := laws_markStepS.O) (k := k) Try.func67 (by kernel_rfl) (by kernel_rfl) (fun j _ => (Tw.orc_sound laws_markText.dok (laws_markText.ok j) (fun _ => rfl) noO_sound)) (by kernel_rfl) (m := 1) rfl ?_
  refine (laws_markStepS.sf k a.1 a.2).trans ?_
  exact congrArg (Option.map _) h
def laws_markAutomaton.f (k : Nat) (a0_0 : Int) (l2 : List Int) (l3 : List Int) (l4 : List Stp) (a1 : Int) : Option (Int × (List Int) × (List Int) × (List Stp)) := ((laws_markIntS.f k l2 a1).bind fun t1 => ((laws_markIntS.f k l3 t1.1).bind fun t2 => ((laws_markStepS.f k l4 t2.1).bind fun t3 => (some (t3.1, t1.2, t2.2, t3.2)))))
def laws_markAutomaton.en (r : Int × (List Int) × (List Int) × (List Stp)) : Res := (.int .i64 r.1, [.arr 3 0 (.I .i64 r.2.1) false, .arr 3 0 (.I .i64 r.2.2.1) false, .arr 67 0 (.T r.2.2.2) false])
def laws_markAutomaton.dec : List AV → List R.Obj → Option (Int × (List Int) × (List Int) × (List Stp) × Int)
  | [.agg [.int .i64 a0_0, .sl 0 0, .sl 1 0, .sl 2 0], .int .i64 a1], [.arr 3 0 (.I .i64 l2) false, .arr 3 0 (.I .i64 l3) false, .arr 67 0 (.T l4) false] => some (a0_0, l2, l3, l4, a1)
  | _, _ => none
def laws_markAutomaton.tw : Tw := ⟨20, Int × (List Int) × (List Int) × (List Stp) × Int, Int × (List Int) × (List Int) × (List Stp), laws_markAutomaton.dec, fun a => [.agg [.int .i64 a.1, .sl 0 0, .sl 1 0, .sl 2 0], .int .i64 a.2.2.2.2], fun a => [.arr 3 0 (.I .i64 a.2.1) false, .arr 3 0 (.I .i64 a.2.2.1) false, .arr 67 0 (.T a.2.2.2.1) false], fun k a => laws_markAutomaton.f k a.1 a.2.1 a.2.2.1 a.2.2.2.1 a.2.2.2.2, fun a r => laws_markAutomaton.en r, true⟩
theorem laws_markAutomaton.dok : laws_markAutomaton.tw.DecOk := by
  intro args hc a h
  have h : laws_markAutomaton.dec args hc = some a := h
  unfold laws_markAutomaton.dec at h
  split at h
  · cases h; exact ⟨rfl, rfl⟩
  · cases h
noncomputable def laws_markAutomaton.O (k : Nat) : Oracle := (laws_markIntS.tw.orc k (laws_markStepS.tw.orc k noO))
def laws_markAutomaton.fh : FH := ⟨fun i => match i with | _ => none, [], false⟩
set_option maxRecDepth 100000 in
theorem laws_markAutomaton.ef (k : Nat) (a0_0 : Int) (l2 : List Int) (l3 : List Int) (l4 : List Stp) (a1 : Int) : R.start Try.prog xhn laws_markAutomaton.O 3 Try.f20 laws_markAutomaton.fh k [.agg [.int .i64 a0_0, .sl 0 0, .sl 1 0, .sl 2 0], .int .i64 a1] [.arr 3 0 (.I .i64 l2) false, .arr 3 0 (.I .i64 l3) false, .arr 67 0 (.T l4) false] = ((laws_markIntS.f k l2 a1).bind fun t1 => ((laws_markIntS.f k l3 t1.1).bind fun t2 => ((laws_markStepS.f k l4 t2.1).bind fun t3 => (some (laws_markAutomaton.en (t3.1, t1.2, t2.2, t3.2)))))) := by kernel_rfl
theorem laws_markAutomaton.sf (k : Nat) (a0_0 : Int) (l2 : List Int) (l3 : List Int) (l4 : List Stp) (a1 : Int) : R.start Try.prog xhn laws_markAutomaton.O 3 Try.f20 laws_markAutomaton.fh k [.agg [.int .i64 a0_0, .sl 0 0, .sl 1 0, .sl 2 0], .int .i64 a1] [.arr 3 0 (.I .i64 l2) false, .arr 3 0 (.I .i64 l3) false, .arr 67 0 (.T l4) false] = (laws_markAutomaton.f k a0_0 l2 l3 l4 a1).map (laws_markAutomaton.en) := by
  rw [laws_markAutomaton.ef]
  simp only [laws_markAutomaton.f, R.map_ite, R.map_bind, R.map_none, R.map_some, R.wr64_eq]
theorem laws_markAutomaton.ok (k : Nat) : laws_markAutomaton.tw.Ok Try.prog k := by
  intro md hmd a r h
  refine fn_ok (H := xhn) (fh := laws_markAutomaton.fh) (O := laws_markAutomaton.O) (k := k) Try.func20 (by kernel_rfl) (by kernel_rfl) (fun j _ => (Tw.orc_sound laws_markIntS.dok (laws_markIntS.ok j) (fun _ => rfl) (Tw.orc_sound laws_markStepS.dok (laws_markStepS.ok j) (fun _ => rfl) noO_sound))) (by kernel_rfl) (m := 3) rfl ?_
  refine (laws_markAutomaton.sf k a.1 a.2.1 a.2.2.1 a.2.2.2.1 a.2.2.2.2).trans ?_
  exact congrArg (Option.map _) h
def laws_heldIntS.l0 : Nat → (List Int) → Int → Int → Option (Int)
  | 0, _, _, _ => none
  | k + 1, x0, x1, x5 => (if x5 < (x0.length : Int) then (if 0 ≤ x5 then (if (rdI x0 x5) = x1 then (laws_heldIntS.l0 k x0 (wrap64 (x1 + 1)) (wrap64 (x5 + 1))) else (some (-1))) else none) else (some x1))
def laws_heldIntS.f (k : Nat) (l0 : List Int) (a1 : Int) : Option (Int) := (laws_heldIntS.l0 k l0 a1 0)
def laws_heldIntS.en (r : Int) : Res := (.int .i64 r, [])
def laws_heldIntS.dec : List AV → List R.Obj → Option ((List Int) × Int)
  | [.imm (.I .i64 l0), .int .i64 a1], [] => some (l0, a1)
  | _, _ => none
def laws_heldIntS.tw : Tw := ⟨36, (List Int) × Int, Int, laws_heldIntS.dec, fun a => [.imm (.I .i64 a.1), .int .i64 a.2], fun a => [], fun k a => laws_heldIntS.f k a.1 a.2, fun a r => laws_heldIntS.en r, true⟩
theorem laws_heldIntS.dok : laws_heldIntS.tw.DecOk := by
  intro args hc a h
  have h : laws_heldIntS.dec args hc = some a := h
  unfold laws_heldIntS.dec at h
  split at h
  · cases h; exact ⟨rfl, rfl⟩
  · cases h
noncomputable def laws_heldIntS.O (k : Nat) : Oracle := noO
def laws_heldIntS.fh : FH := ⟨fun i => match i with | 2 => some [(0, 0), (1, 0), (5, 0)] | _ => none, [], false⟩
noncomputable def laws_heldIntS.x0 (k : Nat) (x0 : List Int) (x1 : Int) (x5 : Int) : Option Res := R.exec Try.prog xhn laws_heldIntS.O 0 Try.f36 laws_heldIntS.fh k (R.point Try.f36 2) ⟨[(0, .imm (.I .i64 x0)), (1, .int .i64 x1), (5, .int .i64 x5)], [], 2⟩
set_option maxRecDepth 100000 in
theorem laws_heldIntS.e0 (k : Nat) (x0 : List Int) (x1 : Int) (x5 : Int) : laws_heldIntS.x0 (k + 1) x0 x1 x5 = (if x5 < (x0.length : Int) then (if 0 ≤ x5 then (if (rdI x0 x5) = x1 then (laws_heldIntS.x0 k x0 (wr64 (x1 + 1)) (wr64 (x5 + 1))) else (some (laws_heldIntS.en (-1)))) else none) else (some (laws_heldIntS.en x1))) := by
  refine Eq.trans ?_ (R.icong (fun h0 => (R.icong (fun h1 => (R.idropT (p := x5 < (x0.length : Int)) (z := none) h0 rfl)) (fun h1 => rfl))) (fun h0 => rfl))
  kernel_rfl
set_option maxRecDepth 100000 in
theorem laws_heldIntS.ef (k : Nat) (l0 : List Int) (a1 : Int) : R.start Try.prog xhn laws_heldIntS.O 0 Try.f36 laws_heldIntS.fh k [.imm (.I .i64 l0), .int .i64 a1] [] = (laws_heldIntS.x0 k l0 a1 0) := by kernel_rfl
theorem laws_heldIntS.link : ∀ k, (∀ (x0 : List Int) (x1 : Int) (x5 : Int), laws_heldIntS.x0 k x0 x1 x5 = (laws_heldIntS.l0 k x0 x1 x5).map (laws_heldIntS.en))
  | 0 => fun _ _ _ => by simp only [laws_heldIntS.l0, R.map_none]; rfl
  | k + 1 => by
    have ih0 := laws_heldIntS.link k
    · intro x0 x1 x5
      rw [laws_heldIntS.e0]
      simp only [laws_heldIntS.l0, R.map_ite, R.map_bind, R.map_none, R.map_some, R.wr64_eq, ← ih0]
theorem laws_heldIntS.sf (k : Nat) (l0 : List Int) (a1 : Int) : R.start Try.prog xhn laws_heldIntS.O 0 Try.f36 laws_heldIntS.fh k [.imm (.I .i64 l0), .int .i64 a1] [] = (laws_heldIntS.f k l0 a1).map (laws_heldIntS.en) := by
  have ih0 := laws_heldIntS.link k
  rw [laws_heldIntS.ef]
  simp only [laws_heldIntS.f, R.map_ite, R.map_bind, R.map_none, R.map_some, R.wr64_eq, ← ih0]
theorem laws_heldIntS.ok (k : Nat) : laws_heldIntS.tw.Ok Try.prog k := by
  intro md hmd a r h
  refine fn_ok (H := xhn) (fh := laws_heldIntS.fh) (O := laws_heldIntS.O) (k := k) Try.func36 (by kernel_rfl) (by kernel_rfl) (fun j _ => noO_sound) (by kernel_rfl) (m := 0) rfl ?_
  refine (laws_heldIntS.sf k a.1 a.2).trans ?_
  exact congrArg (Option.map _) h
def laws_FnExactPrefixCosts.f (k : Nat) (a0_0 : Int) (l0_1 : List Int) (l0_2 : List Int) (l0_3 : List Stp) (a1 : ByteArray) : Option (Bool) := (if (a1.size : Int) > 1048576 then (some true) else ((laws_szAutomaton.f k a0_0 l0_1 l0_2 l0_3 1048576).bind fun t1 => (if t1 < 0 then (some true) else ((laws_toAutomaton.f k a0_0 l0_1 l0_2 l0_3).bind fun t2 => ((spec_PrefixCosts.f k t2.1 t2.2.1 t2.2.2.1 t2.2.2.2 a1).bind fun t3 => ((laws_toAutomaton.f k a0_0 l0_1 l0_2 l0_3).bind fun t4 => ((impl_PrefixCosts.f k t4.1 t4.2.1 t4.2.2.1 t4.2.2.2 a1).bind fun t5 => ((laws_eqIntS.f k t5.1 t3.1).bind fun t6 => (if t6 = true then (if (t5.2 != t3.2) = true then (some false) else ((laws_toAutomaton.f k a0_0 l0_1 l0_2 l0_3).bind fun t7 => ((laws_eqAutomaton.f k t4.1 t4.2.1 t4.2.2.1 t4.2.2.2 t7.1 t7.2.1 t7.2.2.1 t7.2.2.2).bind fun t8 => (if t8 = true then ((laws_markAutomaton.f k t4.1 t4.2.1 t4.2.2.1 t4.2.2.2 1).bind fun t9 => (if t9.1 < 0 then (some false) else ((laws_eqIntS.f k t5.1 t3.1).bind fun t10 => (if t10 = true then ((laws_markIntS.f k t5.1 1).bind fun t11 => ((laws_heldIntS.f k t11.2 1).bind fun t12 => (if t12 < 0 then (some false) else (if t12 = t11.1 then ((laws_toAutomaton.f k a0_0 l0_1 l0_2 l0_3).bind fun t13 => ((impl_PrefixCosts.f k t13.1 t13.2.1 t13.2.2.1 t13.2.2.2 a1).bind fun t14 => ((laws_eqIntS.f k t14.1 t3.1).bind fun t15 => (if t15 = true then (if (t14.2 != t3.2) = true then (some false) else ((laws_heldIntS.f k t11.2 1).bind fun t16 => (if t16 < 0 then (some false) else (if t16 = t11.1 then (some true) else (some false))))) else (some false))))) else (some false))))) else (some false))))) else (some false))))) else (some false))))))))))
def laws_FnExactPrefixCosts.en (r : Bool) : Res := (.lit r, [])
def laws_FnExactPrefixCosts.dec : List AV → List R.Obj → Option (Int × (List Int) × (List Int) × (List Stp) × ByteArray)
  | [.agg [.int .i64 a0_0, .imm (.I .i64 l0_1), .imm (.I .i64 l0_2), .imm (.T l0_3)], .str a1], [] => some (a0_0, l0_1, l0_2, l0_3, a1)
  | _, _ => none
def laws_FnExactPrefixCosts.tw : Tw := ⟨9, Int × (List Int) × (List Int) × (List Stp) × ByteArray, Bool, laws_FnExactPrefixCosts.dec, fun a => [.agg [.int .i64 a.1, .imm (.I .i64 a.2.1), .imm (.I .i64 a.2.2.1), .imm (.T a.2.2.2.1)], .str a.2.2.2.2], fun a => [], fun k a => laws_FnExactPrefixCosts.f k a.1 a.2.1 a.2.2.1 a.2.2.2.1 a.2.2.2.2, fun a r => laws_FnExactPrefixCosts.en r, false⟩
theorem laws_FnExactPrefixCosts.dok : laws_FnExactPrefixCosts.tw.DecOk := by
  intro args hc a h
  have h : laws_FnExactPrefixCosts.dec args hc = some a := h
  unfold laws_FnExactPrefixCosts.dec at h
  split at h
  · cases h; exact ⟨rfl, rfl⟩
  · cases h
noncomputable def laws_FnExactPrefixCosts.O (k : Nat) : Oracle := (laws_szAutomaton.tw.orc k (laws_toAutomaton.tw.orc k (spec_PrefixCosts.tw.orc k (impl_PrefixCosts.tw.orc k (laws_eqIntS.tw.orc k (laws_eqAutomaton.tw.orc k (laws_markAutomaton.tw.orc k (laws_markIntS.tw.orc k (laws_heldIntS.tw.orc k noO)))))))))
def laws_FnExactPrefixCosts.fh : FH := ⟨fun i => match i with | _ => none, [], false⟩
set_option maxRecDepth 100000 in
theorem laws_FnExactPrefixCosts.ef (k : Nat) (a0_0 : Int) (l0_1 : List Int) (l0_2 : List Int) (l0_3 : List Stp) (a1 : ByteArray) : R.start Try.prog xhn laws_FnExactPrefixCosts.O 0 Try.f9 laws_FnExactPrefixCosts.fh k [.agg [.int .i64 a0_0, .imm (.I .i64 l0_1), .imm (.I .i64 l0_2), .imm (.T l0_3)], .str a1] [] = (if (a1.size : Int) > 1048576 then (some (laws_FnExactPrefixCosts.en true)) else ((laws_szAutomaton.f k a0_0 l0_1 l0_2 l0_3 1048576).bind fun t1 => (if t1 < 0 then (some (laws_FnExactPrefixCosts.en true)) else ((laws_toAutomaton.f k a0_0 l0_1 l0_2 l0_3).bind fun t2 => ((spec_PrefixCosts.f k t2.1 t2.2.1 t2.2.2.1 t2.2.2.2 a1).bind fun t3 => ((laws_toAutomaton.f k a0_0 l0_1 l0_2 l0_3).bind fun t4 => ((impl_PrefixCosts.f k t4.1 t4.2.1 t4.2.2.1 t4.2.2.2 a1).bind fun t5 => ((laws_eqIntS.f k t5.1 t3.1).bind fun t6 => (if t6 = true then (if (t5.2 != t3.2) = true then (some (laws_FnExactPrefixCosts.en false)) else ((laws_toAutomaton.f k a0_0 l0_1 l0_2 l0_3).bind fun t7 => ((laws_eqAutomaton.f k t4.1 t4.2.1 t4.2.2.1 t4.2.2.2 t7.1 t7.2.1 t7.2.2.1 t7.2.2.2).bind fun t8 => (if t8 = true then ((laws_markAutomaton.f k t4.1 t4.2.1 t4.2.2.1 t4.2.2.2 1).bind fun t9 => (if t9.1 < 0 then (some (laws_FnExactPrefixCosts.en false)) else ((laws_eqIntS.f k t5.1 t3.1).bind fun t10 => (if t10 = true then ((laws_markIntS.f k t5.1 1).bind fun t11 => ((laws_heldIntS.f k t11.2 1).bind fun t12 => (if t12 < 0 then (some (laws_FnExactPrefixCosts.en false)) else (if t12 = t11.1 then ((laws_toAutomaton.f k a0_0 l0_1 l0_2 l0_3).bind fun t13 => ((impl_PrefixCosts.f k t13.1 t13.2.1 t13.2.2.1 t13.2.2.2 a1).bind fun t14 => ((laws_eqIntS.f k t14.1 t3.1).bind fun t15 => (if t15 = true then (if (t14.2 != t3.2) = true then (some (laws_FnExactPrefixCosts.en false)) else ((laws_heldIntS.f k t11.2 1).bind fun t16 => (if t16 < 0 then (some (laws_FnExactPrefixCosts.en false)) else (if t16 = t11.1 then (some (laws_FnExactPrefixCosts.en true)) else (some (laws_FnExactPrefixCosts.en false)))))) else (some (laws_FnExactPrefixCosts.en false)))))) else (some (laws_FnExactPrefixCosts.en false)))))) else (some (laws_FnExactPrefixCosts.en false)))))) else (some (laws_FnExactPrefixCosts.en false)))))) else (some (laws_FnExactPrefixCosts.en false))))))))))) := by
  refine Eq.trans ?_ (R.icong (fun h0 => rfl) (fun h0 => (R.bcong fun t1 => (R.icong (fun h1 => rfl) (fun h1 => (R.bcong fun t2 => (R.bcong fun t3 => (R.bcong fun t4 => (R.bcong fun t5 => (R.bcong fun t6 => (R.icong (fun h2 => (R.icong (fun h3 => rfl) (fun h3 => (R.bcong fun t7 => (R.bcong fun t8 => (R.icong (fun h4 => (R.bcong fun t9 => (R.icong (fun h5 => rfl) (fun h5 => (R.bcong fun t10 => (R.icong (fun h6 => (R.idropF (p := (t5.2 != t3.2) = true) (z := (some (laws_FnExactPrefixCosts.en false))) h3 rfl)) (fun h6 => rfl))))))) (fun h4 => rfl))))))) (fun h2 => rfl))))))))))))
  kernel_rfl
theorem laws_FnExactPrefixCosts.sf (k : Nat) (a0_0 : Int) (l0_1 : List Int) (l0_2 : List Int) (l0_3 : List Stp) (a1 : ByteArray) : R.start Try.prog xhn laws_FnExactPrefixCosts.O 0 Try.f9 laws_FnExactPrefixCosts.fh k [.agg [.int .i64 a0_0, .imm (.I .i64 l0_1), .imm (.I .i64 l0_2), .imm (.T l0_3)], .str a1] [] = (laws_FnExactPrefixCosts.f k a0_0 l0_1 l0_2 l0_3 a1).map (laws_FnExactPrefixCosts.en) := by
  rw [laws_FnExactPrefixCosts.ef]
  simp only [laws_FnExactPrefixCosts.f, R.map_ite, R.map_bind, R.map_none, R.map_some, R.wr64_eq]
theorem laws_FnExactPrefixCosts.ok (k : Nat) : laws_FnExactPrefixCosts.tw.Ok Try.prog k := by
  intro md hmd a r h
  refine fn_ok (H := xhn) (fh := laws_FnExactPrefixCosts.fh) (O := laws_FnExactPrefixCosts.O) (k := k) Try.func9 (by kernel_rfl) (by kernel_rfl) (fun j _ => (Tw.orc_sound laws_szAutomaton.dok (laws_szAutomaton.ok j) (fun _ => rfl) (Tw.orc_sound laws_toAutomaton.dok (laws_toAutomaton.ok j) (fun _ => rfl) (Tw.orc_sound spec_PrefixCosts.dok (spec_PrefixCosts.ok j) (fun _ => rfl) (Tw.orc_sound impl_PrefixCosts.dok (impl_PrefixCosts.ok j) (fun q => Bool.noConfusion (show false = true from hmd q)) (Tw.orc_sound laws_eqIntS.dok (laws_eqIntS.ok j) (fun _ => rfl) (Tw.orc_sound laws_eqAutomaton.dok (laws_eqAutomaton.ok j) (fun _ => rfl) (Tw.orc_sound laws_markAutomaton.dok (laws_markAutomaton.ok j) (fun _ => rfl) (Tw.orc_sound laws_markIntS.dok (laws_markIntS.ok j) (fun _ => rfl) (Tw.orc_sound laws_heldIntS.dok (laws_heldIntS.ok j) (fun _ => rfl) noO_sound)))))))))) (by kernel_rfl) (m := 0) rfl ?_
  refine (laws_FnExactPrefixCosts.sf k a.1 a.2.1 a.2.2.1 a.2.2.2.1 a.2.2.2.2).trans ?_
  exact congrArg (Option.map _) h
end Go.Proofs.Ytoeeeafknajkkaa.V
end
