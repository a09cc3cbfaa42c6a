import Derived.Test.YtaaajdlgmllhaaaQFnExactStablesOf4
import Derived.Test.YtaaajdlgmllhaaaProg
import Derived.WalkKit
import Derived.ProofKit
import Derived.Lib.Bytealg
import Derived.Test.YtaaajdlgmllhaaaQFnExactStablesOf2
import Derived.Below
section
set_option linter.unusedVariables false
set_option linter.unusedSimpArgs false
namespace Go.Proofs.Ytaaajdlgmllhaaa.V
open Go Go.Proofs.Ytaaajdlgmllhaaa.R Go.RowKit
def xhn : R.Hints := ⟨fun e => match e with | 3 => some (.I .i64) | 5 => some (.I .u8) | 9 => some .S | 82 => some .E | 92 => some .T | 159 => some .P | _ => none, fun f => match f with | 19 => 2 | 20 => 2 | 55 => 2 | 84 => 2 | 125 => 1 | 128 => 1 | 189 => 1 | _ => 0⟩
def laws_szIntS.f (l0 : List Int) (a1 : Int) : Option (Int) := (if (wrap64 (a1 - (l0.length : Int))) < 0 then (some (-1)) else (some (wrap64 (a1 - (l0.length : Int)))))
def laws_szIntS.en (r : Int) : Res := (.int .i64 r, [])
def laws_szIntS.dec : List AV → List R.Obj → Option ((List Int) × Int)
  | [.imm (.I .i64 l0), .int .i64 a1], [] => some (l0, a1)
  | _, _ => none
def laws_szIntS.tw : Tw := ⟨75, (List Int) × Int, Int, laws_szIntS.dec, fun a => [.imm (.I .i64 a.1), .int .i64 a.2], fun a => [], fun k a => laws_szIntS.f a.1 a.2, fun a r => laws_szIntS.en r⟩
theorem laws_szIntS.dok : laws_szIntS.tw.DecOk := by
  intro args hc a h
  have h : laws_szIntS.dec args hc = some a := h
  unfold laws_szIntS.dec at h
  split at h
  · cases h; exact ⟨rfl, rfl⟩
  · cases h
noncomputable def laws_szIntS.O (k : Nat) : Oracle := noO
def laws_szIntS.fh : FH := ⟨fun i => match i with | _ => none, [], false⟩
set_option maxRecDepth 100000 in
theorem laws_szIntS.ef (k : Nat) (l0 : List Int) (a1 : Int) : R.start Try.prog xhn laws_szIntS.O 0 Try.f75 laws_szIntS.fh k [.imm (.I .i64 l0), .int .i64 a1] [] = (if (wrap64 (a1 - (l0.length : Int))) < 0 then (some (laws_szIntS.en (-1))) else (some (laws_szIntS.en (wrap64 (a1 - (l0.length : Int)))))) := by kernel_rfl
theorem laws_szIntS.sf (k : Nat) (l0 : List Int) (a1 : Int) : R.start Try.prog xhn laws_szIntS.O 0 Try.f75 laws_szIntS.fh k [.imm (.I .i64 l0), .int .i64 a1] [] = (laws_szIntS.f l0 a1).map (laws_szIntS.en) := by
  rw [laws_szIntS.ef]
  simp only [laws_szIntS.f, R.map_ite, R.map_bind, R.map_none, R.map_some]
theorem laws_szIntS.ok (k : Nat) : laws_szIntS.tw.Ok Try.prog k := by
  intro a r h
  refine fn_ok (H := xhn) (fh := laws_szIntS.fh) (O := laws_szIntS.O) (k := k) Try.func75 (by kernel_rfl) (by kernel_rfl) (fun j _ => noO_sound) (by kernel_rfl) (m := 0) rfl ?_
  refine (laws_szIntS.sf k a.1 a.2).trans ?_
  exact congrArg (Option.map _) h
def laws_szStep.f (a0_0 : Int) (a0_1 : ByteArray) (a0_2 : Int) (a0_3 : Int) (a1 : Int) : Option (Int) := (if (wrap64 (a1 - (a0_1.size : Int))) < 0 then (some (-1)) else (some (wrap64 (a1 - (a0_1.size : Int)))))
def laws_szStep.en (r : Int) : Res := (.int .i64 r, [])
def laws_szStep.dec : List AV → List R.Obj → Option (Int × ByteArray × Int × Int × Int)
  | [.agg [.int .i64 a0_0, .str a0_1, .int .i64 a0_2, .int .i64 a0_3], .int .i64 a1], [] => some (a0_0, a0_1, a0_2, a0_3, a1)
  | _, _ => none
def laws_szStep.tw : Tw := ⟨140, Int × ByteArray × Int × Int × Int, Int, laws_szStep.dec, fun a => [.agg [.int .i64 a.1, .str a.2.1, .int .i64 a.2.2.1, .int .i64 a.2.2.2.1], .int .i64 a.2.2.2.2], fun a => [], fun k a => laws_szStep.f a.1 a.2.1 a.2.2.1 a.2.2.2.1 a.2.2.2.2, fun a r => laws_szStep.en r⟩
theorem laws_szStep.dok : laws_szStep.tw.DecOk := by
  intro args hc a h
  have h : laws_szStep.dec args hc = some a := h
  unfold laws_szStep.dec at h
  split at h
  · cases h; exact ⟨rfl, rfl⟩
  · cases h
noncomputable def laws_szStep.O (k : Nat) : Oracle := noO
def laws_szStep.fh : FH := ⟨fun i => match i with | _ => none, [], false⟩
set_option maxRecDepth 100000 in
theorem laws_szStep.ef (k : Nat) (a0_0 : Int) (a0_1 : ByteArray) (a0_2 : Int) (a0_3 : Int) (a1 : Int) : R.start Try.prog xhn laws_szStep.O 0 Try.f140 laws_szStep.fh k [.agg [.int .i64 a0_0, .str a0_1, .int .i64 a0_2, .int .i64 a0_3], .int .i64 a1] [] = (if (wrap64 (a1 - (a0_1.size : Int))) < 0 then (some (laws_szStep.en (-1))) else (some (laws_szStep.en (wrap64 (a1 - (a0_1.size : Int)))))) := by kernel_rfl
theorem laws_szStep.sf (k : Nat) (a0_0 : Int) (a0_1 : ByteArray) (a0_2 : Int) (a0_3 : Int) (a1 : Int) : R.start Try.prog xhn laws_szStep.O 0 Try.f140 laws_szStep.fh k [.agg [.int .i64 a0_0, .str a0_1, .int .i64 a0_2, .int .i64 a0_3], .int .i64 a1] [] = (laws_szStep.f a0_0 a0_1 a0_2 a0_3 a1).map (laws_szStep.en) := by
  rw [laws_szStep.ef]
  simp only [laws_szStep.f, R.map_ite, R.map_bind, R.map_none, R.map_some]
theorem laws_szStep.ok (k : Nat) : laws_szStep.tw.Ok Try.prog k := by
  intro a r h
  refine fn_ok (H := xhn) (fh := laws_szStep.fh) (O := laws_szStep.O) (k := k) Try.func140 (by kernel_rfl) (by kernel_rfl) (fun j _ => noO_sound) (by kernel_rfl) (m := 0) rfl ?_
  refine (laws_szStep.sf k a.1 a.2.1 a.2.2.1 a.2.2.2.1 a.2.2.2.2).trans ?_
  exact congrArg (Option.map _) h
def laws_szStepS.l0 : Nat → (List Stp) → Int → Int → Option (Int)
  | 0, _, _, _ => none
  | k + 1, x0, x1, x5 => (if x5 < (x0.length : Int) then (if 0 ≤ x5 then ((laws_szStep.f ((rdT x0 x5).f0) ((rdT x0 x5).f1) ((rdT x0 x5).f2) ((rdT x0 x5).f3) x1).bind fun t1 => (if t1 < 0 then (some (-1)) else (laws_szStepS.l0 k x0 t1 (wrap64 (x5 + 1))))) else none) else (some x1))
def laws_szStepS.f (k : Nat) (l0 : List Stp) (a1 : Int) : Option (Int) := (if (wrap64 (a1 - (l0.length : Int))) < 0 then (some (-1)) else (laws_szStepS.l0 k l0 (wrap64 (a1 - (l0.length : Int))) 0))
def laws_szStepS.en (r : Int) : Res := (.int .i64 r, [])
def laws_szStepS.dec : List AV → List R.Obj → Option ((List Stp) × Int)
  | [.imm (.T l0), .int .i64 a1], [] => some (l0, a1)
  | _, _ => none
def laws_szStepS.tw : Tw := ⟨76, (List Stp) × Int, Int, laws_szStepS.dec, fun a => [.imm (.T a.1), .int .i64 a.2], fun a => [], fun k a => laws_szStepS.f k a.1 a.2, fun a r => laws_szStepS.en r⟩
theorem laws_szStepS.dok : laws_szStepS.tw.DecOk := by
  intro args hc a h
  have h : laws_szStepS.dec args hc = some a := h
  unfold laws_szStepS.dec at h
  split at h
  · cases h; exact ⟨rfl, rfl⟩
  · cases h
noncomputable def laws_szStepS.O (k : Nat) : Oracle := (laws_szStep.tw.orc k noO)
def laws_szStepS.fh : FH := ⟨fun i => match i with | 5 => some [(0, 0), (1, 0), (5, 0)] | _ => none, [], false⟩
noncomputable def laws_szStepS.x0 (k : Nat) (x0 : List Stp) (x1 : Int) (x5 : Int) : Option Res := R.exec Try.prog xhn laws_szStepS.O 0 Try.f76 laws_szStepS.fh k (R.point Try.f76 5) ⟨[(0, .imm (.T x0)), (1, .int .i64 x1), (5, .int .i64 x5)], [], 2⟩
set_option maxRecDepth 100000 in
theorem laws_szStepS.e0 (k : Nat) (x0 : List Stp) (x1 : Int) (x5 : Int) : laws_szStepS.x0 (k + 1) x0 x1 x5 = (if x5 < (x0.length : Int) then (if 0 ≤ x5 then ((laws_szStep.f ((rdT x0 x5).f0) ((rdT x0 x5).f1) ((rdT x0 x5).f2) ((rdT x0 x5).f3) x1).bind fun t1 => (if t1 < 0 then (some (laws_szStepS.en (-1))) else (laws_szStepS.x0 k x0 t1 (wrap64 (x5 + 1))))) else none) else (some (laws_szStepS.en x1))) := by
  refine Eq.trans ?_ (R.icong (fun h0 => (R.icong (fun h1 => (R.idropT (p := x5 < (x0.length : Int)) (z := none) h0 rfl)) (fun h1 => rfl))) (fun h0 => rfl))
  kernel_rfl
set_option maxRecDepth 100000 in
theorem laws_szStepS.ef (k : Nat) (l0 : List Stp) (a1 : Int) : R.start Try.prog xhn laws_szStepS.O 0 Try.f76 laws_szStepS.fh k [.imm (.T l0), .int .i64 a1] [] = (if (wrap64 (a1 - (l0.length : Int))) < 0 then (some (laws_szStepS.en (-1))) else (laws_szStepS.x0 k l0 (wrap64 (a1 - (l0.length : Int))) 0)) := by kernel_rfl
theorem laws_szStepS.link : ∀ k, (∀ (x0 : List Stp) (x1 : Int) (x5 : Int), laws_szStepS.x0 k x0 x1 x5 = (laws_szStepS.l0 k x0 x1 x5).map (laws_szStepS.en))
  | 0 => fun _ _ _ => by simp only [laws_szStepS.l0, R.map_none]; rfl
  | k + 1 => by
    have ih0 := laws_szStepS.link k
    · intro x0 x1 x5
      rw [laws_szStepS.e0]
      simp only [laws_szStepS.l0, R.map_ite, R.map_bind, R.map_none, R.map_some, ← ih0]
theorem laws_szStepS.sf (k : Nat) (l0 : List Stp) (a1 : Int) : R.start Try.prog xhn laws_szStepS.O 0 Try.f76 laws_szStepS.fh k [.imm (.T l0), .int .i64 a1] [] = (laws_szStepS.f k l0 a1).map (laws_szStepS.en) := by
  have ih0 := laws_szStepS.link k
  rw [laws_szStepS.ef]
  simp only [laws_szStepS.f, R.map_ite, R.map_bind, R.map_none, R.map_some, ← ih0]
theorem laws_szStepS.ok (k : Nat) : laws_szStepS.tw.Ok Try.prog k := by
  intro a r h
  refine fn_ok (H := xhn) (fh := laws_szStepS.fh) (O := laws_szStepS.O) (k := k) Try.func76 (by kernel_rfl) (by kernel_rfl) (fun j _ => (Tw.orc_sound laws_szStep.dok (laws_szStep.ok j) noO_sound)) (by kernel_rfl) (m := 0) rfl ?_
  refine (laws_szStepS.sf k a.1 a.2).trans ?_
  exact congrArg (Option.map _) h
def laws_szAutomaton.f (k : Nat) (a0_0 : Int) (l0_1 : List Int) (l0_2 : List Int) (l0_3 : List Stp) (a1 : Int) : Option (Int) := ((laws_szIntS.f l0_1 a1).bind fun t1 => (if t1 < 0 then (some (-1)) else ((laws_szIntS.f l0_2 t1).bind fun t2 => (if t2 < 0 then (some (-1)) else ((laws_szStepS.f k l0_3 t2).bind fun t3 => (if t3 < 0 then (some (-1)) else (some t3)))))))
def laws_szAutomaton.en (r : Int) : Res := (.int .i64 r, [])
def laws_szAutomaton.dec : List AV → List R.Obj → Option (Int × (List Int) × (List Int) × (List Stp) × Int)
  | [.agg [.int .i64 a0_0, .imm (.I .i64 l0_1), .imm (.I .i64 l0_2), .imm (.T l0_3)], .int .i64 a1], [] => some (a0_0, l0_1, l0_2, l0_3, a1)
  | _, _ => none
def laws_szAutomaton.tw : Tw := ⟨13, Int × (List Int) × (List Int) × (List Stp) × Int, Int, laws_szAutomaton.dec, fun a => [.agg [.int .i64 a.1, .imm (.I .i64 a.2.1), .imm (.I .i64 a.2.2.1), .imm (.T a.2.2.2.1)], .int .i64 a.2.2.2.2], fun a => [], fun k a => laws_szAutomaton.f k a.1 a.2.1 a.2.2.1 a.2.2.2.1 a.2.2.2.2, fun a r => laws_szAutomaton.en r⟩
theorem laws_szAutomaton.dok : laws_szAutomaton.tw.DecOk := by
  intro args hc a h
  have h : laws_szAutomaton.dec args hc = some a := h
  unfold laws_szAutomaton.dec at h
  split at h
  · cases h; exact ⟨rfl, rfl⟩
  · cases h
noncomputable def laws_szAutomaton.O (k : Nat) : Oracle := (laws_szIntS.tw.orc k (laws_szStepS.tw.orc k noO))
def laws_szAutomaton.fh : FH := ⟨fun i => match i with | _ => none, [], false⟩
set_option maxRecDepth 100000 in
theorem laws_szAutomaton.ef (k : Nat) (a0_0 : Int) (l0_1 : List Int) (l0_2 : List Int) (l0_3 : List Stp) (a1 : Int) : R.start Try.prog xhn laws_szAutomaton.O 0 Try.f13 laws_szAutomaton.fh k [.agg [.int .i64 a0_0, .imm (.I .i64 l0_1), .imm (.I .i64 l0_2), .imm (.T l0_3)], .int .i64 a1] [] = ((laws_szIntS.f l0_1 a1).bind fun t1 => (if t1 < 0 then (some (laws_szAutomaton.en (-1))) else ((laws_szIntS.f l0_2 t1).bind fun t2 => (if t2 < 0 then (some (laws_szAutomaton.en (-1))) else ((laws_szStepS.f k l0_3 t2).bind fun t3 => (if t3 < 0 then (some (laws_szAutomaton.en (-1))) else (some (laws_szAutomaton.en t3)))))))) := by kernel_rfl
theorem laws_szAutomaton.sf (k : Nat) (a0_0 : Int) (l0_1 : List Int) (l0_2 : List Int) (l0_3 : List Stp) (a1 : Int) : R.start Try.prog xhn laws_szAutomaton.O 0 Try.f13 laws_szAutomaton.fh k [.agg [.int .i64 a0_0, .imm (.I .i64 l0_1), .imm (.I .i64 l0_2), .imm (.T l0_3)], .int .i64 a1] [] = (laws_szAutomaton.f k a0_0 l0_1 l0_2 l0_3 a1).map (laws_szAutomaton.en) := by
  rw [laws_szAutomaton.ef]
  simp only [laws_szAutomaton.f, R.map_ite, R.map_bind, R.map_none, R.map_some]
theorem laws_szAutomaton.ok (k : Nat) : laws_szAutomaton.tw.Ok Try.prog k := by
  intro a r h
  refine fn_ok (H := xhn) (fh := laws_szAutomaton.fh) (O := laws_szAutomaton.O) (k := k) Try.func13 (by kernel_rfl) (by kernel_rfl) (fun j _ => (Tw.orc_sound laws_szIntS.dok (laws_szIntS.ok j) (Tw.orc_sound laws_szStepS.dok (laws_szStepS.ok j) noO_sound))) (by kernel_rfl) (m := 0) rfl ?_
  refine (laws_szAutomaton.sf k a.1 a.2.1 a.2.2.1 a.2.2.2.1 a.2.2.2.2).trans ?_
  exact congrArg (Option.map _) h
def laws_szMatrix.f (a0_0 : Int) (l0_1 : List Int) (a1 : Int) : Option (Int) := ((laws_szIntS.f l0_1 a1).bind fun t1 => (if t1 < 0 then (some (-1)) else (some t1)))
def laws_szMatrix.en (r : Int) : Res := (.int .i64 r, [])
def laws_szMatrix.dec : List AV → List R.Obj → Option (Int × (List Int) × Int)
  | [.agg [.int .i64 a0_0, .imm (.I .i64 l0_1)], .int .i64 a1], [] => some (a0_0, l0_1, a1)
  | _, _ => none
def laws_szMatrix.tw : Tw := ⟨47, Int × (List Int) × Int, Int, laws_szMatrix.dec, fun a => [.agg [.int .i64 a.1, .imm (.I .i64 a.2.1)], .int .i64 a.2.2], fun a => [], fun k a => laws_szMatrix.f a.1 a.2.1 a.2.2, fun a r => laws_szMatrix.en r⟩
theorem laws_szMatrix.dok : laws_szMatrix.tw.DecOk := by
  intro args hc a h
  have h : laws_szMatrix.dec args hc = some a := h
  unfold laws_szMatrix.dec at h
  split at h
  · cases h; exact ⟨rfl, rfl⟩
  · cases h
noncomputable def laws_szMatrix.O (k : Nat) : Oracle := (laws_szIntS.tw.orc k noO)
def laws_szMatrix.fh : FH := ⟨fun i => match i with | _ => none, [], false⟩
set_option maxRecDepth 100000 in
theorem laws_szMatrix.ef (k : Nat) (a0_0 : Int) (l0_1 : List Int) (a1 : Int) : R.start Try.prog xhn laws_szMatrix.O 0 Try.f47 laws_szMatrix.fh k [.agg [.int .i64 a0_0, .imm (.I .i64 l0_1)], .int .i64 a1] [] = ((laws_szIntS.f l0_1 a1).bind fun t1 => (if t1 < 0 then (some (laws_szMatrix.en (-1))) else (some (laws_szMatrix.en t1)))) := by kernel_rfl
theorem laws_szMatrix.sf (k : Nat) (a0_0 : Int) (l0_1 : List Int) (a1 : Int) : R.start Try.prog xhn laws_szMatrix.O 0 Try.f47 laws_szMatrix.fh k [.agg [.int .i64 a0_0, .imm (.I .i64 l0_1)], .int .i64 a1] [] = (laws_szMatrix.f a0_0 l0_1 a1).map (laws_szMatrix.en) := by
  rw [laws_szMatrix.ef]
  simp only [laws_szMatrix.f, R.map_ite, R.map_bind, R.map_none, R.map_some]
theorem laws_szMatrix.ok (k : Nat) : laws_szMatrix.tw.Ok Try.prog k := by
  intro a r h
  refine fn_ok (H := xhn) (fh := laws_szMatrix.fh) (O := laws_szMatrix.O) (k := k) Try.func47 (by kernel_rfl) (by kernel_rfl) (fun j _ => (Tw.orc_sound laws_szIntS.dok (laws_szIntS.ok j) noO_sound)) (by kernel_rfl) (m := 0) rfl ?_
  refine (laws_szMatrix.sf k a.1 a.2.1 a.2.2).trans ?_
  exact congrArg (Option.map _) h
def laws_toIntS.l0 : Nat → (List Int) → (List Int) → Int → Option (List Int)
  | 0, _, _, _ => none
  | k + 1, x0, y0, x4 => (if x4 < (x0.length : Int) then (if 0 ≤ x4 then (if x4 < (y0.length : Int) then (laws_toIntS.l0 k x0 (y0.set x4.toNat (rdI x0 x4)) (wrap64 (x4 + 1))) else none) else none) else (some y0))
def laws_toIntS.f (k : Nat) (l0 : List Int) : Option (List Int) := (if 0 ≤ (l0.length : Int) then (if (l0.length : Int).toNat ≤ 17592186044416 then (laws_toIntS.l0 k l0 (List.replicate (l0.length : Int).toNat 0) 0) else none) else none)
def laws_toIntS.en (r : List Int) : Res := (.sl 0 0, [.arr 3 0 (.I .i64 r) false])
def laws_toIntS.dec : List AV → List R.Obj → Option (List Int)
  | [.imm (.I .i64 l0)], [] => some l0
  | _, _ => none
def laws_toIntS.tw : Tw := ⟨80, List Int, List Int, laws_toIntS.dec, fun a => [.imm (.I .i64 a)], fun a => [], fun k a => laws_toIntS.f k a, fun a r => laws_toIntS.en r⟩
theorem laws_toIntS.dok : laws_toIntS.tw.DecOk := by
  intro args hc a h
  have h : laws_toIntS.dec args hc = some a := h
  unfold laws_toIntS.dec at h
  split at h
  · cases h; exact ⟨rfl, rfl⟩
  · cases h
noncomputable def laws_toIntS.O (k : Nat) : Oracle := noO
def laws_toIntS.fh : FH := ⟨fun i => match i with | 3 => some [(0, 0), (3, 0), (4, 0)] | _ => none, [(true, 3)], false⟩
noncomputable def laws_toIntS.x0 (k : Nat) (x0 : List Int) (y0 : List Int) (x4 : Int) : Option Res := R.exec Try.prog xhn laws_toIntS.O 0 Try.f80 laws_toIntS.fh k (R.point Try.f80 3) ⟨[(0, .imm (.I .i64 x0)), (3, .sl 0 0), (4, .int .i64 x4)], [(0, .arr 3 0 (.I .i64 y0) false)], 3⟩
set_option maxRecDepth 100000 in
theorem laws_toIntS.e0 (k : Nat) (x0 : List Int) (y0 : List Int) (x4 : Int) : laws_toIntS.x0 (k + 1) x0 y0 x4 = (if x4 < (x0.length : Int) then (if 0 ≤ x4 then (if x4 < (y0.length : Int) then (laws_toIntS.x0 k x0 (y0.set x4.toNat (rdI x0 x4)) (wrap64 (x4 + 1))) else none) else none) else (some (laws_toIntS.en y0))) := by
  refine Eq.trans ?_ (R.icong (fun h0 => (R.icong (fun h1 => (R.idropT (p := x4 < (x0.length : Int)) (z := none) h0 (R.idropT (p := 0 ≤ x4) (z := none) h1 rfl))) (fun h1 => rfl))) (fun h0 => rfl))
  kernel_rfl
set_option maxRecDepth 100000 in
theorem laws_toIntS.ef (k : Nat) (l0 : List Int) : R.start Try.prog xhn laws_toIntS.O 0 Try.f80 laws_toIntS.fh k [.imm (.I .i64 l0)] [] = (if 0 ≤ (l0.length : Int) then (if (l0.length : Int).toNat ≤ 17592186044416 then (laws_toIntS.x0 k l0 (List.replicate (l0.length : Int).toNat 0) 0) else none) else none) := by
  refine Eq.trans ?_ (R.icong (fun h0 => (R.idropT (p := (l0.length : Int) = (l0.length : Int)) (z := none) rfl rfl)) (fun h0 => rfl))
  kernel_rfl
theorem laws_toIntS.link : ∀ k, (∀ (x0 : List Int) (y0 : List Int) (x4 : Int), laws_toIntS.x0 k x0 y0 x4 = (laws_toIntS.l0 k x0 y0 x4).map (laws_toIntS.en))
  | 0 => fun _ _ _ => by simp only [laws_toIntS.l0, R.map_none]; rfl
  | k + 1 => by
    have ih0 := laws_toIntS.link k
    · intro x0 y0 x4
      rw [laws_toIntS.e0]
      simp only [laws_toIntS.l0, R.map_ite, R.map_bind, R.map_none, R.map_some, ← ih0]
theorem laws_toIntS.sf (k : Nat) (l0 : List Int) : R.start Try.prog xhn laws_toIntS.O 0 Try.f80 laws_toIntS.fh k [.imm (.I .i64 l0)] [] = (laws_toIntS.f k l0).map (laws_toIntS.en) := by
  have ih0 := laws_toIntS.link k
  rw [laws_toIntS.ef]
  simp only [laws_toIntS.f, R.map_ite, R.map_bind, R.map_none, R.map_some, ← ih0]
theorem laws_toIntS.ok (k : Nat) : laws_toIntS.tw.Ok Try.prog k := by
  intro a r h
  refine fn_ok (H := xhn) (fh := laws_toIntS.fh) (O := laws_toIntS.O) (k := k) Try.func80 (by kernel_rfl) (by kernel_rfl) (fun j _ => noO_sound) (by kernel_rfl) (m := 0) rfl ?_
  refine (laws_toIntS.sf k a).trans ?_
  exact congrArg (Option.map _) h
def laws_toStep.f (a0_0 : Int) (a0_1 : ByteArray) (a0_2 : Int) (a0_3 : Int) : Option (Int × ByteArray × Int × Int) := (some (a0_0, a0_1, a0_2, a0_3))
def laws_toStep.en (r : Int × ByteArray × Int × Int) : Res := (.agg [.int .i64 r.1, .str r.2.1, .int .i64 r.2.2.1, .int .i64 r.2.2.2], [])
def laws_toStep.dec : List AV → List R.Obj → Option (Int × ByteArray × Int × Int)
  | [.agg [.int .i64 a0_0, .str a0_1, .int .i64 a0_2, .int .i64 a0_3]], [] => some (a0_0, a0_1, a0_2, a0_3)
  | _, _ => none
def laws_toStep.tw : Tw := ⟨143, Int × ByteArray × Int × Int, Int × ByteArray × Int × Int, laws_toStep.dec, fun a => [.agg [.int .i64 a.1, .str a.2.1, .int .i64 a.2.2.1, .int .i64 a.2.2.2]], fun a => [], fun k a => laws_toStep.f a.1 a.2.1 a.2.2.1 a.2.2.2, fun a r => laws_toStep.en r⟩
theorem laws_toStep.dok : laws_toStep.tw.DecOk := by
  intro args hc a h
  have h : laws_toStep.dec args hc = some a := h
  unfold laws_toStep.dec at h
  split at h
  · cases h; exact ⟨rfl, rfl⟩
  · cases h
noncomputable def laws_toStep.O (k : Nat) : Oracle := noO
def laws_toStep.fh : FH := ⟨fun i => match i with | _ => none, [], false⟩
set_option maxRecDepth 100000 in
theorem laws_toStep.ef (k : Nat) (a0_0 : Int) (a0_1 : ByteArray) (a0_2 : Int) (a0_3 : Int) : R.start Try.prog xhn laws_toStep.O 0 Try.f143 laws_toStep.fh k [.agg [.int .i64 a0_0, .str a0_1, .int .i64 a0_2, .int .i64 a0_3]] [] = (some (laws_toStep.en (a0_0, a0_1, a0_2, a0_3))) := by kernel_rfl
theorem laws_toStep.sf (k : Nat) (a0_0 : Int) (a0_1 : ByteArray) (a0_2 : Int) (a0_3 : Int) : R.start Try.prog xhn laws_toStep.O 0 Try.f143 laws_toStep.fh k [.agg [.int .i64 a0_0, .str a0_1, .int .i64 a0_2, .int .i64 a0_3]] [] = (laws_toStep.f a0_0 a0_1 a0_2 a0_3).map (laws_toStep.en) := by
  rw [laws_toStep.ef]
  simp only [laws_toStep.f, R.map_ite, R.map_bind, R.map_none, R.map_some]
theorem laws_toStep.ok (k : Nat) : laws_toStep.tw.Ok Try.prog k := by
  intro a r h
  refine fn_ok (H := xhn) (fh := laws_toStep.fh) (O := laws_toStep.O) (k := k) Try.func143 (by kernel_rfl) (by kernel_rfl) (fun j _ => noO_sound) (by kernel_rfl) (m := 0) rfl ?_
  refine (laws_toStep.sf k a.1 a.2.1 a.2.2.1 a.2.2.2).trans ?_
  exact congrArg (Option.map _) h
def laws_toStepS.l0 : Nat → (List Stp) → (List Stp) → Int → Option (List Stp)
  | 0, _, _, _ => none
  | k + 1, x0, y0, x4 => (if x4 < (x0.length : Int) then (if 0 ≤ x4 then ((laws_toStep.f ((rdT x0 x4).f0) ((rdT x0 x4).f1) ((rdT x0 x4).f2) ((rdT x0 x4).f3)).bind fun t1 => (if x4 < (y0.length : Int) then (laws_toStepS.l0 k x0 (y0.set x4.toNat (⟨t1.1, t1.2.1, t1.2.2.1, t1.2.2.2⟩ : Stp)) (wrap64 (x4 + 1))) else none)) else none) else (some y0))
def laws_toStepS.f (k : Nat) (l0 : List Stp) : Option (List Stp) := (if 0 ≤ (l0.length : Int) then (if (l0.length : Int).toNat ≤ 3518437208883 then (laws_toStepS.l0 k l0 (List.replicate (l0.length : Int).toNat (⟨0, (⟨#[]⟩ : ByteArray), 0, 0⟩ : Stp)) 0) else none) else none)
def laws_toStepS.en (r : List Stp) : Res := (.sl 0 0, [.arr 92 0 (.T r) false])
def laws_toStepS.dec : List AV → List R.Obj → Option (List Stp)
  | [.imm (.T l0)], [] => some l0
  | _, _ => none
def laws_toStepS.tw : Tw := ⟨81, List Stp, List Stp, laws_toStepS.dec, fun a => [.imm (.T a)], fun a => [], fun k a => laws_toStepS.f k a, fun a r => laws_toStepS.en r⟩
theorem laws_toStepS.dok : laws_toStepS.tw.DecOk := by
  intro args hc a h
  have h : laws_toStepS.dec args hc = some a := h
  unfold laws_toStepS.dec at h
  split at h
  · cases h; exact ⟨rfl, rfl⟩
  · cases h
noncomputable def laws_toStepS.O (k : Nat) : Oracle := (laws_toStep.tw.orc k noO)
def laws_toStepS.fh : FH := ⟨fun i => match i with | 3 => some [(0, 0), (3, 0), (4, 0)] | _ => none, [(true, 92)], false⟩
noncomputable def laws_toStepS.x0 (k : Nat) (x0 : List Stp) (y0 : List Stp) (x4 : Int) : Option Res := R.exec Try.prog xhn laws_toStepS.O 0 Try.f81 laws_toStepS.fh k (R.point Try.f81 3) ⟨[(0, .imm (.T x0)), (3, .sl 0 0), (4, .int .i64 x4)], [(0, .arr 92 0 (.T y0) false)], 3⟩
set_option maxRecDepth 100000 in
theorem laws_toStepS.e0 (k : Nat) (x0 : List Stp) (y0 : List Stp) (x4 : Int) : laws_toStepS.x0 (k + 1) x0 y0 x4 = (if x4 < (x0.length : Int) then (if 0 ≤ x4 then ((laws_toStep.f ((rdT x0 x4).f0) ((rdT x0 x4).f1) ((rdT x0 x4).f2) ((rdT x0 x4).f3)).bind fun t1 => (if x4 < (y0.length : Int) then (laws_toStepS.x0 k x0 (y0.set x4.toNat (⟨t1.1, t1.2.1, t1.2.2.1, t1.2.2.2⟩ : Stp)) (wrap64 (x4 + 1))) else none)) else none) else (some (laws_toStepS.en y0))) := by
  refine Eq.trans ?_ (R.icong (fun h0 => (R.icong (fun h1 => (R.idropT (p := x4 < (x0.length : Int)) (z := none) h0 (R.bcong fun t1 => (R.idropT (p := 0 ≤ x4) (z := none) h1 rfl)))) (fun h1 => rfl))) (fun h0 => rfl))
  kernel_rfl
set_option maxRecDepth 100000 in
theorem laws_toStepS.ef (k : Nat) (l0 : List Stp) : R.start Try.prog xhn laws_toStepS.O 0 Try.f81 laws_toStepS.fh k [.imm (.T l0)] [] = (if 0 ≤ (l0.length : Int) then (if (l0.length : Int).toNat ≤ 3518437208883 then (laws_toStepS.x0 k l0 (List.replicate (l0.length : Int).toNat (⟨0, (⟨#[]⟩ : ByteArray), 0, 0⟩ : Stp)) 0) else none) else none) := by
  refine Eq.trans ?_ (R.icong (fun h0 => (R.idropT (p := (l0.length : Int) = (l0.length : Int)) (z := none) rfl rfl)) (fun h0 => rfl))
  kernel_rfl
theorem laws_toStepS.link : ∀ k, (∀ (x0 : List Stp) (y0 : List Stp) (x4 : Int), laws_toStepS.x0 k x0 y0 x4 = (laws_toStepS.l0 k x0 y0 x4).map (laws_toStepS.en))
  | 0 => fun _ _ _ => by simp only [laws_toStepS.l0, R.map_none]; rfl
  | k + 1 => by
    have ih0 := laws_toStepS.link k
    · intro x0 y0 x4
      rw [laws_toStepS.e0]
      simp only [laws_toStepS.l0, R.map_ite, R.map_bind, R.map_none, R.map_some, ← ih0]
theorem laws_toStepS.sf (k : Nat) (l0 : List Stp) : R.start Try.prog xhn laws_toStepS.O 0 Try.f81 laws_toStepS.fh k [.imm (.T l0)] [] = (laws_toStepS.f k l0).map (laws_toStepS.en) := by
  have ih0 := laws_toStepS.link k
  rw [laws_toStepS.ef]
  simp only [laws_toStepS.f, R.map_ite, R.map_bind, R.map_none, R.map_some, ← ih0]
theorem laws_toStepS.ok (k : Nat) : laws_toStepS.tw.Ok Try.prog k := by
  intro a r h
  refine fn_ok (H := xhn) (fh := laws_toStepS.fh) (O := laws_toStepS.O) (k := k) Try.func81 (by kernel_rfl) (by kernel_rfl) (fun j _ => (Tw.orc_sound laws_toStep.dok (laws_toStep.ok j) noO_sound)) (by kernel_rfl) (m := 0) rfl ?_
  refine (laws_toStepS.sf k a).trans ?_
  exact congrArg (Option.map _) h
def laws_toAutomaton.f (k : Nat) (a0_0 : Int) (l0_1 : List Int) (l0_2 : List Int) (l0_3 : List Stp) : Option (Int × (List Int) × (List Int) × (List Stp)) := ((laws_toIntS.f k l0_1).bind fun t1 => ((laws_toIntS.f k l0_2).bind fun t2 => ((laws_toStepS.f k l0_3).bind fun t3 => (some (a0_0, t1, t2, t3)))))
def laws_toAutomaton.en (r : Int × (List Int) × (List Int) × (List Stp)) : Res := (.agg [.int .i64 r.1, .sl 0 0, .sl 1 0, .sl 2 0], [.arr 3 0 (.I .i64 r.2.1) false, .arr 3 0 (.I .i64 r.2.2.1) false, .arr 92 0 (.T r.2.2.2) false])
def laws_toAutomaton.dec : List AV → List R.Obj → Option (Int × (List Int) × (List Int) × (List Stp))
  | [.agg [.int .i64 a0_0, .imm (.I .i64 l0_1), .imm (.I .i64 l0_2), .imm (.T l0_3)]], [] => some (a0_0, l0_1, l0_2, l0_3)
  | _, _ => none
def laws_toAutomaton.tw : Tw := ⟨15, Int × (List Int) × (List Int) × (List Stp), Int × (List Int) × (List Int) × (List Stp), laws_toAutomaton.dec, fun a => [.agg [.int .i64 a.1, .imm (.I .i64 a.2.1), .imm (.I .i64 a.2.2.1), .imm (.T a.2.2.2)]], fun a => [], fun k a => laws_toAutomaton.f k a.1 a.2.1 a.2.2.1 a.2.2.2, fun a r => laws_toAutomaton.en r⟩
theorem laws_toAutomaton.dok : laws_toAutomaton.tw.DecOk := by
  intro args hc a h
  have h : laws_toAutomaton.dec args hc = some a := h
  unfold laws_toAutomaton.dec at h
  split at h
  · cases h; exact ⟨rfl, rfl⟩
  · cases h
noncomputable def laws_toAutomaton.O (k : Nat) : Oracle := (laws_toIntS.tw.orc k (laws_toStepS.tw.orc k noO))
def laws_toAutomaton.fh : FH := ⟨fun i => match i with | _ => none, [(true, 3), (true, 3), (true, 92)], false⟩
set_option maxRecDepth 100000 in
theorem laws_toAutomaton.ef (k : Nat) (a0_0 : Int) (l0_1 : List Int) (l0_2 : List Int) (l0_3 : List Stp) : R.start Try.prog xhn laws_toAutomaton.O 0 Try.f15 laws_toAutomaton.fh k [.agg [.int .i64 a0_0, .imm (.I .i64 l0_1), .imm (.I .i64 l0_2), .imm (.T l0_3)]] [] = ((laws_toIntS.f k l0_1).bind fun t1 => ((laws_toIntS.f k l0_2).bind fun t2 => ((laws_toStepS.f k l0_3).bind fun t3 => (some (laws_toAutomaton.en (a0_0, t1, t2, t3)))))) := by kernel_rfl
theorem laws_toAutomaton.sf (k : Nat) (a0_0 : Int) (l0_1 : List Int) (l0_2 : List Int) (l0_3 : List Stp) : R.start Try.prog xhn laws_toAutomaton.O 0 Try.f15 laws_toAutomaton.fh k [.agg [.int .i64 a0_0, .imm (.I .i64 l0_1), .imm (.I .i64 l0_2), .imm (.T l0_3)]] [] = (laws_toAutomaton.f k a0_0 l0_1 l0_2 l0_3).map (laws_toAutomaton.en) := by
  rw [laws_toAutomaton.ef]
  simp only [laws_toAutomaton.f, R.map_ite, R.map_bind, R.map_none, R.map_some]
theorem laws_toAutomaton.ok (k : Nat) : laws_toAutomaton.tw.Ok Try.prog k := by
  intro a r h
  refine fn_ok (H := xhn) (fh := laws_toAutomaton.fh) (O := laws_toAutomaton.O) (k := k) Try.func15 (by kernel_rfl) (by kernel_rfl) (fun j _ => (Tw.orc_sound laws_toIntS.dok (laws_toIntS.ok j) (Tw.orc_sound laws_toStepS.dok (laws_toStepS.ok j) noO_sound))) (by kernel_rfl) (m := 0) rfl ?_
  refine (laws_toAutomaton.sf k a.1 a.2.1 a.2.2.1 a.2.2.2).trans ?_
  exact congrArg (Option.map _) h
def laws_toMatrix.f (k : Nat) (a0_0 : Int) (l0_1 : List Int) : Option (Int × (List Int)) := ((laws_toIntS.f k l0_1).bind fun t1 => (some (a0_0, t1)))
def laws_toMatrix.en (r : Int × (List Int)) : Res := (.agg [.int .i64 r.1, .sl 0 0], [.arr 3 0 (.I .i64 r.2) false])
def laws_toMatrix.dec : List AV → List R.Obj → Option (Int × (List Int))
  | [.agg [.int .i64 a0_0, .imm (.I .i64 l0_1)]], [] => some (a0_0, l0_1)
  | _, _ => none
def laws_toMatrix.tw : Tw := ⟨49, Int × (List Int), Int × (List Int), laws_toMatrix.dec, fun a => [.agg [.int .i64 a.1, .imm (.I .i64 a.2)]], fun a => [], fun k a => laws_toMatrix.f k a.1 a.2, fun a r => laws_toMatrix.en r⟩
theorem laws_toMatrix.dok : laws_toMatrix.tw.DecOk := by
  intro args hc a h
  have h : laws_toMatrix.dec args hc = some a := h
  unfold laws_toMatrix.dec at h
  split at h
  · cases h; exact ⟨rfl, rfl⟩
  · cases h
noncomputable def laws_toMatrix.O (k : Nat) : Oracle := (laws_toIntS.tw.orc k noO)
def laws_toMatrix.fh : FH := ⟨fun i => match i with | _ => none, [(true, 3)], false⟩
set_option maxRecDepth 100000 in
theorem laws_toMatrix.ef (k : Nat) (a0_0 : Int) (l0_1 : List Int) : R.start Try.prog xhn laws_toMatrix.O 0 Try.f49 laws_toMatrix.fh k [.agg [.int .i64 a0_0, .imm (.I .i64 l0_1)]] [] = ((laws_toIntS.f k l0_1).bind fun t1 => (some (laws_toMatrix.en (a0_0, t1)))) := by kernel_rfl
theorem laws_toMatrix.sf (k : Nat) (a0_0 : Int) (l0_1 : List Int) : R.start Try.prog xhn laws_toMatrix.O 0 Try.f49 laws_toMatrix.fh k [.agg [.int .i64 a0_0, .imm (.I .i64 l0_1)]] [] = (laws_toMatrix.f k a0_0 l0_1).map (laws_toMatrix.en) := by
  rw [laws_toMatrix.ef]
  simp only [laws_toMatrix.f, R.map_ite, R.map_bind, R.map_none, R.map_some]
theorem laws_toMatrix.ok (k : Nat) : laws_toMatrix.tw.Ok Try.prog k := by
  intro a r h
  refine fn_ok (H := xhn) (fh := laws_toMatrix.fh) (O := laws_toMatrix.O) (k := k) Try.func49 (by kernel_rfl) (by kernel_rfl) (fun j _ => (Tw.orc_sound laws_toIntS.dok (laws_toIntS.ok j) noO_sound)) (by kernel_rfl) (m := 0) rfl ?_
  refine (laws_toMatrix.sf k a.1 a.2).trans ?_
  exact congrArg (Option.map _) h
def spec_l1In.f (a0 : Int) (a1 : Int) (a2 : Int) : Option (Bool) := (if a0 ≥ a1 then (some (decide (a0 ≤ a2))) else (some false))
def spec_l1In.en (r : Bool) : Res := (.lit r, [])
def spec_l1In.dec : List AV → List R.Obj → Option (Int × Int × Int)
  | [.int .i64 a0, .int .i64 a1, .int .i64 a2], [] => some (a0, a1, a2)
  | _, _ => none
def spec_l1In.tw : Tw := ⟨86, Int × Int × Int, Bool, spec_l1In.dec, fun a => [.int .i64 a.1, .int .i64 a.2.1, .int .i64 a.2.2], fun a => [], fun k a => spec_l1In.f a.1 a.2.1 a.2.2, fun a r => spec_l1In.en r⟩
theorem spec_l1In.dok : spec_l1In.tw.DecOk := by
  intro args hc a h
  have h : spec_l1In.dec args hc = some a := h
  unfold spec_l1In.dec at h
  split at h
  · cases h; exact ⟨rfl, rfl⟩
  · cases h
noncomputable def spec_l1In.O (k : Nat) : Oracle := noO
def spec_l1In.fh : FH := ⟨fun i => match i with | _ => none, [], false⟩
set_option maxRecDepth 100000 in
theorem spec_l1In.ef (k : Nat) (a0 : Int) (a1 : Int) (a2 : Int) : R.start Try.prog xhn spec_l1In.O 0 Try.f86 spec_l1In.fh k [.int .i64 a0, .int .i64 a1, .int .i64 a2] [] = (if a0 ≥ a1 then (some (spec_l1In.en (decide (a0 ≤ a2)))) else (some (spec_l1In.en false))) := by kernel_rfl
theorem spec_l1In.sf (k : Nat) (a0 : Int) (a1 : Int) (a2 : Int) : R.start Try.prog xhn spec_l1In.O 0 Try.f86 spec_l1In.fh k [.int .i64 a0, .int .i64 a1, .int .i64 a2] [] = (spec_l1In.f a0 a1 a2).map (spec_l1In.en) := by
  rw [spec_l1In.ef]
  simp only [spec_l1In.f, R.map_ite, R.map_bind, R.map_none, R.map_some]
theorem spec_l1In.ok (k : Nat) : spec_l1In.tw.Ok Try.prog k := by
  intro a r h
  refine fn_ok (H := xhn) (fh := spec_l1In.fh) (O := spec_l1In.O) (k := k) Try.func86 (by kernel_rfl) (by kernel_rfl) (fun j _ => noO_sound) (by kernel_rfl) (m := 0) rfl ?_
  refine (spec_l1In.sf k a.1 a.2.1 a.2.2).trans ?_
  exact congrArg (Option.map _) h
def spec_l3Marks.l0 : Nat → Int → (List Int) → (List Int) → Int → Int → Option (Bool)
  | 0, _, _, _, _, _ => none
  | k + 1, x0, x1, x7, x8, x9 => (if x9 < x8 then (if 0 ≤ x9 then (if x9 < (x7.length : Int) then ((spec_l1In.f (rdI x7 x9) 0 (wrap64 (x0 - 1))).bind fun t1 => (if t1 = true then (if x9 > 0 then (if 0 ≤ (wrap64 (x9 - 1)) then (if (wrap64 (x9 - 1)) < (x1.length : Int) then (if (rdI x1 (wrap64 (x9 - 1))) ≥ (rdI x7 x9) then (some false) else (spec_l3Marks.l0 k x0 x1 x7 x8 (wrap64 (x9 + 1)))) else none) else none) else (spec_l3Marks.l0 k x0 x1 x7 x8 (wrap64 (x9 + 1)))) else (some false))) else none) else none) else (some true))
def spec_l3Marks.f (k : Nat) (a0 : Int) (l1 : List Int) : Option (Bool) := (spec_l3Marks.l0 k a0 l1 l1 (l1.length : Int) 0)
def spec_l3Marks.en (r : Bool) : Res := (.lit r, [])
def spec_l3Marks.dec : List AV → List R.Obj → Option (Int × (List Int))
  | [.int .i64 a0, .imm (.I .i64 l1)], [] => some (a0, l1)
  | _, _ => none
def spec_l3Marks.tw : Tw := ⟨146, Int × (List Int), Bool, spec_l3Marks.dec, fun a => [.int .i64 a.1, .imm (.I .i64 a.2)], fun a => [], fun k a => spec_l3Marks.f k a.1 a.2, fun a r => spec_l3Marks.en r⟩
theorem spec_l3Marks.dok : spec_l3Marks.tw.DecOk := by
  intro args hc a h
  have h : spec_l3Marks.dec args hc = some a := h
  unfold spec_l3Marks.dec at h
  split at h
  · cases h; exact ⟨rfl, rfl⟩
  · cases h
noncomputable def spec_l3Marks.O (k : Nat) : Oracle := (spec_l1In.tw.orc k noO)
def spec_l3Marks.fh : FH := ⟨fun i => match i with | 2 => some [(0, 0), (1, 0), (7, 0), (8, 0), (9, 0)] | _ => none, [], false⟩
noncomputable def spec_l3Marks.x0 (k : Nat) (x0 : Int) (x1 : List Int) (x7 : List Int) (x8 : Int) (x9 : Int) : Option Res := R.exec Try.prog xhn spec_l3Marks.O 0 Try.f146 spec_l3Marks.fh k (R.point Try.f146 2) ⟨[(0, .int .i64 x0), (1, .imm (.I .i64 x1)), (7, .imm (.I .i64 x7)), (8, .int .i64 x8), (9, .int .i64 x9)], [], 2⟩
set_option maxRecDepth 100000 in
theorem spec_l3Marks.e0 (k : Nat) (x0 : Int) (x1 : List Int) (x7 : List Int) (x8 : Int) (x9 : Int) : spec_l3Marks.x0 (k + 1) x0 x1 x7 x8 x9 = (if x9 < x8 then (if 0 ≤ x9 then (if x9 < (x7.length : Int) then ((spec_l1In.f (rdI x7 x9) 0 (wrap64 (x0 - 1))).bind fun t1 => (if t1 = true then (if x9 > 0 then (if 0 ≤ (wrap64 (x9 - 1)) then (if (wrap64 (x9 - 1)) < (x1.length : Int) then (if (rdI x1 (wrap64 (x9 - 1))) ≥ (rdI x7 x9) then (some (spec_l3Marks.en false)) else (spec_l3Marks.x0 k x0 x1 x7 x8 (wrap64 (x9 + 1)))) else none) else none) else (spec_l3Marks.x0 k x0 x1 x7 x8 (wrap64 (x9 + 1)))) else (some (spec_l3Marks.en false)))) else none) else none) else (some (spec_l3Marks.en true))) := by kernel_rfl
set_option maxRecDepth 100000 in
theorem spec_l3Marks.ef (k : Nat) (a0 : Int) (l1 : List Int) : R.start Try.prog xhn spec_l3Marks.O 0 Try.f146 spec_l3Marks.fh k [.int .i64 a0, .imm (.I .i64 l1)] [] = (spec_l3Marks.x0 k a0 l1 l1 (l1.length : Int) 0) := by kernel_rfl
theorem spec_l3Marks.link : ∀ k, (∀ (x0 : Int) (x1 : List Int) (x7 : List Int) (x8 : Int) (x9 : Int), spec_l3Marks.x0 k x0 x1 x7 x8 x9 = (spec_l3Marks.l0 k x0 x1 x7 x8 x9).map (spec_l3Marks.en))
  | 0 => fun _ _ _ _ _ => by simp only [spec_l3Marks.l0, R.map_none]; rfl
  | k + 1 => by
    have ih0 := spec_l3Marks.link k
    · intro x0 x1 x7 x8 x9
      rw [spec_l3Marks.e0]
      simp only [spec_l3Marks.l0, R.map_ite, R.map_bind, R.map_none, R.map_some, ← ih0]
theorem spec_l3Marks.sf (k : Nat) (a0 : Int) (l1 : List Int) : R.start Try.prog xhn spec_l3Marks.O 0 Try.f146 spec_l3Marks.fh k [.int .i64 a0, .imm (.I .i64 l1)] [] = (spec_l3Marks.f k a0 l1).map (spec_l3Marks.en) := by
  have ih0 := spec_l3Marks.link k
  rw [spec_l3Marks.ef]
  simp only [spec_l3Marks.f, R.map_ite, R.map_bind, R.map_none, R.map_some, ← ih0]
theorem spec_l3Marks.ok (k : Nat) : spec_l3Marks.tw.Ok Try.prog k := by
  intro a r h
  refine fn_ok (H := xhn) (fh := spec_l3Marks.fh) (O := spec_l3Marks.O) (k := k) Try.func146 (by kernel_rfl) (by kernel_rfl) (fun j _ => (Tw.orc_sound spec_l1In.dok (spec_l1In.ok j) noO_sound)) (by kernel_rfl) (m := 0) rfl ?_
  refine (spec_l3Marks.sf k a.1 a.2).trans ?_
  exact congrArg (Option.map _) h
def spec_l3Step.f (a0 : Int) (a1_0 : Int) (a1_1 : ByteArray) (a1_2 : Int) (a1_3 : Int) : Option (Bool) := ((spec_l1In.f a1_0 0 (wrap64 (a0 - 1))).bind fun t1 => (if t1 = true then ((spec_l1In.f a1_2 0 (wrap64 (a0 - 1))).bind fun t2 => (if t2 = true then ((spec_l1In.f a1_3 0 3).bind fun t3 => (if t3 = true then (if a1_1.toList = ([97] : List UInt8) then (some true) else (some (decide (a1_1.toList = ([98] : List UInt8))))) else (some false))) else (some false))) else (some false)))
def spec_l3Step.en (r : Bool) : Res := (.lit r, [])
def spec_l3Step.dec : List AV → List R.Obj → Option (Int × Int × ByteArray × Int × Int)
  | [.int .i64 a0, .agg [.int .i64 a1_0, .str a1_1, .int .i64 a1_2, .int .i64 a1_3]], [] => some (a0, a1_0, a1_1, a1_2, a1_3)
  | _, _ => none
def spec_l3Step.tw : Tw := ⟨147, Int × Int × ByteArray × Int × Int, Bool, spec_l3Step.dec, fun a => [.int .i64 a.1, .agg [.int .i64 a.2.1, .str a.2.2.1, .int .i64 a.2.2.2.1, .int .i64 a.2.2.2.2]], fun a => [], fun k a => spec_l3Step.f a.1 a.2.1 a.2.2.1 a.2.2.2.1 a.2.2.2.2, fun a r => spec_l3Step.en r⟩
theorem spec_l3Step.dok : spec_l3Step.tw.DecOk := by
  intro args hc a h
  have h : spec_l3Step.dec args hc = some a := h
  unfold spec_l3Step.dec at h
  split at h
  · cases h; exact ⟨rfl, rfl⟩
  · cases h
noncomputable def spec_l3Step.O (k : Nat) : Oracle := (spec_l1In.tw.orc k noO)
def spec_l3Step.fh : FH := ⟨fun i => match i with | _ => none, [], false⟩
set_option maxRecDepth 100000 in
theorem spec_l3Step.ef (k : Nat) (a0 : Int) (a1_0 : Int) (a1_1 : ByteArray) (a1_2 : Int) (a1_3 : Int) : R.start Try.prog xhn spec_l3Step.O 0 Try.f147 spec_l3Step.fh k [.int .i64 a0, .agg [.int .i64 a1_0, .str a1_1, .int .i64 a1_2, .int .i64 a1_3]] [] = ((spec_l1In.f a1_0 0 (wrap64 (a0 - 1))).bind fun t1 => (if t1 = true then ((spec_l1In.f a1_2 0 (wrap64 (a0 - 1))).bind fun t2 => (if t2 = true then ((spec_l1In.f a1_3 0 3).bind fun t3 => (if t3 = true then (if a1_1.toList = ([97] : List UInt8) then (some (spec_l3Step.en true)) else (some (spec_l3Step.en (decide (a1_1.toList = ([98] : List UInt8)))))) else (some (spec_l3Step.en false)))) else (some (spec_l3Step.en false)))) else (some (spec_l3Step.en false)))) := by kernel_rfl
theorem spec_l3Step.sf (k : Nat) (a0 : Int) (a1_0 : Int) (a1_1 : ByteArray) (a1_2 : Int) (a1_3 : Int) : R.start Try.prog xhn spec_l3Step.O 0 Try.f147 spec_l3Step.fh k [.int .i64 a0, .agg [.int .i64 a1_0, .str a1_1, .int .i64 a1_2, .int .i64 a1_3]] [] = (spec_l3Step.f a0 a1_0 a1_1 a1_2 a1_3).map (spec_l3Step.en) := by
  rw [spec_l3Step.ef]
  simp only [spec_l3Step.f, R.map_ite, R.map_bind, R.map_none, R.map_some]
theorem spec_l3Step.ok (k : Nat) : spec_l3Step.tw.Ok Try.prog k := by
  intro a r h
  refine fn_ok (H := xhn) (fh := spec_l3Step.fh) (O := spec_l3Step.O) (k := k) Try.func147 (by kernel_rfl) (by kernel_rfl) (fun j _ => (Tw.orc_sound spec_l1In.dok (spec_l1In.ok j) noO_sound)) (by kernel_rfl) (m := 0) rfl ?_
  refine (spec_l3Step.sf k a.1 a.2.1 a.2.2.1 a.2.2.2.1 a.2.2.2.2).trans ?_
  exact congrArg (Option.map _) h
def spec_l3Before.f (a0_0 : Int) (a0_1 : ByteArray) (a0_2 : Int) (a0_3 : Int) (a1_0 : Int) (a1_1 : ByteArray) (a1_2 : Int) (a1_3 : Int) : Option (Bool) := (if a0_0 = a1_0 then (if a0_1.toList = a1_1.toList then (some (decide (a0_2 < a1_2))) else (some (Op.bytesLess a0_1.toList a1_1.toList))) else (some (decide (a0_0 < a1_0))))
def spec_l3Before.en (r : Bool) : Res := (.lit r, [])
def spec_l3Before.dec : List AV → List R.Obj → Option (Int × ByteArray × Int × Int × Int × ByteArray × Int × Int)
  | [.agg [.int .i64 a0_0, .str a0_1, .int .i64 a0_2, .int .i64 a0_3], .agg [.int .i64 a1_0, .str a1_1, .int .i64 a1_2, .int .i64 a1_3]], [] => some (a0_0, a0_1, a0_2, a0_3, a1_0, a1_1, a1_2, a1_3)
  | _, _ => none
def spec_l3Before.tw : Tw := ⟨148, Int × ByteArray × Int × Int × Int × ByteArray × Int × Int, Bool, spec_l3Before.dec, fun a => [.agg [.int .i64 a.1, .str a.2.1, .int .i64 a.2.2.1, .int .i64 a.2.2.2.1], .agg [.int .i64 a.2.2.2.2.1, .str a.2.2.2.2.2.1, .int .i64 a.2.2.2.2.2.2.1, .int .i64 a.2.2.2.2.2.2.2]], fun a => [], fun k a => spec_l3Before.f a.1 a.2.1 a.2.2.1 a.2.2.2.1 a.2.2.2.2.1 a.2.2.2.2.2.1 a.2.2.2.2.2.2.1 a.2.2.2.2.2.2.2, fun a r => spec_l3Before.en r⟩
theorem spec_l3Before.dok : spec_l3Before.tw.DecOk := by
  intro args hc a h
  have h : spec_l3Before.dec args hc = some a := h
  unfold spec_l3Before.dec at h
  split at h
  · cases h; exact ⟨rfl, rfl⟩
  · cases h
noncomputable def spec_l3Before.O (k : Nat) : Oracle := noO
def spec_l3Before.fh : FH := ⟨fun i => match i with | _ => none, [], false⟩
set_option maxRecDepth 100000 in
theorem spec_l3Before.ef (k : Nat) (a0_0 : Int) (a0_1 : ByteArray) (a0_2 : Int) (a0_3 : Int) (a1_0 : Int) (a1_1 : ByteArray) (a1_2 : Int) (a1_3 : Int) : R.start Try.prog xhn spec_l3Before.O 0 Try.f148 spec_l3Before.fh k [.agg [.int .i64 a0_0, .str a0_1, .int .i64 a0_2, .int .i64 a0_3], .agg [.int .i64 a1_0, .str a1_1, .int .i64 a1_2, .int .i64 a1_3]] [] = (if a0_0 = a1_0 then (if a0_1.toList = a1_1.toList then (some (spec_l3Before.en (decide (a0_2 < a1_2)))) else (some (spec_l3Before.en (Op.bytesLess a0_1.toList a1_1.toList)))) else (some (spec_l3Before.en (decide (a0_0 < a1_0))))) := by kernel_rfl
theorem spec_l3Before.sf (k : Nat) (a0_0 : Int) (a0_1 : ByteArray) (a0_2 : Int) (a0_3 : Int) (a1_0 : Int) (a1_1 : ByteArray) (a1_2 : Int) (a1_3 : Int) : R.start Try.prog xhn spec_l3Before.O 0 Try.f148 spec_l3Before.fh k [.agg [.int .i64 a0_0, .str a0_1, .int .i64 a0_2, .int .i64 a0_3], .agg [.int .i64 a1_0, .str a1_1, .int .i64 a1_2, .int .i64 a1_3]] [] = (spec_l3Before.f a0_0 a0_1 a0_2 a0_3 a1_0 a1_1 a1_2 a1_3).map (spec_l3Before.en) := by
  rw [spec_l3Before.ef]
  simp only [spec_l3Before.f, R.map_ite, R.map_bind, R.map_none, R.map_some]
theorem spec_l3Before.ok (k : Nat) : spec_l3Before.tw.Ok Try.prog k := by
  intro a r h
  refine fn_ok (H := xhn) (fh := spec_l3Before.fh) (O := spec_l3Before.O) (k := k) Try.func148 (by kernel_rfl) (by kernel_rfl) (fun j _ => noO_sound) (by kernel_rfl) (m := 0) rfl ?_
  refine (spec_l3Before.sf k a.1 a.2.1 a.2.2.1 a.2.2.2.1 a.2.2.2.2.1 a.2.2.2.2.2.1 a.2.2.2.2.2.2.1 a.2.2.2.2.2.2.2).trans ?_
  exact congrArg (Option.map _) h
def spec_AutomatonValid.l0 : Nat → (List Stp) → Int → Int → Int → (List Int) → (List Int) → (List Stp) → Option (Bool)
  | 0, _, _, _, _, _, _, _ => none
  | k + 1, x32, x33, x34, y0_0, y0_1, y0_2, y0_3 => (if x34 < x33 then (if 0 ≤ x34 then (if x34 < (x32.length : Int) then ((spec_l3Step.f y0_0 ((rdT x32 x34).f0) ((rdT x32 x34).f1) ((rdT x32 x34).f2) ((rdT x32 x34).f3)).bind fun t4 => (if t4 = true then (if x34 > 0 then (if 0 ≤ (wrap64 (x34 - 1)) then (if (wrap64 (x34 - 1)) < (y0_3.length : Int) then ((spec_l3Before.f ((rdT y0_3 (wrap64 (x34 - 1))).f0) ((rdT y0_3 (wrap64 (x34 - 1))).f1) ((rdT y0_3 (wrap64 (x34 - 1))).f2) ((rdT y0_3 (wrap64 (x34 - 1))).f3) ((rdT x32 x34).f0) ((rdT x32 x34).f1) ((rdT x32 x34).f2) ((rdT x32 x34).f3)).bind fun t5 => (if t5 = true then (spec_AutomatonValid.l0 k x32 x33 (wrap64 (x34 + 1)) y0_0 y0_1 y0_2 y0_3) else (some false))) else none) else none) else (spec_AutomatonValid.l0 k x32 x33 (wrap64 (x34 + 1)) y0_0 y0_1 y0_2 y0_3)) else (some false))) else none) else none) else (some true))
def spec_AutomatonValid.f (k : Nat) (a0_0 : Int) (l0_1 : List Int) (l0_2 : List Int) (l0_3 : List Stp) : Option (Bool) := ((spec_l1In.f a0_0 1 4).bind fun t1 => (if t1 = true then ((spec_l3Marks.f k a0_0 l0_1).bind fun t2 => (if t2 = true then ((spec_l3Marks.f k a0_0 l0_2).bind fun t3 => (if t3 = true then (if (l0_3.length : Int) > 24 then (some false) else (spec_AutomatonValid.l0 k l0_3 (l0_3.length : Int) 0 a0_0 l0_1 l0_2 l0_3)) else (some false))) else (some false))) else (some false)))
def spec_AutomatonValid.en (r : Bool) : Res := (.lit r, [])
def spec_AutomatonValid.dec : List AV → List R.Obj → Option (Int × (List Int) × (List Int) × (List Stp))
  | [.agg [.int .i64 a0_0, .imm (.I .i64 l0_1), .imm (.I .i64 l0_2), .imm (.T l0_3)]], [] => some (a0_0, l0_1, l0_2, l0_3)
  | _, _ => none
def spec_AutomatonValid.tw : Tw := ⟨85, Int × (List Int) × (List Int) × (List Stp), Bool, spec_AutomatonValid.dec, fun a => [.agg [.int .i64 a.1, .imm (.I .i64 a.2.1), .imm (.I .i64 a.2.2.1), .imm (.T a.2.2.2)]], fun a => [], fun k a => spec_AutomatonValid.f k a.1 a.2.1 a.2.2.1 a.2.2.2, fun a r => spec_AutomatonValid.en r⟩
theorem spec_AutomatonValid.dok : spec_AutomatonValid.tw.DecOk := by
  intro args hc a h
  have h : spec_AutomatonValid.dec args hc = some a := h
  unfold spec_AutomatonValid.dec at h
  split at h
  · cases h; exact ⟨rfl, rfl⟩
  · cases h
noncomputable def spec_AutomatonValid.O (k : Nat) : Oracle := (spec_l1In.tw.orc k (spec_l3Marks.tw.orc k (spec_l3Step.tw.orc k (spec_l3Before.tw.orc k noO))))
def spec_AutomatonValid.fh : FH := ⟨fun i => match i with | 4 => some [(1, 0), (32, 0), (33, 0), (34, 0)] | _ => none, [], false⟩
noncomputable def spec_AutomatonValid.x0 (k : Nat) (x32 : List Stp) (x33 : Int) (x34 : Int) (y0_0 : Int) (y0_1 : List Int) (y0_2 : List Int) (y0_3 : List Stp) : Option Res := R.exec Try.prog xhn spec_AutomatonValid.O 0 Try.f85 spec_AutomatonValid.fh k (R.point Try.f85 4) ⟨[(1, .ptr 0 0), (32, .imm (.T x32)), (33, .int .i64 x33), (34, .int .i64 x34)], [(0, .box false [.int .i64 y0_0, .imm (.I .i64 y0_1), .imm (.I .i64 y0_2), .imm (.T y0_3)])], 3⟩
set_option maxRecDepth 100000 in
theorem spec_AutomatonValid.e0 (k : Nat) (x32 : List Stp) (x33 : Int) (x34 : Int) (y0_0 : Int) (y0_1 : List Int) (y0_2 : List Int) (y0_3 : List Stp) : spec_AutomatonValid.x0 (k + 1) x32 x33 x34 y0_0 y0_1 y0_2 y0_3 = (if x34 < x33 then (if 0 ≤ x34 then (if x34 < (x32.length : Int) then ((spec_l3Step.f y0_0 ((rdT x32 x34).f0) ((rdT x32 x34).f1) ((rdT x32 x34).f2) ((rdT x32 x34).f3)).bind fun t4 => (if t4 = true then (if x34 > 0 then (if 0 ≤ (wrap64 (x34 - 1)) then (if (wrap64 (x34 - 1)) < (y0_3.length : Int) then ((spec_l3Before.f ((rdT y0_3 (wrap64 (x34 - 1))).f0) ((rdT y0_3 (wrap64 (x34 - 1))).f1) ((rdT y0_3 (wrap64 (x34 - 1))).f2) ((rdT y0_3 (wrap64 (x34 - 1))).f3) ((rdT x32 x34).f0) ((rdT x32 x34).f1) ((rdT x32 x34).f2) ((rdT x32 x34).f3)).bind fun t5 => (if t5 = true then (spec_AutomatonValid.x0 k x32 x33 (wrap64 (x34 + 1)) y0_0 y0_1 y0_2 y0_3) else (some (spec_AutomatonValid.en false)))) else none) else none) else (spec_AutomatonValid.x0 k x32 x33 (wrap64 (x34 + 1)) y0_0 y0_1 y0_2 y0_3)) else (some (spec_AutomatonValid.en false)))) else none) else none) else (some (spec_AutomatonValid.en true))) := by kernel_rfl
set_option maxRecDepth 100000 in
theorem spec_AutomatonValid.ef (k : Nat) (a0_0 : Int) (l0_1 : List Int) (l0_2 : List Int) (l0_3 : List Stp) : R.start Try.prog xhn spec_AutomatonValid.O 0 Try.f85 spec_AutomatonValid.fh k [.agg [.int .i64 a0_0, .imm (.I .i64 l0_1), .imm (.I .i64 l0_2), .imm (.T l0_3)]] [] = ((spec_l1In.f a0_0 1 4).bind fun t1 => (if t1 = true then ((spec_l3Marks.f k a0_0 l0_1).bind fun t2 => (if t2 = true then ((spec_l3Marks.f k a0_0 l0_2).bind fun t3 => (if t3 = true then (if (l0_3.length : Int) > 24 then (some (spec_AutomatonValid.en false)) else (spec_AutomatonValid.x0 k l0_3 (l0_3.length : Int) 0 a0_0 l0_1 l0_2 l0_3)) else (some (spec_AutomatonValid.en false)))) else (some (spec_AutomatonValid.en false)))) else (some (spec_AutomatonValid.en false)))) := by kernel_rfl
theorem spec_AutomatonValid.link : ∀ k, (∀ (x32 : List Stp) (x33 : Int) (x34 : Int) (y0_0 : Int) (y0_1 : List Int) (y0_2 : List Int) (y0_3 : List Stp), spec_AutomatonValid.x0 k x32 x33 x34 y0_0 y0_1 y0_2 y0_3 = (spec_AutomatonValid.l0 k x32 x33 x34 y0_0 y0_1 y0_2 y0_3).map (spec_AutomatonValid.en))
  | 0 => fun _ _ _ _ _ _ _ => by simp only [spec_AutomatonValid.l0, R.map_none]; rfl
  | k + 1 => by
    have ih0 := spec_AutomatonValid.link k
    · intro x32 x33 x34 y0_0 y0_1 y0_2 y0_3
      rw [spec_AutomatonValid.e0]
      simp only [spec_AutomatonValid.l0, R.map_ite, R.map_bind, R.map_none, R.map_some, ← ih0]
theorem spec_AutomatonValid.sf (k : Nat) (a0_0 : Int) (l0_1 : List Int) (l0_2 : List Int) (l0_3 : List Stp) : R.start Try.prog xhn spec_AutomatonValid.O 0 Try.f85 spec_AutomatonValid.fh k [.agg [.int .i64 a0_0, .imm (.I .i64 l0_1), .imm (.I .i64 l0_2), .imm (.T l0_3)]] [] = (spec_AutomatonValid.f k a0_0 l0_1 l0_2 l0_3).map (spec_AutomatonValid.en) := by
  have ih0 := spec_AutomatonValid.link k
  rw [spec_AutomatonValid.ef]
  simp only [spec_AutomatonValid.f, R.map_ite, R.map_bind, R.map_none, R.map_some, ← ih0]
theorem spec_AutomatonValid.ok (k : Nat) : spec_AutomatonValid.tw.Ok Try.prog k := by
  intro a r h
  refine fn_ok (H := xhn) (fh := spec_AutomatonValid.fh) (O := spec_AutomatonValid.O) (k := k) Try.func85 (by kernel_rfl) (by kernel_rfl) (fun j _ => (Tw.orc_sound spec_l1In.dok (spec_l1In.ok j) (Tw.orc_sound spec_l3Marks.dok (spec_l3Marks.ok j) (Tw.orc_sound spec_l3Step.dok (spec_l3Step.ok j) (Tw.orc_sound spec_l3Before.dok (spec_l3Before.ok j) noO_sound))))) (by kernel_rfl) (m := 0) rfl ?_
  refine (spec_AutomatonValid.sf k a.1 a.2.1 a.2.2.1 a.2.2.2).trans ?_
  exact congrArg (Option.map _) h
mutual
def spec_l3Matrix.l0 : Nat → ByteArray → Int → Int → Int → (List Int) → (List Int) → (List Stp) → Int → (List Int) → Option (Int × (List Int))
  | 0, _, _, _, _, _, _, _, _, _ => none
  | k + 1, x1, x15, x16, y0_0, y0_1, y0_2, y0_3, y2_0, y4 => (if x16 < x15 then (if y4.length < 17592186044416 then (spec_l3Matrix.l0 k x1 x15 (wrap64 (x16 + 1)) y0_0 y0_1 y0_2 y0_3 y2_0 (y4 ++ [1000000])) else none) else (spec_l3Matrix.l1 k x1 y0_3 (y0_3.length : Int) 0 y0_0 y0_1 y0_2 y0_3 y2_0 y4))
def spec_l3Matrix.l1 : Nat → ByteArray → (List Stp) → Int → Int → Int → (List Int) → (List Int) → (List Stp) → Int → (List Int) → Option (Int × (List Int))
  | 0, _, _, _, _, _, _, _, _, _, _ => none
  | k + 1, x1, x25, x26, x27, y0_0, y0_1, y0_2, y0_3, y2_0, y4 => (if x27 < x26 then (if 0 ≤ x27 then (if x27 < (x25.length : Int) then (if (rdT x25 x27).f1.toList = x1.toList then (if 0 ≤ (wrap64 ((wrap64 ((rdT x25 x27).f0 * y0_0)) + (rdT x25 x27).f2)) then (if (wrap64 ((wrap64 ((rdT x25 x27).f0 * y0_0)) + (rdT x25 x27).f2)) < (y4.length : Int) then (spec_l3Matrix.l1 k x1 x25 x26 (wrap64 (x27 + 1)) y0_0 y0_1 y0_2 y0_3 y2_0 (y4.set (wrap64 ((wrap64 ((rdT x25 x27).f0 * y0_0)) + (rdT x25 x27).f2)).toNat (rdT x25 x27).f3)) else none) else none) else (spec_l3Matrix.l1 k x1 x25 x26 (wrap64 (x27 + 1)) y0_0 y0_1 y0_2 y0_3 y2_0 y4)) else none) else none) else (some (y2_0, y4)))
end
def spec_l3Matrix.f (k : Nat) (a0_0 : Int) (l0_1 : List Int) (l0_2 : List Int) (l0_3 : List Stp) (a1 : ByteArray) : Option (Int × (List Int)) := (spec_l3Matrix.l0 k a1 (wrap64 (a0_0 * a0_0)) 0 a0_0 l0_1 l0_2 l0_3 a0_0 ([] : List Int))
def spec_l3Matrix.en (r : Int × (List Int)) : Res := (.agg [.int .i64 r.1, .sl 0 0], [.arr 3 0 (.I .i64 r.2) false])
def spec_l3Matrix.dec : List AV → List R.Obj → Option (Int × (List Int) × (List Int) × (List Stp) × ByteArray)
  | [.agg [.int .i64 a0_0, .imm (.I .i64 l0_1), .imm (.I .i64 l0_2), .imm (.T l0_3)], .str a1], [] => some (a0_0, l0_1, l0_2, l0_3, a1)
  | _, _ => none
def spec_l3Matrix.tw : Tw := ⟨161, Int × (List Int) × (List Int) × (List Stp) × ByteArray, Int × (List Int), spec_l3Matrix.dec, fun a => [.agg [.int .i64 a.1, .imm (.I .i64 a.2.1), .imm (.I .i64 a.2.2.1), .imm (.T a.2.2.2.1)], .str a.2.2.2.2], fun a => [], fun k a => spec_l3Matrix.f k a.1 a.2.1 a.2.2.1 a.2.2.2.1 a.2.2.2.2, fun a r => spec_l3Matrix.en r⟩
theorem spec_l3Matrix.dok : spec_l3Matrix.tw.DecOk := by
  intro args hc a h
  have h : spec_l3Matrix.dec args hc = some a := h
  unfold spec_l3Matrix.dec at h
  split at h
  · cases h; exact ⟨rfl, rfl⟩
  · cases h
noncomputable def spec_l3Matrix.O (k : Nat) : Oracle := noO
def spec_l3Matrix.fh : FH := ⟨fun i => match i with | 3 => some [(1, 0), (2, 0), (4, 0), (5, 0), (15, 0), (16, 0)] | 7 => some [(1, 0), (2, 0), (4, 0), (5, 0), (25, 0), (26, 0), (27, 0)] | _ => none, [(true, 3)], false⟩
noncomputable def spec_l3Matrix.x0 (k : Nat) (x1 : ByteArray) (x15 : Int) (x16 : Int) (y0_0 : Int) (y0_1 : List Int) (y0_2 : List Int) (y0_3 : List Stp) (y2_0 : Int) (y4 : List Int) : Option Res := R.exec Try.prog xhn spec_l3Matrix.O 0 Try.f161 spec_l3Matrix.fh k (R.point Try.f161 3) ⟨[(1, .str x1), (2, .ptr 0 0), (4, .ptr 1 0), (5, .ptr 2 0), (15, .int .i64 x15), (16, .int .i64 x16)], [(0, .box false [.int .i64 y0_0, .imm (.I .i64 y0_1), .imm (.I .i64 y0_2), .imm (.T y0_3)]), (1, .box false [.int .i64 0, .sl 3 0]), (2, .box false [.int .i64 y2_0, .sl 4 0]), (3, .arr 3 0 (.I .i64 ([] : List Int)) false), (4, .arr 3 0 (.I .i64 y4) false)], 7⟩
noncomputable def spec_l3Matrix.x1 (k : Nat) (x1 : ByteArray) (x25 : List Stp) (x26 : Int) (x27 : Int) (y0_0 : Int) (y0_1 : List Int) (y0_2 : List Int) (y0_3 : List Stp) (y2_0 : Int) (y4 : List Int) : Option Res := R.exec Try.prog xhn spec_l3Matrix.O 0 Try.f161 spec_l3Matrix.fh k (R.point Try.f161 7) ⟨[(1, .str x1), (2, .ptr 0 0), (4, .ptr 1 0), (5, .ptr 2 0), (25, .imm (.T x25)), (26, .int .i64 x26), (27, .int .i64 x27)], [(0, .box false [.int .i64 y0_0, .imm (.I .i64 y0_1), .imm (.I .i64 y0_2), .imm (.T y0_3)]), (1, .box false [.int .i64 0, .sl 3 0]), (2, .box false [.int .i64 y2_0, .sl 4 0]), (3, .arr 3 0 (.I .i64 ([] : List Int)) false), (4, .arr 3 0 (.I .i64 y4) false)], 7⟩
set_option maxRecDepth 100000 in
theorem spec_l3Matrix.e0 (k : Nat) (x1 : ByteArray) (x15 : Int) (x16 : Int) (y0_0 : Int) (y0_1 : List Int) (y0_2 : List Int) (y0_3 : List Stp) (y2_0 : Int) (y4 : List Int) : spec_l3Matrix.x0 (k + 1) x1 x15 x16 y0_0 y0_1 y0_2 y0_3 y2_0 y4 = (if x16 < x15 then (if y4.length < 17592186044416 then (spec_l3Matrix.x0 k x1 x15 (wrap64 (x16 + 1)) y0_0 y0_1 y0_2 y0_3 y2_0 (y4 ++ [1000000])) else none) else (spec_l3Matrix.x1 k x1 y0_3 (y0_3.length : Int) 0 y0_0 y0_1 y0_2 y0_3 y2_0 y4)) := by kernel_rfl
set_option maxRecDepth 100000 in
theorem spec_l3Matrix.e1 (k : Nat) (x1 : ByteArray) (x25 : List Stp) (x26 : Int) (x27 : Int) (y0_0 : Int) (y0_1 : List Int) (y0_2 : List Int) (y0_3 : List Stp) (y2_0 : Int) (y4 : List Int) : spec_l3Matrix.x1 (k + 1) x1 x25 x26 x27 y0_0 y0_1 y0_2 y0_3 y2_0 y4 = (if x27 < x26 then (if 0 ≤ x27 then (if x27 < (x25.length : Int) then (if (rdT x25 x27).f1.toList = x1.toList then (if 0 ≤ (wrap64 ((wrap64 ((rdT x25 x27).f0 * y0_0)) + (rdT x25 x27).f2)) then (if (wrap64 ((wrap64 ((rdT x25 x27).f0 * y0_0)) + (rdT x25 x27).f2)) < (y4.length : Int) then (spec_l3Matrix.x1 k x1 x25 x26 (wrap64 (x27 + 1)) y0_0 y0_1 y0_2 y0_3 y2_0 (y4.set (wrap64 ((wrap64 ((rdT x25 x27).f0 * y0_0)) + (rdT x25 x27).f2)).toNat (rdT x25 x27).f3)) else none) else none) else (spec_l3Matrix.x1 k x1 x25 x26 (wrap64 (x27 + 1)) y0_0 y0_1 y0_2 y0_3 y2_0 y4)) else none) else none) else (some (spec_l3Matrix.en (y2_0, y4)))) := by kernel_rfl
set_option maxRecDepth 100000 in
theorem spec_l3Matrix.ef (k : Nat) (a0_0 : Int) (l0_1 : List Int) (l0_2 : List Int) (l0_3 : List Stp) (a1 : ByteArray) : R.start Try.prog xhn spec_l3Matrix.O 0 Try.f161 spec_l3Matrix.fh k [.agg [.int .i64 a0_0, .imm (.I .i64 l0_1), .imm (.I .i64 l0_2), .imm (.T l0_3)], .str a1] [] = (spec_l3Matrix.x0 k a1 (wrap64 (a0_0 * a0_0)) 0 a0_0 l0_1 l0_2 l0_3 a0_0 ([] : List Int)) := by kernel_rfl
theorem spec_l3Matrix.link : ∀ k, (∀ (x1 : ByteArray) (x15 : Int) (x16 : Int) (y0_0 : Int) (y0_1 : List Int) (y0_2 : List Int) (y0_3 : List Stp) (y2_0 : Int) (y4 : List Int), spec_l3Matrix.x0 k x1 x15 x16 y0_0 y0_1 y0_2 y0_3 y2_0 y4 = (spec_l3Matrix.l0 k x1 x15 x16 y0_0 y0_1 y0_2 y0_3 y2_0 y4).map (spec_l3Matrix.en)) ∧ (∀ (x1 : ByteArray) (x25 : List Stp) (x26 : Int) (x27 : Int) (y0_0 : Int) (y0_1 : List Int) (y0_2 : List Int) (y0_3 : List Stp) (y2_0 : Int) (y4 : List Int), spec_l3Matrix.x1 k x1 x25 x26 x27 y0_0 y0_1 y0_2 y0_3 y2_0 y4 = (spec_l3Matrix.l1 k x1 x25 x26 x27 y0_0 y0_1 y0_2 y0_3 y2_0 y4).map (spec_l3Matrix.en))
  | 0 => ⟨fun _ _ _ _ _ _ _ _ _ => by simp only [spec_l3Matrix.l0, R.map_none]; rfl, fun _ _ _ _ _ _ _ _ _ _ => by simp only [spec_l3Matrix.l1, R.map_none]; rfl⟩
  | k + 1 => by
    obtain ⟨ih0, ih1⟩ := spec_l3Matrix.link k
    refine ⟨?_, ?_⟩
    · intro x1 x15 x16 y0_0 y0_1 y0_2 y0_3 y2_0 y4
      rw [spec_l3Matrix.e0]
      simp only [spec_l3Matrix.l0, R.map_ite, R.map_bind, R.map_none, R.map_some, ← ih0, ← ih1]
    · intro x1 x25 x26 x27 y0_0 y0_1 y0_2 y0_3 y2_0 y4
      rw [spec_l3Matrix.e1]
      simp only [spec_l3Matrix.l1, R.map_ite, R.map_bind, R.map_none, R.map_some, ← ih0, ← ih1]
theorem spec_l3Matrix.sf (k : Nat) (a0_0 : Int) (l0_1 : List Int) (l0_2 : List Int) (l0_3 : List Stp) (a1 : ByteArray) : R.start Try.prog xhn spec_l3Matrix.O 0 Try.f161 spec_l3Matrix.fh k [.agg [.int .i64 a0_0, .imm (.I .i64 l0_1), .imm (.I .i64 l0_2), .imm (.T l0_3)], .str a1] [] = (spec_l3Matrix.f k a0_0 l0_1 l0_2 l0_3 a1).map (spec_l3Matrix.en) := by
  obtain ⟨ih0, ih1⟩ := spec_l3Matrix.link k
  rw [spec_l3Matrix.ef]
  simp only [spec_l3Matrix.f, R.map_ite, R.map_bind, R.map_none, R.map_some, ← ih0, ← ih1]
theorem spec_l3Matrix.ok (k : Nat) : spec_l3Matrix.tw.Ok Try.prog k := by
  intro a r h
  refine fn_ok (H := xhn) (fh := spec_l3Matrix.fh) (O := spec_l3Matrix.O) (k := k) Try.func161 (by kernel_rfl) (by kernel_rfl) (fun j _ => noO_sound) (by kernel_rfl) (m := 0) rfl ?_
  refine (spec_l3Matrix.sf k a.1 a.2.1 a.2.2.1 a.2.2.2.1 a.2.2.2.2).trans ?_
  exact congrArg (Option.map _) h
def spec_l6Grades.l0 : Nat → (List Int) → Int → Int → Int → (List Int) → Option (Int × (List Int))
  | 0, _, _, _, _, _ => none
  | k + 1, x10, x11, x12, y1_0, y3 => (if x12 < x11 then (if 0 ≤ x12 then (if x12 < (x10.length : Int) then (if (rdI x10 x12) = 0 then (if y3.length < 17592186044416 then (spec_l6Grades.l0 k x10 x11 (wrap64 (x12 + 1)) y1_0 (y3 ++ [0])) else none) else (if (rdI x10 x12) = 1000000 then (if y3.length < 17592186044416 then (spec_l6Grades.l0 k x10 x11 (wrap64 (x12 + 1)) y1_0 (y3 ++ [3])) else none) else (if y3.length < 17592186044416 then (spec_l6Grades.l0 k x10 x11 (wrap64 (x12 + 1)) y1_0 (y3 ++ [1])) else none))) else none) else none) else (some (y1_0, y3)))
def spec_l6Grades.f (k : Nat) (a0_0 : Int) (l0_1 : List Int) : Option (Int × (List Int)) := (spec_l6Grades.l0 k l0_1 (l0_1.length : Int) 0 a0_0 ([] : List Int))
def spec_l6Grades.en (r : Int × (List Int)) : Res := (.agg [.int .i64 r.1, .sl 0 0], [.arr 3 0 (.I .i64 r.2) false])
def spec_l6Grades.dec : List AV → List R.Obj → Option (Int × (List Int))
  | [.agg [.int .i64 a0_0, .imm (.I .i64 l0_1)]], [] => some (a0_0, l0_1)
  | _, _ => none
def spec_l6Grades.tw : Tw := ⟨188, Int × (List Int), Int × (List Int), spec_l6Grades.dec, fun a => [.agg [.int .i64 a.1, .imm (.I .i64 a.2)]], fun a => [], fun k a => spec_l6Grades.f k a.1 a.2, fun a r => spec_l6Grades.en r⟩
theorem spec_l6Grades.dok : spec_l6Grades.tw.DecOk := by
  intro args hc a h
  have h : spec_l6Grades.dec args hc = some a := h
  unfold spec_l6Grades.dec at h
  split at h
  · cases h; exact ⟨rfl, rfl⟩
  · cases h
noncomputable def spec_l6Grades.O (k : Nat) : Oracle := noO
def spec_l6Grades.fh : FH := ⟨fun i => match i with | 3 => some [(2, 0), (3, 0), (10, 0), (11, 0), (12, 0)] | _ => none, [(true, 3)], false⟩
noncomputable def spec_l6Grades.x0 (k : Nat) (x10 : List Int) (x11 : Int) (x12 : Int) (y1_0 : Int) (y3 : List Int) : Option Res := R.exec Try.prog xhn spec_l6Grades.O 0 Try.f188 spec_l6Grades.fh k (R.point Try.f188 3) ⟨[(2, .ptr 0 0), (3, .ptr 1 0), (10, .imm (.I .i64 x10)), (11, .int .i64 x11), (12, .int .i64 x12)], [(0, .box false [.int .i64 0, .sl 2 0]), (1, .box false [.int .i64 y1_0, .sl 3 0]), (2, .arr 3 0 (.I .i64 ([] : List Int)) false), (3, .arr 3 0 (.I .i64 y3) false)], 6⟩
set_option maxRecDepth 100000 in
theorem spec_l6Grades.e0 (k : Nat) (x10 : List Int) (x11 : Int) (x12 : Int) (y1_0 : Int) (y3 : List Int) : spec_l6Grades.x0 (k + 1) x10 x11 x12 y1_0 y3 = (if x12 < x11 then (if 0 ≤ x12 then (if x12 < (x10.length : Int) then (if (rdI x10 x12) = 0 then (if y3.length < 17592186044416 then (spec_l6Grades.x0 k x10 x11 (wrap64 (x12 + 1)) y1_0 (y3 ++ [0])) else none) else (if (rdI x10 x12) = 1000000 then (if y3.length < 17592186044416 then (spec_l6Grades.x0 k x10 x11 (wrap64 (x12 + 1)) y1_0 (y3 ++ [3])) else none) else (if y3.length < 17592186044416 then (spec_l6Grades.x0 k x10 x11 (wrap64 (x12 + 1)) y1_0 (y3 ++ [1])) else none))) else none) else none) else (some (spec_l6Grades.en (y1_0, y3)))) := by kernel_rfl
set_option maxRecDepth 100000 in
theorem spec_l6Grades.ef (k : Nat) (a0_0 : Int) (l0_1 : List Int) : R.start Try.prog xhn spec_l6Grades.O 0 Try.f188 spec_l6Grades.fh k [.agg [.int .i64 a0_0, .imm (.I .i64 l0_1)]] [] = (spec_l6Grades.x0 k l0_1 (l0_1.length : Int) 0 a0_0 ([] : List Int)) := by kernel_rfl
theorem spec_l6Grades.link : ∀ k, (∀ (x10 : List Int) (x11 : Int) (x12 : Int) (y1_0 : Int) (y3 : List Int), spec_l6Grades.x0 k x10 x11 x12 y1_0 y3 = (spec_l6Grades.l0 k x10 x11 x12 y1_0 y3).map (spec_l6Grades.en))
  | 0 => fun _ _ _ _ _ => by simp only [spec_l6Grades.l0, R.map_none]; rfl
  | k + 1 => by
    have ih0 := spec_l6Grades.link k
    · intro x10 x11 x12 y1_0 y3
      rw [spec_l6Grades.e0]
      simp only [spec_l6Grades.l0, R.map_ite, R.map_bind, R.map_none, R.map_some, ← ih0]
theorem spec_l6Grades.sf (k : Nat) (a0_0 : Int) (l0_1 : List Int) : R.start Try.prog xhn spec_l6Grades.O 0 Try.f188 spec_l6Grades.fh k [.agg [.int .i64 a0_0, .imm (.I .i64 l0_1)]] [] = (spec_l6Grades.f k a0_0 l0_1).map (spec_l6Grades.en) := by
  have ih0 := spec_l6Grades.link k
  rw [spec_l6Grades.ef]
  simp only [spec_l6Grades.f, R.map_ite, R.map_bind, R.map_none, R.map_some, ← ih0]
theorem spec_l6Grades.ok (k : Nat) : spec_l6Grades.tw.Ok Try.prog k := by
  intro a r h
  refine fn_ok (H := xhn) (fh := spec_l6Grades.fh) (O := spec_l6Grades.O) (k := k) Try.func188 (by kernel_rfl) (by kernel_rfl) (fun j _ => noO_sound) (by kernel_rfl) (m := 0) rfl ?_
  refine (spec_l6Grades.sf k a.1 a.2).trans ?_
  exact congrArg (Option.map _) h
def spec_l2Same.l0 : Nat → (List Int) → (List Int) → Int → Int → Option (Bool)
  | 0, _, _, _, _ => none
  | k + 1, x0, x1, x10, x11 => (if x11 < x10 then (if 0 ≤ x11 then (if x11 < (x0.length : Int) then (if x11 < (x1.length : Int) then (if (rdI x0 x11) = (rdI x1 x11) then (spec_l2Same.l0 k x0 x1 x10 (wrap64 (x11 + 1))) else (some false)) else none) else none) else none) else (some (decide ((x0.length : Int) = (x1.length : Int)))))
def spec_l2Same.f (k : Nat) (l0 : List Int) (l1 : List Int) : Option (Bool) := (spec_l2Same.l0 k l0 l1 (mn (l0.length : Int) (l1.length : Int)) 0)
def spec_l2Same.en (r : Bool) : Res := (.lit r, [])
def spec_l2Same.dec : List AV → List R.Obj → Option ((List Int) × (List Int))
  | [.imm (.I .i64 l0), .imm (.I .i64 l1)], [] => some (l0, l1)
  | _, _ => none
def spec_l2Same.tw : Tw := ⟨118, (List Int) × (List Int), Bool, spec_l2Same.dec, fun a => [.imm (.I .i64 a.1), .imm (.I .i64 a.2)], fun a => [], fun k a => spec_l2Same.f k a.1 a.2, fun a r => spec_l2Same.en r⟩
theorem spec_l2Same.dok : spec_l2Same.tw.DecOk := by
  intro args hc a h
  have h : spec_l2Same.dec args hc = some a := h
  unfold spec_l2Same.dec at h
  split at h
  · cases h; exact ⟨rfl, rfl⟩
  · cases h
noncomputable def spec_l2Same.O (k : Nat) : Oracle := noO
def spec_l2Same.fh : FH := ⟨fun i => match i with | 2 => some [(0, 0), (1, 0), (10, 0), (11, 0)] | _ => none, [], false⟩
noncomputable def spec_l2Same.x0 (k : Nat) (x0 : List Int) (x1 : List Int) (x10 : Int) (x11 : Int) : Option Res := R.exec Try.prog xhn spec_l2Same.O 0 Try.f118 spec_l2Same.fh k (R.point Try.f118 2) ⟨[(0, .imm (.I .i64 x0)), (1, .imm (.I .i64 x1)), (10, .int .i64 x10), (11, .int .i64 x11)], [], 2⟩
set_option maxRecDepth 100000 in
theorem spec_l2Same.e0 (k : Nat) (x0 : List Int) (x1 : List Int) (x10 : Int) (x11 : Int) : spec_l2Same.x0 (k + 1) x0 x1 x10 x11 = (if x11 < x10 then (if 0 ≤ x11 then (if x11 < (x0.length : Int) then (if x11 < (x1.length : Int) then (if (rdI x0 x11) = (rdI x1 x11) then (spec_l2Same.x0 k x0 x1 x10 (wrap64 (x11 + 1))) else (some (spec_l2Same.en false))) else none) else none) else none) else (some (spec_l2Same.en (decide ((x0.length : Int) = (x1.length : Int)))))) := by
  refine Eq.trans ?_ (R.icong (fun h0 => (R.icong (fun h1 => (R.icong (fun h2 => (R.idropT (p := 0 ≤ x11) (z := none) h1 rfl)) (fun h2 => rfl))) (fun h1 => rfl))) (fun h0 => rfl))
  kernel_rfl
set_option maxRecDepth 100000 in
theorem spec_l2Same.ef (k : Nat) (l0 : List Int) (l1 : List Int) : R.start Try.prog xhn spec_l2Same.O 0 Try.f118 spec_l2Same.fh k [.imm (.I .i64 l0), .imm (.I .i64 l1)] [] = (spec_l2Same.x0 k l0 l1 (mn (l0.length : Int) (l1.length : Int)) 0) := by kernel_rfl
theorem spec_l2Same.link : ∀ k, (∀ (x0 : List Int) (x1 : List Int) (x10 : Int) (x11 : Int), spec_l2Same.x0 k x0 x1 x10 x11 = (spec_l2Same.l0 k x0 x1 x10 x11).map (spec_l2Same.en))
  | 0 => fun _ _ _ _ => by simp only [spec_l2Same.l0, R.map_none]; rfl
  | k + 1 => by
    have ih0 := spec_l2Same.link k
    · intro x0 x1 x10 x11
      rw [spec_l2Same.e0]
      simp only [spec_l2Same.l0, R.map_ite, R.map_bind, R.map_none, R.map_some, ← ih0]
theorem spec_l2Same.sf (k : Nat) (l0 : List Int) (l1 : List Int) : R.start Try.prog xhn spec_l2Same.O 0 Try.f118 spec_l2Same.fh k [.imm (.I .i64 l0), .imm (.I .i64 l1)] [] = (spec_l2Same.f k l0 l1).map (spec_l2Same.en) := by
  have ih0 := spec_l2Same.link k
  rw [spec_l2Same.ef]
  simp only [spec_l2Same.f, R.map_ite, R.map_bind, R.map_none, R.map_some, ← ih0]
theorem spec_l2Same.ok (k : Nat) : spec_l2Same.tw.Ok Try.prog k := by
  intro a r h
  refine fn_ok (H := xhn) (fh := spec_l2Same.fh) (O := spec_l2Same.O) (k := k) Try.func118 (by kernel_rfl) (by kernel_rfl) (fun j _ => noO_sound) (by kernel_rfl) (m := 0) rfl ?_
  refine (spec_l2Same.sf k a.1 a.2).trans ?_
  exact congrArg (Option.map _) h
def spec_l8Closer_put.l0 : Nat → ByteArray → (List Elm) → Int → Int → Bool → Int → (List Int) → Option ((List Elm) × Bool)
  | 0, _, _, _, _, _, _, _ => none
  | k + 1, x2, y1, x12, x13, y0_1, y2_0, y2_1 => (if x13 < x12 then (if 0 ≤ x13 then (if x13 < (y1.length : Int) then ((spec_l2Same.f k ((rdE y1 x13).f1) y2_1).bind fun t1 => (if t1 = true then (some (y1, y0_1)) else (spec_l8Closer_put.l0 k x2 y1 x12 (wrap64 (x13 + 1)) y0_1 y2_0 y2_1))) else none) else none) else (if y0_1 = true then (some (y1, true)) else (if (y1.length : Int) ≥ 120 then (some (y1, true)) else (if (decide ((x2.size : Int) > 120)) = true then (some (y1, (decide ((x2.size : Int) > 120)))) else (if y1.length < 2932031007402 then (some ((y1 ++ [(⟨y2_0, y2_1, x2⟩ : Elm)]), (decide ((x2.size : Int) > 120)))) else none)))))
def spec_l8Closer_put.f (k : Nat) (a1_0 : Int) (l1_1 : List Int) (a2 : ByteArray) (l4 : List Elm) (a3_1 : Bool) : Option ((List Elm) × Bool) := (spec_l8Closer_put.l0 k a2 l4 (l4.length : Int) 0 a3_1 a1_0 l1_1)
def spec_l8Closer_put.en (r : (List Elm) × Bool) : Res := (.tup [], [.box false [.sl 1 1, .lit r.2], .arr 82 1 (.E r.1) false])
def spec_l8Closer_put.dec : List AV → List R.Obj → Option (Int × (List Int) × ByteArray × (List Elm) × Bool)
  | [.ptr 0 0, .agg [.int .i64 a1_0, .imm (.I .i64 l1_1)], .str a2], [.box false [.sl 1 0, .lit a3_1], .arr 82 0 (.E l4) false] => some (a1_0, l1_1, a2, l4, a3_1)
  | _, _ => none
def spec_l8Closer_put.tw : Tw := ⟨189, Int × (List Int) × ByteArray × (List Elm) × Bool, (List Elm) × Bool, spec_l8Closer_put.dec, fun a => [.ptr 0 0, .agg [.int .i64 a.1, .imm (.I .i64 a.2.1)], .str a.2.2.1], fun a => [.box false [.sl 1 0, .lit a.2.2.2.2], .arr 82 0 (.E a.2.2.2.1) false], fun k a => spec_l8Closer_put.f k a.1 a.2.1 a.2.2.1 a.2.2.2.1 a.2.2.2.2, fun a r => spec_l8Closer_put.en r⟩
theorem spec_l8Closer_put.dok : spec_l8Closer_put.tw.DecOk := by
  intro args hc a h
  have h : spec_l8Closer_put.dec args hc = some a := h
  unfold spec_l8Closer_put.dec at h
  split at h
  · cases h; exact ⟨rfl, rfl⟩
  · cases h
noncomputable def spec_l8Closer_put.O (k : Nat) : Oracle := (spec_l2Same.tw.orc k noO)
def spec_l8Closer_put.fh : FH := ⟨fun i => match i with | 2 => some [(0, 0), (2, 0), (4, 0), (11, 0), (12, 0), (13, 0)] | _ => none, [], true⟩
noncomputable def spec_l8Closer_put.x0 (k : Nat) (x2 : ByteArray) (y1 : List Elm) (x12 : Int) (x13 : Int) (y0_1 : Bool) (y2_0 : Int) (y2_1 : List Int) : Option Res := R.exec Try.prog xhn spec_l8Closer_put.O 2 Try.f189 spec_l8Closer_put.fh k (R.point Try.f189 2) ⟨[(0, .ptr 0 0), (2, .str x2), (4, .ptr 2 0), (11, .sl 1 1), (12, .int .i64 x12), (13, .int .i64 x13)], [(0, .box false [.sl 1 1, .lit y0_1]), (1, .arr 82 1 (.E y1) false), (2, .box false [.int .i64 y2_0, .imm (.I .i64 y2_1)])], 5⟩
set_option maxRecDepth 100000 in
theorem spec_l8Closer_put.e0 (k : Nat) (x2 : ByteArray) (y1 : List Elm) (x12 : Int) (x13 : Int) (y0_1 : Bool) (y2_0 : Int) (y2_1 : List Int) : spec_l8Closer_put.x0 (k + 1) x2 y1 x12 x13 y0_1 y2_0 y2_1 = (if x13 < x12 then (if 0 ≤ x13 then (if x13 < (y1.length : Int) then ((spec_l2Same.f k ((rdE y1 x13).f1) y2_1).bind fun t1 => (if t1 = true then (some (spec_l8Closer_put.en (y1, y0_1))) else (spec_l8Closer_put.x0 k x2 y1 x12 (wrap64 (x13 + 1)) y0_1 y2_0 y2_1))) else none) else none) else (if y0_1 = true then (some (spec_l8Closer_put.en (y1, true))) else (if (y1.length : Int) ≥ 120 then (some (spec_l8Closer_put.en (y1, true))) else (if (decide ((x2.size : Int) > 120)) = true then (some (spec_l8Closer_put.en (y1, (decide ((x2.size : Int) > 120))))) else (if y1.length < 2932031007402 then (some (spec_l8Closer_put.en ((y1 ++ [(⟨y2_0, y2_1, x2⟩ : Elm)]), (decide ((x2.size : Int) > 120))))) else none))))) := by kernel_rfl
set_option maxRecDepth 100000 in
theorem spec_l8Closer_put.ef (k : Nat) (a1_0 : Int) (l1_1 : List Int) (a2 : ByteArray) (l4 : List Elm) (a3_1 : Bool) : R.start Try.prog xhn spec_l8Closer_put.O 2 Try.f189 spec_l8Closer_put.fh k [.ptr 0 0, .agg [.int .i64 a1_0, .imm (.I .i64 l1_1)], .str a2] [.box false [.sl 1 0, .lit a3_1], .arr 82 0 (.E l4) false] = (spec_l8Closer_put.x0 k a2 l4 (l4.length : Int) 0 a3_1 a1_0 l1_1) := by kernel_rfl
theorem spec_l8Closer_put.link : ∀ k, (∀ (x2 : ByteArray) (y1 : List Elm) (x12 : Int) (x13 : Int) (y0_1 : Bool) (y2_0 : Int) (y2_1 : List Int), spec_l8Closer_put.x0 k x2 y1 x12 x13 y0_1 y2_0 y2_1 = (spec_l8Closer_put.l0 k x2 y1 x12 x13 y0_1 y2_0 y2_1).map (spec_l8Closer_put.en))
  | 0 => fun _ _ _ _ _ _ _ => by simp only [spec_l8Closer_put.l0, R.map_none]; rfl
  | k + 1 => by
    have ih0 := spec_l8Closer_put.link k
    · intro x2 y1 x12 x13 y0_1 y2_0 y2_1
      rw [spec_l8Closer_put.e0]
      simp only [spec_l8Closer_put.l0, R.map_ite, R.map_bind, R.map_none, R.map_some, ← ih0]
theorem spec_l8Closer_put.sf (k : Nat) (a1_0 : Int) (l1_1 : List Int) (a2 : ByteArray) (l4 : List Elm) (a3_1 : Bool) : R.start Try.prog xhn spec_l8Closer_put.O 2 Try.f189 spec_l8Closer_put.fh k [.ptr 0 0, .agg [.int .i64 a1_0, .imm (.I .i64 l1_1)], .str a2] [.box false [.sl 1 0, .lit a3_1], .arr 82 0 (.E l4) false] = (spec_l8Closer_put.f k a1_0 l1_1 a2 l4 a3_1).map (spec_l8Closer_put.en) := by
  have ih0 := spec_l8Closer_put.link k
  rw [spec_l8Closer_put.ef]
  simp only [spec_l8Closer_put.f, R.map_ite, R.map_bind, R.map_none, R.map_some, ← ih0]
theorem spec_l8Closer_put.ok (k : Nat) : spec_l8Closer_put.tw.Ok Try.prog k := by
  intro a r h
  refine fn_ok (H := xhn) (fh := spec_l8Closer_put.fh) (O := spec_l8Closer_put.O) (k := k) Try.func189 (by kernel_rfl) (by kernel_rfl) (fun j _ => (Tw.orc_sound spec_l2Same.dok (spec_l2Same.ok j) noO_sound)) (by kernel_rfl) (m := 2) rfl ?_
  refine (spec_l8Closer_put.sf k a.1 a.2.1 a.2.2.1 a.2.2.2.1 a.2.2.2.2).trans ?_
  exact congrArg (Option.map _) h
mutual
def spec_l6Mul.l0 : Nat → Int → Int → Int → (List Int) → Int → (List Int) → Int → (List Int) → Option (Int × (List Int))
  | 0, _, _, _, _, _, _, _, _ => none
  | k + 1, x16, x17, y0_0, y0_1, y1_0, y1_1, y3_0, y5 => (if x17 < x16 then (spec_l6Mul.l1 k x17 3 x16 x17 y0_0 0 y0_0 y0_1 y1_0 y1_1 y3_0 y5) else (some (y3_0, y5)))
def spec_l6Mul.l1 : Nat → Int → Int → Int → Int → Int → Int → Int → (List Int) → Int → (List Int) → Int → (List Int) → Option (Int × (List Int))
  | 0, _, _, _, _, _, _, _, _, _, _, _, _ => none
  | k + 1, x6, x7, x16, x17, x21, x22, y0_0, y0_1, y1_0, y1_1, y3_0, y5 => (if x22 < x21 then (if y0_0 = 0 then none else (if 0 ≤ (wrap64 ((wrap64 ((wrap64 (x6.tdiv y0_0)) * y0_0)) + x22)) then (if (wrap64 ((wrap64 ((wrap64 (x6.tdiv y0_0)) * y0_0)) + x22)) < (y0_1.length : Int) then (if 0 ≤ (wrap64 ((wrap64 (x22 * y0_0)) + (x6.tmod y0_0))) then (if (wrap64 ((wrap64 (x22 * y0_0)) + (x6.tmod y0_0))) < (y1_1.length : Int) then (spec_l6Mul.l1 k x6 (mn x7 (mx (rdI y0_1 (wrap64 ((wrap64 ((wrap64 (x6.tdiv y0_0)) * y0_0)) + x22))) (rdI y1_1 (wrap64 ((wrap64 (x22 * y0_0)) + (x6.tmod y0_0)))))) x16 x17 x21 (wrap64 (x22 + 1)) y0_0 y0_1 y1_0 y1_1 y3_0 y5) else none) else none) else none) else none)) else (if y5.length < 17592186044416 then (spec_l6Mul.l0 k x16 (wrap64 (x17 + 1)) y0_0 y0_1 y1_0 y1_1 y3_0 (y5 ++ [x7])) else none))
end
def spec_l6Mul.f (k : Nat) (a0_0 : Int) (l0_1 : List Int) (a1_0 : Int) (l1_1 : List Int) : Option (Int × (List Int)) := (spec_l6Mul.l0 k (wrap64 (a0_0 * a0_0)) 0 a0_0 l0_1 a1_0 l1_1 a0_0 ([] : List Int))
def spec_l6Mul.en (r : Int × (List Int)) : Res := (.agg [.int .i64 r.1, .sl 0 0], [.arr 3 0 (.I .i64 r.2) false])
def spec_l6Mul.dec : List AV → List R.Obj → Option (Int × (List Int) × Int × (List Int))
  | [.agg [.int .i64 a0_0, .imm (.I .i64 l0_1)], .agg [.int .i64 a1_0, .imm (.I .i64 l1_1)]], [] => some (a0_0, l0_1, a1_0, l1_1)
  | _, _ => none
def spec_l6Mul.tw : Tw := ⟨166, Int × (List Int) × Int × (List Int), Int × (List Int), spec_l6Mul.dec, fun a => [.agg [.int .i64 a.1, .imm (.I .i64 a.2.1)], .agg [.int .i64 a.2.2.1, .imm (.I .i64 a.2.2.2)]], fun a => [], fun k a => spec_l6Mul.f k a.1 a.2.1 a.2.2.1 a.2.2.2, fun a r => spec_l6Mul.en r⟩
theorem spec_l6Mul.dok : spec_l6Mul.tw.DecOk := by
  intro args hc a h
  have h : spec_l6Mul.dec args hc = some a := h
  unfold spec_l6Mul.dec at h
  split at h
  · cases h; exact ⟨rfl, rfl⟩
  · cases h
noncomputable def spec_l6Mul.O (k : Nat) : Oracle := noO
def spec_l6Mul.fh : FH := ⟨fun i => match i with | 3 => some [(2, 0), (3, 0), (4, 0), (5, 0), (16, 0), (17, 0)] | 7 => some [(2, 0), (3, 0), (4, 0), (5, 0), (6, 0), (7, 0), (16, 0), (17, 0), (21, 0), (22, 0)] | _ => none, [(true, 3)], false⟩
noncomputable def spec_l6Mul.x0 (k : Nat) (x16 : Int) (x17 : Int) (y0_0 : Int) (y0_1 : List Int) (y1_0 : Int) (y1_1 : List Int) (y3_0 : Int) (y5 : List Int) : Option Res := R.exec Try.prog xhn spec_l6Mul.O 0 Try.f166 spec_l6Mul.fh k (R.point Try.f166 3) ⟨[(2, .ptr 0 0), (3, .ptr 1 0), (4, .ptr 2 0), (5, .ptr 3 0), (16, .int .i64 x16), (17, .int .i64 x17)], [(0, .box false [.int .i64 y0_0, .imm (.I .i64 y0_1)]), (1, .box false [.int .i64 y1_0, .imm (.I .i64 y1_1)]), (2, .box false [.int .i64 0, .sl 4 0]), (3, .box false [.int .i64 y3_0, .sl 5 0]), (4, .arr 3 0 (.I .i64 ([] : List Int)) false), (5, .arr 3 0 (.I .i64 y5) false)], 8⟩
noncomputable def spec_l6Mul.x1 (k : Nat) (x6 : Int) (x7 : Int) (x16 : Int) (x17 : Int) (x21 : Int) (x22 : Int) (y0_0 : Int) (y0_1 : List Int) (y1_0 : Int) (y1_1 : List Int) (y3_0 : Int) (y5 : List Int) : Option Res := R.exec Try.prog xhn spec_l6Mul.O 0 Try.f166 spec_l6Mul.fh k (R.point Try.f166 7) ⟨[(2, .ptr 0 0), (3, .ptr 1 0), (4, .ptr 2 0), (5, .ptr 3 0), (6, .int .i64 x6), (7, .int .i64 x7), (16, .int .i64 x16), (17, .int .i64 x17), (21, .int .i64 x21), (22, .int .i64 x22)], [(0, .box false [.int .i64 y0_0, .imm (.I .i64 y0_1)]), (1, .box false [.int .i64 y1_0, .imm (.I .i64 y1_1)]), (2, .box false [.int .i64 0, .sl 4 0]), (3, .box false [.int .i64 y3_0, .sl 5 0]), (4, .arr 3 0 (.I .i64 ([] : List Int)) false), (5, .arr 3 0 (.I .i64 y5) false)], 8⟩
set_option maxRecDepth 100000 in
theorem spec_l6Mul.e0 (k : Nat) (x16 : Int) (x17 : Int) (y0_0 : Int) (y0_1 : List Int) (y1_0 : Int) (y1_1 : List Int) (y3_0 : Int) (y5 : List Int) : spec_l6Mul.x0 (k + 1) x16 x17 y0_0 y0_1 y1_0 y1_1 y3_0 y5 = (if x17 < x16 then (spec_l6Mul.x1 k x17 3 x16 x17 y0_0 0 y0_0 y0_1 y1_0 y1_1 y3_0 y5) else (some (spec_l6Mul.en (y3_0, y5)))) := by kernel_rfl
set_option maxRecDepth 100000 in
theorem spec_l6Mul.e1 (k : Nat) (x6 : Int) (x7 : Int) (x16 : Int) (x17 : Int) (x21 : Int) (x22 : Int) (y0_0 : Int) (y0_1 : List Int) (y1_0 : Int) (y1_1 : List Int) (y3_0 : Int) (y5 : List Int) : spec_l6Mul.x1 (k + 1) x6 x7 x16 x17 x21 x22 y0_0 y0_1 y1_0 y1_1 y3_0 y5 = (if x22 < x21 then (if y0_0 = 0 then none else (if 0 ≤ (wrap64 ((wrap64 ((wrap64 (x6.tdiv y0_0)) * y0_0)) + x22)) then (if (wrap64 ((wrap64 ((wrap64 (x6.tdiv y0_0)) * y0_0)) + x22)) < (y0_1.length : Int) then (if 0 ≤ (wrap64 ((wrap64 (x22 * y0_0)) + (x6.tmod y0_0))) then (if (wrap64 ((wrap64 (x22 * y0_0)) + (x6.tmod y0_0))) < (y1_1.length : Int) then (spec_l6Mul.x1 k x6 (mn x7 (mx (rdI y0_1 (wrap64 ((wrap64 ((wrap64 (x6.tdiv y0_0)) * y0_0)) + x22))) (rdI y1_1 (wrap64 ((wrap64 (x22 * y0_0)) + (x6.tmod y0_0)))))) x16 x17 x21 (wrap64 (x22 + 1)) y0_0 y0_1 y1_0 y1_1 y3_0 y5) else none) else none) else none) else none)) else (if y5.length < 17592186044416 then (spec_l6Mul.x0 k x16 (wrap64 (x17 + 1)) y0_0 y0_1 y1_0 y1_1 y3_0 (y5 ++ [x7])) else none)) := by
  refine Eq.trans ?_ (R.icong (fun h0 => (R.icong (fun h1 => rfl) (fun h1 => (R.icong (fun h2 => (R.icong (fun h3 => (R.idropF (p := y0_0 = 0) (z := none) h1 rfl)) (fun h3 => rfl))) (fun h2 => rfl))))) (fun h0 => rfl))
  kernel_rfl
set_option maxRecDepth 100000 in
theorem spec_l6Mul.ef (k : Nat) (a0_0 : Int) (l0_1 : List Int) (a1_0 : Int) (l1_1 : List Int) : R.start Try.prog xhn spec_l6Mul.O 0 Try.f166 spec_l6Mul.fh k [.agg [.int .i64 a0_0, .imm (.I .i64 l0_1)], .agg [.int .i64 a1_0, .imm (.I .i64 l1_1)]] [] = (spec_l6Mul.x0 k (wrap64 (a0_0 * a0_0)) 0 a0_0 l0_1 a1_0 l1_1 a0_0 ([] : List Int)) := by kernel_rfl
theorem spec_l6Mul.link : ∀ k, (∀ (x16 : Int) (x17 : Int) (y0_0 : Int) (y0_1 : List Int) (y1_0 : Int) (y1_1 : List Int) (y3_0 : Int) (y5 : List Int), spec_l6Mul.x0 k x16 x17 y0_0 y0_1 y1_0 y1_1 y3_0 y5 = (spec_l6Mul.l0 k x16 x17 y0_0 y0_1 y1_0 y1_1 y3_0 y5).map (spec_l6Mul.en)) ∧ (∀ (x6 : Int) (x7 : Int) (x16 : Int) (x17 : Int) (x21 : Int) (x22 : Int) (y0_0 : Int) (y0_1 : List Int) (y1_0 : Int) (y1_1 : List Int) (y3_0 : Int) (y5 : List Int), spec_l6Mul.x1 k x6 x7 x16 x17 x21 x22 y0_0 y0_1 y1_0 y1_1 y3_0 y5 = (spec_l6Mul.l1 k x6 x7 x16 x17 x21 x22 y0_0 y0_1 y1_0 y1_1 y3_0 y5).map (spec_l6Mul.en))
  | 0 => ⟨fun _ _ _ _ _ _ _ _ => by simp only [spec_l6Mul.l0, R.map_none]; rfl, fun _ _ _ _ _ _ _ _ _ _ _ _ => by simp only [spec_l6Mul.l1, R.map_none]; rfl⟩
  | k + 1 => by
    obtain ⟨ih0, ih1⟩ := spec_l6Mul.link k
    refine ⟨?_, ?_⟩
    · intro x16 x17 y0_0 y0_1 y1_0 y1_1 y3_0 y5
      rw [spec_l6Mul.e0]
      simp only [spec_l6Mul.l0, R.map_ite, R.map_bind, R.map_none, R.map_some, ← ih0, ← ih1]
    · intro x6 x7 x16 x17 x21 x22 y0_0 y0_1 y1_0 y1_1 y3_0 y5
      rw [spec_l6Mul.e1]
      simp only [spec_l6Mul.l1, R.map_ite, R.map_bind, R.map_none, R.map_some, ← ih0, ← ih1]
theorem spec_l6Mul.sf (k : Nat) (a0_0 : Int) (l0_1 : List Int) (a1_0 : Int) (l1_1 : List Int) : R.start Try.prog xhn spec_l6Mul.O 0 Try.f166 spec_l6Mul.fh k [.agg [.int .i64 a0_0, .imm (.I .i64 l0_1)], .agg [.int .i64 a1_0, .imm (.I .i64 l1_1)]] [] = (spec_l6Mul.f k a0_0 l0_1 a1_0 l1_1).map (spec_l6Mul.en) := by
  obtain ⟨ih0, ih1⟩ := spec_l6Mul.link k
  rw [spec_l6Mul.ef]
  simp only [spec_l6Mul.f, R.map_ite, R.map_bind, R.map_none, R.map_some, ← ih0, ← ih1]
theorem spec_l6Mul.ok (k : Nat) : spec_l6Mul.tw.Ok Try.prog k := by
  intro a r h
  refine fn_ok (H := xhn) (fh := spec_l6Mul.fh) (O := spec_l6Mul.O) (k := k) Try.func166 (by kernel_rfl) (by kernel_rfl) (fun j _ => noO_sound) (by kernel_rfl) (m := 0) rfl ?_
  refine (spec_l6Mul.sf k a.1 a.2.1 a.2.2.1 a.2.2.2).trans ?_
  exact congrArg (Option.map _) h
def spec_l6Idempotent.f (k : Nat) (a0_0 : Int) (l0_1 : List Int) : Option (Bool) := ((spec_l6Mul.f k a0_0 l0_1 a0_0 l0_1).bind fun t1 => ((spec_l2Same.f k t1.2 l0_1).bind fun t2 => (some t2)))
def spec_l6Idempotent.en (r : Bool) : Res := (.lit r, [])
def spec_l6Idempotent.dec : List AV → List R.Obj → Option (Int × (List Int))
  | [.agg [.int .i64 a0_0, .imm (.I .i64 l0_1)]], [] => some (a0_0, l0_1)
  | _, _ => none
def spec_l6Idempotent.tw : Tw := ⟨117, Int × (List Int), Bool, spec_l6Idempotent.dec, fun a => [.agg [.int .i64 a.1, .imm (.I .i64 a.2)]], fun a => [], fun k a => spec_l6Idempotent.f k a.1 a.2, fun a r => spec_l6Idempotent.en r⟩
theorem spec_l6Idempotent.dok : spec_l6Idempotent.tw.DecOk := by
  intro args hc a h
  have h : spec_l6Idempotent.dec args hc = some a := h
  unfold spec_l6Idempotent.dec at h
  split at h
  · cases h; exact ⟨rfl, rfl⟩
  · cases h
noncomputable def spec_l6Idempotent.O (k : Nat) : Oracle := (spec_l6Mul.tw.orc k (spec_l2Same.tw.orc k noO))
def spec_l6Idempotent.fh : FH := ⟨fun i => match i with | _ => none, [], false⟩
set_option maxRecDepth 100000 in
theorem spec_l6Idempotent.ef (k : Nat) (a0_0 : Int) (l0_1 : List Int) : R.start Try.prog xhn spec_l6Idempotent.O 0 Try.f117 spec_l6Idempotent.fh k [.agg [.int .i64 a0_0, .imm (.I .i64 l0_1)]] [] = ((spec_l6Mul.f k a0_0 l0_1 a0_0 l0_1).bind fun t1 => ((spec_l2Same.f k t1.2 l0_1).bind fun t2 => (some (spec_l6Idempotent.en t2)))) := by kernel_rfl
theorem spec_l6Idempotent.sf (k : Nat) (a0_0 : Int) (l0_1 : List Int) : R.start Try.prog xhn spec_l6Idempotent.O 0 Try.f117 spec_l6Idempotent.fh k [.agg [.int .i64 a0_0, .imm (.I .i64 l0_1)]] [] = (spec_l6Idempotent.f k a0_0 l0_1).map (spec_l6Idempotent.en) := by
  rw [spec_l6Idempotent.ef]
  simp only [spec_l6Idempotent.f, R.map_ite, R.map_bind, R.map_none, R.map_some]
theorem spec_l6Idempotent.ok (k : Nat) : spec_l6Idempotent.tw.Ok Try.prog k := by
  intro a r h
  refine fn_ok (H := xhn) (fh := spec_l6Idempotent.fh) (O := spec_l6Idempotent.O) (k := k) Try.func117 (by kernel_rfl) (by kernel_rfl) (fun j _ => (Tw.orc_sound spec_l6Mul.dok (spec_l6Mul.ok j) (Tw.orc_sound spec_l2Same.dok (spec_l2Same.ok j) noO_sound))) (by kernel_rfl) (m := 0) rfl ?_
  refine (spec_l6Idempotent.sf k a.1 a.2).trans ?_
  exact congrArg (Option.map _) h
def spec_l6Again.f (a0 : Int) : Option (Int) := (if a0 = 1 then (some 2) else (some a0))
def spec_l6Again.en (r : Int) : Res := (.int .i64 r, [])
def spec_l6Again.dec : List AV → List R.Obj → Option (Int)
  | [.int .i64 a0], [] => some a0
  | _, _ => none
def spec_l6Again.tw : Tw := ⟨167, Int, Int, spec_l6Again.dec, fun a => [.int .i64 a], fun a => [], fun k a => spec_l6Again.f a, fun a r => spec_l6Again.en r⟩
theorem spec_l6Again.dok : spec_l6Again.tw.DecOk := by
  intro args hc a h
  have h : spec_l6Again.dec args hc = some a := h
  unfold spec_l6Again.dec at h
  split at h
  · cases h; exact ⟨rfl, rfl⟩
  · cases h
noncomputable def spec_l6Again.O (k : Nat) : Oracle := noO
def spec_l6Again.fh : FH := ⟨fun i => match i with | _ => none, [], false⟩
set_option maxRecDepth 100000 in
theorem spec_l6Again.ef (k : Nat) (a0 : Int) : R.start Try.prog xhn spec_l6Again.O 0 Try.f167 spec_l6Again.fh k [.int .i64 a0] [] = (if a0 = 1 then (some (spec_l6Again.en 2)) else (some (spec_l6Again.en a0))) := by kernel_rfl
theorem spec_l6Again.sf (k : Nat) (a0 : Int) : R.start Try.prog xhn spec_l6Again.O 0 Try.f167 spec_l6Again.fh k [.int .i64 a0] [] = (spec_l6Again.f a0).map (spec_l6Again.en) := by
  rw [spec_l6Again.ef]
  simp only [spec_l6Again.f, R.map_ite, R.map_bind, R.map_none, R.map_some]
theorem spec_l6Again.ok (k : Nat) : spec_l6Again.tw.Ok Try.prog k := by
  intro a r h
  refine fn_ok (H := xhn) (fh := spec_l6Again.fh) (O := spec_l6Again.O) (k := k) Try.func167 (by kernel_rfl) (by kernel_rfl) (fun j _ => noO_sound) (by kernel_rfl) (m := 0) rfl ?_
  refine (spec_l6Again.sf k a).trans ?_
  exact congrArg (Option.map _) h
mutual
def spec_l6Stable.l0 : Nat → Int → Int → Int → (List Int) → Int → (List Int) → Option (Int × (List Int))
  | 0, _, _, _, _, _, _ => none
  | k + 1, x14, x15, y0_0, y0_1, y2_0, y4 => (if x15 < x14 then (spec_l6Stable.l1 k x15 3 x14 x15 y0_0 0 y0_0 y0_1 y2_0 y4) else (some (y2_0, y4)))
def spec_l6Stable.l1 : Nat → Int → Int → Int → Int → Int → Int → Int → (List Int) → Int → (List Int) → Option (Int × (List Int))
  | 0, _, _, _, _, _, _, _, _, _, _ => none
  | k + 1, x4, x5, x14, x15, x19, x20, y0_0, y0_1, y2_0, y4 => (if x20 < x19 then (if y0_0 = 0 then none else (if 0 ≤ (wrap64 ((wrap64 ((wrap64 (x4.tdiv y0_0)) * y0_0)) + x20)) then (if (wrap64 ((wrap64 ((wrap64 (x4.tdiv y0_0)) * y0_0)) + x20)) < (y0_1.length : Int) then (if 0 ≤ (wrap64 ((wrap64 (x20 * y0_0)) + x20)) then (if (wrap64 ((wrap64 (x20 * y0_0)) + x20)) < (y0_1.length : Int) then ((spec_l6Again.f (rdI y0_1 (wrap64 ((wrap64 (x20 * y0_0)) + x20)))).bind fun t1 => (if 0 ≤ (wrap64 ((wrap64 (x20 * y0_0)) + (x4.tmod y0_0))) then (if (wrap64 ((wrap64 (x20 * y0_0)) + (x4.tmod y0_0))) < (y0_1.length : Int) then (spec_l6Stable.l1 k x4 (mn x5 (mx (mx (rdI y0_1 (wrap64 ((wrap64 ((wrap64 (x4.tdiv y0_0)) * y0_0)) + x20))) t1) (rdI y0_1 (wrap64 ((wrap64 (x20 * y0_0)) + (x4.tmod y0_0)))))) x14 x15 x19 (wrap64 (x20 + 1)) y0_0 y0_1 y2_0 y4) else none) else none)) else none) else none) else none) else none)) else (if y4.length < 17592186044416 then (spec_l6Stable.l0 k x14 (wrap64 (x15 + 1)) y0_0 y0_1 y2_0 (y4 ++ [x5])) else none))
end
def spec_l6Stable.f (k : Nat) (a0_0 : Int) (l0_1 : List Int) : Option (Int × (List Int)) := (spec_l6Stable.l0 k (wrap64 (a0_0 * a0_0)) 0 a0_0 l0_1 a0_0 ([] : List Int))
def spec_l6Stable.en (r : Int × (List Int)) : Res := (.agg [.int .i64 r.1, .sl 0 0], [.arr 3 0 (.I .i64 r.2) false])
def spec_l6Stable.dec : List AV → List R.Obj → Option (Int × (List Int))
  | [.agg [.int .i64 a0_0, .imm (.I .i64 l0_1)]], [] => some (a0_0, l0_1)
  | _, _ => none
def spec_l6Stable.tw : Tw := ⟨119, Int × (List Int), Int × (List Int), spec_l6Stable.dec, fun a => [.agg [.int .i64 a.1, .imm (.I .i64 a.2)]], fun a => [], fun k a => spec_l6Stable.f k a.1 a.2, fun a r => spec_l6Stable.en r⟩
theorem spec_l6Stable.dok : spec_l6Stable.tw.DecOk := by
  intro args hc a h
  have h : spec_l6Stable.dec args hc = some a := h
  unfold spec_l6Stable.dec at h
  split at h
  · cases h; exact ⟨rfl, rfl⟩
  · cases h
noncomputable def spec_l6Stable.O (k : Nat) : Oracle := (spec_l6Again.tw.orc k noO)
def spec_l6Stable.fh : FH := ⟨fun i => match i with | 3 => some [(1, 0), (2, 0), (3, 0), (14, 0), (15, 0)] | 7 => some [(1, 0), (2, 0), (3, 0), (4, 0), (5, 0), (14, 0), (15, 0), (19, 0), (20, 0)] | _ => none, [(true, 3)], false⟩
noncomputable def spec_l6Stable.x0 (k : Nat) (x14 : Int) (x15 : Int) (y0_0 : Int) (y0_1 : List Int) (y2_0 : Int) (y4 : List Int) : Option Res := R.exec Try.prog xhn spec_l6Stable.O 0 Try.f119 spec_l6Stable.fh k (R.point Try.f119 3) ⟨[(1, .ptr 0 0), (2, .ptr 1 0), (3, .ptr 2 0), (14, .int .i64 x14), (15, .int .i64 x15)], [(0, .box false [.int .i64 y0_0, .imm (.I .i64 y0_1)]), (1, .box false [.int .i64 0, .sl 3 0]), (2, .box false [.int .i64 y2_0, .sl 4 0]), (3, .arr 3 0 (.I .i64 ([] : List Int)) false), (4, .arr 3 0 (.I .i64 y4) false)], 7⟩
noncomputable def spec_l6Stable.x1 (k : Nat) (x4 : Int) (x5 : Int) (x14 : Int) (x15 : Int) (x19 : Int) (x20 : Int) (y0_0 : Int) (y0_1 : List Int) (y2_0 : Int) (y4 : List Int) : Option Res := R.exec Try.prog xhn spec_l6Stable.O 0 Try.f119 spec_l6Stable.fh k (R.point Try.f119 7) ⟨[(1, .ptr 0 0), (2, .ptr 1 0), (3, .ptr 2 0), (4, .int .i64 x4), (5, .int .i64 x5), (14, .int .i64 x14), (15, .int .i64 x15), (19, .int .i64 x19), (20, .int .i64 x20)], [(0, .box false [.int .i64 y0_0, .imm (.I .i64 y0_1)]), (1, .box false [.int .i64 0, .sl 3 0]), (2, .box false [.int .i64 y2_0, .sl 4 0]), (3, .arr 3 0 (.I .i64 ([] : List Int)) false), (4, .arr 3 0 (.I .i64 y4) false)], 7⟩
set_option maxRecDepth 100000 in
theorem spec_l6Stable.e0 (k : Nat) (x14 : Int) (x15 : Int) (y0_0 : Int) (y0_1 : List Int) (y2_0 : Int) (y4 : List Int) : spec_l6Stable.x0 (k + 1) x14 x15 y0_0 y0_1 y2_0 y4 = (if x15 < x14 then (spec_l6Stable.x1 k x15 3 x14 x15 y0_0 0 y0_0 y0_1 y2_0 y4) else (some (spec_l6Stable.en (y2_0, y4)))) := by kernel_rfl
set_option maxRecDepth 100000 in
theorem spec_l6Stable.e1 (k : Nat) (x4 : Int) (x5 : Int) (x14 : Int) (x15 : Int) (x19 : Int) (x20 : Int) (y0_0 : Int) (y0_1 : List Int) (y2_0 : Int) (y4 : List Int) : spec_l6Stable.x1 (k + 1) x4 x5 x14 x15 x19 x20 y0_0 y0_1 y2_0 y4 = (if x20 < x19 then (if y0_0 = 0 then none else (if 0 ≤ (wrap64 ((wrap64 ((wrap64 (x4.tdiv y0_0)) * y0_0)) + x20)) then (if (wrap64 ((wrap64 ((wrap64 (x4.tdiv y0_0)) * y0_0)) + x20)) < (y0_1.length : Int) then (if 0 ≤ (wrap64 ((wrap64 (x20 * y0_0)) + x20)) then (if (wrap64 ((wrap64 (x20 * y0_0)) + x20)) < (y0_1.length : Int) then ((spec_l6Again.f (rdI y0_1 (wrap64 ((wrap64 (x20 * y0_0)) + x20)))).bind fun t1 => (if 0 ≤ (wrap64 ((wrap64 (x20 * y0_0)) + (x4.tmod y0_0))) then (if (wrap64 ((wrap64 (x20 * y0_0)) + (x4.tmod y0_0))) < (y0_1.length : Int) then (spec_l6Stable.x1 k x4 (mn x5 (mx (mx (rdI y0_1 (wrap64 ((wrap64 ((wrap64 (x4.tdiv y0_0)) * y0_0)) + x20))) t1) (rdI y0_1 (wrap64 ((wrap64 (x20 * y0_0)) + (x4.tmod y0_0)))))) x14 x15 x19 (wrap64 (x20 + 1)) y0_0 y0_1 y2_0 y4) else none) else none)) else none) else none) else none) else none)) else (if y4.length < 17592186044416 then (spec_l6Stable.x0 k x14 (wrap64 (x15 + 1)) y0_0 y0_1 y2_0 (y4 ++ [x5])) else none)) := by
  refine Eq.trans ?_ (R.icong (fun h0 => (R.icong (fun h1 => rfl) (fun h1 => (R.icong (fun h2 => (R.icong (fun h3 => (R.icong (fun h4 => (R.icong (fun h5 => (R.bcong fun t1 => (R.idropF (p := y0_0 = 0) (z := none) h1 rfl))) (fun h5 => rfl))) (fun h4 => rfl))) (fun h3 => rfl))) (fun h2 => rfl))))) (fun h0 => rfl))
  kernel_rfl
set_option maxRecDepth 100000 in
theorem spec_l6Stable.ef (k : Nat) (a0_0 : Int) (l0_1 : List Int) : R.start Try.prog xhn spec_l6Stable.O 0 Try.f119 spec_l6Stable.fh k [.agg [.int .i64 a0_0, .imm (.I .i64 l0_1)]] [] = (spec_l6Stable.x0 k (wrap64 (a0_0 * a0_0)) 0 a0_0 l0_1 a0_0 ([] : List Int)) := by kernel_rfl
theorem spec_l6Stable.link : ∀ k, (∀ (x14 : Int) (x15 : Int) (y0_0 : Int) (y0_1 : List Int) (y2_0 : Int) (y4 : List Int), spec_l6Stable.x0 k x14 x15 y0_0 y0_1 y2_0 y4 = (spec_l6Stable.l0 k x14 x15 y0_0 y0_1 y2_0 y4).map (spec_l6Stable.en)) ∧ (∀ (x4 : Int) (x5 : Int) (x14 : Int) (x15 : Int) (x19 : Int) (x20 : Int) (y0_0 : Int) (y0_1 : List Int) (y2_0 : Int) (y4 : List Int), spec_l6Stable.x1 k x4 x5 x14 x15 x19 x20 y0_0 y0_1 y2_0 y4 = (spec_l6Stable.l1 k x4 x5 x14 x15 x19 x20 y0_0 y0_1 y2_0 y4).map (spec_l6Stable.en))
  | 0 => ⟨fun _ _ _ _ _ _ => by simp only [spec_l6Stable.l0, R.map_none]; rfl, fun _ _ _ _ _ _ _ _ _ _ => by simp only [spec_l6Stable.l1, R.map_none]; rfl⟩
  | k + 1 => by
    obtain ⟨ih0, ih1⟩ := spec_l6Stable.link k
    refine ⟨?_, ?_⟩
    · intro x14 x15 y0_0 y0_1 y2_0 y4
      rw [spec_l6Stable.e0]
      simp only [spec_l6Stable.l0, R.map_ite, R.map_bind, R.map_none, R.map_some, ← ih0, ← ih1]
    · intro x4 x5 x14 x15 x19 x20 y0_0 y0_1 y2_0 y4
      rw [spec_l6Stable.e1]
      simp only [spec_l6Stable.l1, R.map_ite, R.map_bind, R.map_none, R.map_some, ← ih0, ← ih1]
theorem spec_l6Stable.sf (k : Nat) (a0_0 : Int) (l0_1 : List Int) : R.start Try.prog xhn spec_l6Stable.O 0 Try.f119 spec_l6Stable.fh k [.agg [.int .i64 a0_0, .imm (.I .i64 l0_1)]] [] = (spec_l6Stable.f k a0_0 l0_1).map (spec_l6Stable.en) := by
  obtain ⟨ih0, ih1⟩ := spec_l6Stable.link k
  rw [spec_l6Stable.ef]
  simp only [spec_l6Stable.f, R.map_ite, R.map_bind, R.map_none, R.map_some, ← ih0, ← ih1]
theorem spec_l6Stable.ok (k : Nat) : spec_l6Stable.tw.Ok Try.prog k := by
  intro a r h
  refine fn_ok (H := xhn) (fh := spec_l6Stable.fh) (O := spec_l6Stable.O) (k := k) Try.func119 (by kernel_rfl) (by kernel_rfl) (fun j _ => (Tw.orc_sound spec_l6Again.dok (spec_l6Again.ok j) noO_sound)) (by kernel_rfl) (m := 0) rfl ?_
  refine (spec_l6Stable.sf k a.1 a.2).trans ?_
  exact congrArg (Option.map _) h
def spec_l8Closer_put_b.l0 : Nat → ByteArray → (List Elm) → Int → Int → Bool → Int → (List Int) → Option ((List Elm) × Bool)
  | 0, _, _, _, _, _, _, _ => none
  | k + 1, x2, y1, x12, x13, y0_1, y2_0, y2_1 => (if x13 < x12 then (if 0 ≤ x13 then (if x13 < (y1.length : Int) then ((spec_l2Same.f k ((rdE y1 x13).f1) y2_1).bind fun t1 => (if t1 = true then (some (y1, y0_1)) else (spec_l8Closer_put_b.l0 k x2 y1 x12 (wrap64 (x13 + 1)) y0_1 y2_0 y2_1))) else none) else none) else (if y0_1 = true then (some (y1, true)) else (if (y1.length : Int) ≥ 120 then (some (y1, true)) else (if (decide ((x2.size : Int) > 120)) = true then (some (y1, (decide ((x2.size : Int) > 120)))) else (if y1.length < 2932031007402 then (some ((y1 ++ [(⟨y2_0, y2_1, x2⟩ : Elm)]), (decide ((x2.size : Int) > 120)))) else none)))))
def spec_l8Closer_put_b.f (k : Nat) (a1_0 : Int) (l1_1 : List Int) (a2 : ByteArray) (l4 : List Elm) (a3_1 : Bool) : Option ((List Elm) × Bool) := (spec_l8Closer_put_b.l0 k a2 l4 (l4.length : Int) 0 a3_1 a1_0 l1_1)
def spec_l8Closer_put_b.en (r : (List Elm) × Bool) : Res := (.tup [], [.box false [.sl 1 1, .lit r.2], .arr 82 1 (.E r.1) true])
def spec_l8Closer_put_b.dec : List AV → List R.Obj → Option (Int × (List Int) × ByteArray × (List Elm) × Bool)
  | [.ptr 0 0, .agg [.int .i64 a1_0, .imm (.I .i64 l1_1)], .str a2], [.box false [.sl 1 0, .lit a3_1], .arr 82 0 (.E l4) true] => some (a1_0, l1_1, a2, l4, a3_1)
  | _, _ => none
def spec_l8Closer_put_b.tw : Tw := ⟨189, Int × (List Int) × ByteArray × (List Elm) × Bool, (List Elm) × Bool, spec_l8Closer_put_b.dec, fun a => [.ptr 0 0, .agg [.int .i64 a.1, .imm (.I .i64 a.2.1)], .str a.2.2.1], fun a => [.box false [.sl 1 0, .lit a.2.2.2.2], .arr 82 0 (.E a.2.2.2.1) true], fun k a => spec_l8Closer_put_b.f k a.1 a.2.1 a.2.2.1 a.2.2.2.1 a.2.2.2.2, fun a r => spec_l8Closer_put_b.en r⟩
theorem spec_l8Closer_put_b.dok : spec_l8Closer_put_b.tw.DecOk := by
  intro args hc a h
  have h : spec_l8Closer_put_b.dec args hc = some a := h
  unfold spec_l8Closer_put_b.dec at h
  split at h
  · cases h; exact ⟨rfl, rfl⟩
  · cases h
noncomputable def spec_l8Closer_put_b.O (k : Nat) : Oracle := (spec_l2Same.tw.orc k noO)
def spec_l8Closer_put_b.fh : FH := ⟨fun i => match i with | 2 => some [(0, 0), (2, 0), (4, 0), (11, 0), (12, 0), (13, 0)] | _ => none, [], true⟩
noncomputable def spec_l8Closer_put_b.x0 (k : Nat) (x2 : ByteArray) (y1 : List Elm) (x12 : Int) (x13 : Int) (y0_1 : Bool) (y2_0 : Int) (y2_1 : List Int) : Option Res := R.exec Try.prog xhn spec_l8Closer_put_b.O 2 Try.f189 spec_l8Closer_put_b.fh k (R.point Try.f189 2) ⟨[(0, .ptr 0 0), (2, .str x2), (4, .ptr 2 0), (11, .sl 1 1), (12, .int .i64 x12), (13, .int .i64 x13)], [(0, .box false [.sl 1 1, .lit y0_1]), (1, .arr 82 1 (.E y1) true), (2, .box false [.int .i64 y2_0, .imm (.I .i64 y2_1)])], 5⟩
set_option maxRecDepth 100000 in
theorem spec_l8Closer_put_b.e0 (k : Nat) (x2 : ByteArray) (y1 : List Elm) (x12 : Int) (x13 : Int) (y0_1 : Bool) (y2_0 : Int) (y2_1 : List Int) : spec_l8Closer_put_b.x0 (k + 1) x2 y1 x12 x13 y0_1 y2_0 y2_1 = (if x13 < x12 then (if 0 ≤ x13 then (if x13 < (y1.length : Int) then ((spec_l2Same.f k ((rdE y1 x13).f1) y2_1).bind fun t1 => (if t1 = true then (some (spec_l8Closer_put_b.en (y1, y0_1))) else (spec_l8Closer_put_b.x0 k x2 y1 x12 (wrap64 (x13 + 1)) y0_1 y2_0 y2_1))) else none) else none) else (if y0_1 = true then (some (spec_l8Closer_put_b.en (y1, true))) else (if (y1.length : Int) ≥ 120 then (some (spec_l8Closer_put_b.en (y1, true))) else (if (decide ((x2.size : Int) > 120)) = true then (some (spec_l8Closer_put_b.en (y1, (decide ((x2.size : Int) > 120))))) else (if y1.length < 2932031007402 then (some (spec_l8Closer_put_b.en ((y1 ++ [(⟨y2_0, y2_1, x2⟩ : Elm)]), (decide ((x2.size : Int) > 120))))) else none))))) := by kernel_rfl
set_option maxRecDepth 100000 in
theorem spec_l8Closer_put_b.ef (k : Nat) (a1_0 : Int) (l1_1 : List Int) (a2 : ByteArray) (l4 : List Elm) (a3_1 : Bool) : R.start Try.prog xhn spec_l8Closer_put_b.O 2 Try.f189 spec_l8Closer_put_b.fh k [.ptr 0 0, .agg [.int .i64 a1_0, .imm (.I .i64 l1_1)], .str a2] [.box false [.sl 1 0, .lit a3_1], .arr 82 0 (.E l4) true] = (spec_l8Closer_put_b.x0 k a2 l4 (l4.length : Int) 0 a3_1 a1_0 l1_1) := by kernel_rfl
theorem spec_l8Closer_put_b.link : ∀ k, (∀ (x2 : ByteArray) (y1 : List Elm) (x12 : Int) (x13 : Int) (y0_1 : Bool) (y2_0 : Int) (y2_1 : List Int), spec_l8Closer_put_b.x0 k x2 y1 x12 x13 y0_1 y2_0 y2_1 = (spec_l8Closer_put_b.l0 k x2 y1 x12 x13 y0_1 y2_0 y2_1).map (spec_l8Closer_put_b.en))
  | 0 => fun _ _ _ _ _ _ _ => by simp only [spec_l8Closer_put_b.l0, R.map_none]; rfl
  | k + 1 => by
    have ih0 := spec_l8Closer_put_b.link k
    · intro x2 y1 x12 x13 y0_1 y2_0 y2_1
      rw [spec_l8Closer_put_b.e0]
      simp only [spec_l8Closer_put_b.l0, R.map_ite, R.map_bind, R.map_none, R.map_some, ← ih0]
theorem spec_l8Closer_put_b.sf (k : Nat) (a1_0 : Int) (l1_1 : List Int) (a2 : ByteArray) (l4 : List Elm) (a3_1 : Bool) : R.start Try.prog xhn spec_l8Closer_put_b.O 2 Try.f189 spec_l8Closer_put_b.fh k [.ptr 0 0, .agg [.int .i64 a1_0, .imm (.I .i64 l1_1)], .str a2] [.box false [.sl 1 0, .lit a3_1], .arr 82 0 (.E l4) true] = (spec_l8Closer_put_b.f k a1_0 l1_1 a2 l4 a3_1).map (spec_l8Closer_put_b.en) := by
  have ih0 := spec_l8Closer_put_b.link k
  rw [spec_l8Closer_put_b.ef]
  simp only [spec_l8Closer_put_b.f, R.map_ite, R.map_bind, R.map_none, R.map_some, ← ih0]
theorem spec_l8Closer_put_b.ok (k : Nat) : spec_l8Closer_put_b.tw.Ok Try.prog k := by
  intro a r h
  refine fn_ok (H := xhn) (fh := spec_l8Closer_put_b.fh) (O := spec_l8Closer_put_b.O) (k := k) Try.func189 (by kernel_rfl) (by kernel_rfl) (fun j _ => (Tw.orc_sound spec_l2Same.dok (spec_l2Same.ok j) noO_sound)) (by kernel_rfl) (m := 2) rfl ?_
  refine (spec_l8Closer_put_b.sf k a.1 a.2.1 a.2.2.1 a.2.2.2.1 a.2.2.2.2).trans ?_
  exact congrArg (Option.map _) h
mutual
def spec_l8Elements.l0 : Nat → Bool → (List Elm) → (List ByteArray) → Int → Int → Int → (List Int) → (List Int) → (List Stp) → (List Elm) → Bool → Option ((List Elm) × Bool)
  | 0, _, _, _, _, _, _, _, _, _, _, _ => none
  | k + 1, x1, y2, y3, x21, x22, y0_0, y0_1, y0_2, y0_3, y4, y1_1 => (if x22 < x21 then (if 0 ≤ x22 then (if x22 < (y3.length : Int) then ((spec_l3Matrix.f k y0_0 y0_1 y0_2 y0_3 (rdS y3 x22)).bind fun t1 => ((spec_l6Grades.f k t1.1 t1.2).bind fun t2 => (if y2.length < 2932031007402 then ((spec_l8Closer_put.f k t2.1 t2.2 (rdS y3 x22) y4 y1_1).bind fun t3 => (spec_l8Elements.l0 k x1 (y2 ++ [(⟨t2.1, t2.2, (rdS y3 x22)⟩ : Elm)]) y3 x21 (wrap64 (x22 + 1)) y0_0 y0_1 y0_2 y0_3 t3.1 t3.2)) else none))) else none) else none) else (spec_l8Elements.l1 k x1 y2 0 y4 y1_1))
def spec_l8Elements.l1 : Nat → Bool → (List Elm) → Int → (List Elm) → Bool → Option ((List Elm) × Bool)
  | 0, _, _, _, _, _ => none
  | k + 1, x1, y1, x11, y2, y0_1 => (if x11 < (y2.length : Int) then (if y0_1 = true then (some (y2, (!decide (y0_1 = true)))) else (if 0 ≤ x11 then (if x1 = true then ((spec_l6Idempotent.f k ((rdE y2 x11).f0) ((rdE y2 x11).f1)).bind fun t4 => (if t4 = true then ((spec_l6Stable.f k ((rdE y2 x11).f0) ((rdE y2 x11).f1)).bind fun t5 => (if 1 + (rdE y2 x11).f2.size ≤ 9223372036854775807 then (if ((⟨#[40]⟩ : ByteArray) ++ (rdE y2 x11).f2).size + 2 ≤ 9223372036854775807 then ((spec_l8Closer_put_b.f k t5.1 t5.2 (((⟨#[40]⟩ : ByteArray) ++ (rdE y2 x11).f2) ++ (⟨#[41, 35]⟩ : ByteArray)) y2 y0_1).bind fun t6 => (if 0 ≤ (wrap64 (x11 + 1)) then (if (wrap64 (x11 + 1)) ≤ (t6.1.length : Int) then (if ([] : List Elm).length + ((t6.1.drop 0).take ((wrap64 (x11 + 1)).toNat - 0)).length ≤ 2932031007402 then (spec_l8Elements.l2 k x1 y1 x11 (([] : List Elm) ++ ((t6.1.drop 0).take ((wrap64 (x11 + 1)).toNat - 0))) ((([] : List Elm) ++ ((t6.1.drop 0).take ((wrap64 (x11 + 1)).toNat - 0))).length : Int) 0 t6.1 t6.2 ((rdE y2 x11).f0) ((rdE y2 x11).f1) ((rdE y2 x11).f2)) else none) else none) else none)) else none) else none)) else (if 0 ≤ (wrap64 (x11 + 1)) then (if (wrap64 (x11 + 1)) ≤ (y2.length : Int) then (if ([] : List Elm).length + ((y2.drop 0).take ((wrap64 (x11 + 1)).toNat - 0)).length ≤ 2932031007402 then (spec_l8Elements.l2 k x1 y1 x11 (([] : List Elm) ++ ((y2.drop 0).take ((wrap64 (x11 + 1)).toNat - 0))) ((([] : List Elm) ++ ((y2.drop 0).take ((wrap64 (x11 + 1)).toNat - 0))).length : Int) 0 y2 y0_1 ((rdE y2 x11).f0) ((rdE y2 x11).f1) ((rdE y2 x11).f2)) else none) else none) else none))) else (spec_l8Elements.l2 k x1 y1 x11 y1 (y1.length : Int) 0 y2 y0_1 ((rdE y2 x11).f0) ((rdE y2 x11).f1) ((rdE y2 x11).f2))) else none)) else (some (y2, (!decide (y0_1 = true)))))
def spec_l8Elements.l2 : Nat → Bool → (List Elm) → Int → (List Elm) → Int → Int → (List Elm) → Bool → Int → (List Int) → ByteArray → Option ((List Elm) × Bool)
  | 0, _, _, _, _, _, _, _, _, _, _, _ => none
  | k + 1, x1, y1, x11, x90, x91, x92, y3, y0_1, y2_0, y2_1, y2_2 => (if x92 < x91 then (if 0 ≤ x92 then (if x92 < (x90.length : Int) then ((spec_l6Mul.f k y2_0 y2_1 ((rdE x90 x92).f0) ((rdE x90 x92).f1)).bind fun t7 => (if y2_2.size + (rdE x90 x92).f2.size ≤ 9223372036854775807 then ((spec_l8Closer_put_b.f k t7.1 t7.2 (y2_2 ++ (rdE x90 x92).f2) y3 y0_1).bind fun t8 => (if x1 = true then ((spec_l6Mul.f k ((rdE x90 x92).f0) ((rdE x90 x92).f1) y2_0 y2_1).bind fun t9 => (if (rdE x90 x92).f2.size + y2_2.size ≤ 9223372036854775807 then ((spec_l8Closer_put_b.f k t9.1 t9.2 ((rdE x90 x92).f2 ++ y2_2) t8.1 t8.2).bind fun t10 => (spec_l8Elements.l2 k x1 y1 x11 x90 x91 (wrap64 (x92 + 1)) t10.1 t10.2 y2_0 y2_1 y2_2)) else none)) else (spec_l8Elements.l2 k x1 y1 x11 x90 x91 (wrap64 (x92 + 1)) t8.1 t8.2 y2_0 y2_1 y2_2))) else none)) else none) else none) else (spec_l8Elements.l1 k x1 y1 (wrap64 (x11 + 1)) y3 y0_1))
end
def spec_l8Elements.f (k : Nat) (a0_0 : Int) (l0_1 : List Int) (l0_2 : List Int) (l0_3 : List Stp) (a1 : Bool) : Option ((List Elm) × Bool) := (spec_l8Elements.l0 k a1 ([] : List Elm) ([(⟨#[97]⟩ : ByteArray), (⟨#[98]⟩ : ByteArray)]) ([(⟨#[97]⟩ : ByteArray), (⟨#[98]⟩ : ByteArray)].length : Int) 0 a0_0 l0_1 l0_2 l0_3 ([] : List Elm) false)
def spec_l8Elements.en (r : (List Elm) × Bool) : Res := (.tup [.imm (.E r.1), .lit r.2], [])
def spec_l8Elements.dec : List AV → List R.Obj → Option (Int × (List Int) × (List Int) × (List Stp) × Bool)
  | [.agg [.int .i64 a0_0, .imm (.I .i64 l0_1), .imm (.I .i64 l0_2), .imm (.T l0_3)], .lit a1], [] => some (a0_0, l0_1, l0_2, l0_3, a1)
  | _, _ => none
def spec_l8Elements.tw : Tw := ⟨168, Int × (List Int) × (List Int) × (List Stp) × Bool, (List Elm) × Bool, spec_l8Elements.dec, fun a => [.agg [.int .i64 a.1, .imm (.I .i64 a.2.1), .imm (.I .i64 a.2.2.1), .imm (.T a.2.2.2.1)], .lit a.2.2.2.2], fun a => [], fun k a => spec_l8Elements.f k a.1 a.2.1 a.2.2.1 a.2.2.2.1 a.2.2.2.2, fun a r => spec_l8Elements.en r⟩
theorem spec_l8Elements.dok : spec_l8Elements.tw.DecOk := by
  intro args hc a h
  have h : spec_l8Elements.dec args hc = some a := h
  unfold spec_l8Elements.dec at h
  split at h
  · cases h; exact ⟨rfl, rfl⟩
  · cases h
noncomputable def spec_l8Elements.O (k : Nat) : Oracle := (spec_l3Matrix.tw.orc k (spec_l6Grades.tw.orc k (spec_l8Closer_put.tw.orc k (spec_l6Idempotent.tw.orc k (spec_l6Stable.tw.orc k (spec_l8Closer_put_b.tw.orc k (spec_l6Mul.tw.orc k noO)))))))
def spec_l8Elements.fh : FH := ⟨fun i => match i with | 4 => some [(1, 0), (2, 0), (6, 0), (7, 0), (20, 0), (21, 0), (22, 0)] | 11 => some [(1, 0), (6, 2), (7, 2), (11, 0)] | 20 => some [(1, 0), (6, 2), (7, 2), (11, 0), (12, 0), (90, 1), (91, 0), (92, 0)] | _ => none, [(false, 82)], false⟩
noncomputable def spec_l8Elements.x0 (k : Nat) (x1 : Bool) (y2 : List Elm) (y3 : List ByteArray) (x21 : Int) (x22 : Int) (y0_0 : Int) (y0_1 : List Int) (y0_2 : List Int) (y0_3 : List Stp) (y4 : List Elm) (y1_1 : Bool) : Option Res := R.exec Try.prog xhn spec_l8Elements.O 0 Try.f168 spec_l8Elements.fh k (R.point Try.f168 4) ⟨[(1, .lit x1), (2, .ptr 0 0), (6, .ptr 1 0), (7, .sl 2 0), (20, .sl 3 0), (21, .int .i64 x21), (22, .int .i64 x22)], [(0, .box false [.int .i64 y0_0, .imm (.I .i64 y0_1), .imm (.I .i64 y0_2), .imm (.T y0_3)]), (1, .box false [.sl 4 0, .lit y1_1]), (2, .arr 82 0 (.E y2) false), (3, .arr 9 0 (.S y3) false), (4, .arr 82 0 (.E y4) false)], 7⟩
noncomputable def spec_l8Elements.x1 (k : Nat) (x1 : Bool) (y1 : List Elm) (x11 : Int) (y2 : List Elm) (y0_1 : Bool) : Option Res := R.exec Try.prog xhn spec_l8Elements.O 0 Try.f168 spec_l8Elements.fh k (R.point Try.f168 11) ⟨[(1, .lit x1), (6, .ptr 0 0), (7, .sl 1 0), (11, .int .i64 x11)], [(0, .box false [.sl 2 0, .lit y0_1]), (1, .arr 82 0 (.E y1) true), (2, .arr 82 0 (.E y2) true)], 5⟩
noncomputable def spec_l8Elements.x2 (k : Nat) (x1 : Bool) (y1 : List Elm) (x11 : Int) (x90 : List Elm) (x91 : Int) (x92 : Int) (y3 : List Elm) (y0_1 : Bool) (y2_0 : Int) (y2_1 : List Int) (y2_2 : ByteArray) : Option Res := R.exec Try.prog xhn spec_l8Elements.O 0 Try.f168 spec_l8Elements.fh k (R.point Try.f168 20) ⟨[(1, .lit x1), (6, .ptr 0 0), (7, .sl 1 0), (11, .int .i64 x11), (12, .ptr 2 0), (90, .imm (.E x90)), (91, .int .i64 x91), (92, .int .i64 x92)], [(0, .box false [.sl 3 0, .lit y0_1]), (1, .arr 82 0 (.E y1) true), (2, .box false [.int .i64 y2_0, .imm (.I .i64 y2_1), .str y2_2]), (3, .arr 82 0 (.E y3) true)], 6⟩
set_option maxRecDepth 100000 in
theorem spec_l8Elements.e0 (k : Nat) (x1 : Bool) (y2 : List Elm) (y3 : List ByteArray) (x21 : Int) (x22 : Int) (y0_0 : Int) (y0_1 : List Int) (y0_2 : List Int) (y0_3 : List Stp) (y4 : List Elm) (y1_1 : Bool) : spec_l8Elements.x0 (k + 1) x1 y2 y3 x21 x22 y0_0 y0_1 y0_2 y0_3 y4 y1_1 = (if x22 < x21 then (if 0 ≤ x22 then (if x22 < (y3.length : Int) then ((spec_l3Matrix.f k y0_0 y0_1 y0_2 y0_3 (rdS y3 x22)).bind fun t1 => ((spec_l6Grades.f k t1.1 t1.2).bind fun t2 => (if y2.length < 2932031007402 then ((spec_l8Closer_put.f k t2.1 t2.2 (rdS y3 x22) y4 y1_1).bind fun t3 => (spec_l8Elements.x0 k x1 (y2 ++ [(⟨t2.1, t2.2, (rdS y3 x22)⟩ : Elm)]) y3 x21 (wrap64 (x22 + 1)) y0_0 y0_1 y0_2 y0_3 t3.1 t3.2)) else none))) else none) else none) else (spec_l8Elements.x1 k x1 y2 0 y4 y1_1)) := by kernel_rfl
set_option maxRecDepth 100000 in
theorem spec_l8Elements.e1 (k : Nat) (x1 : Bool) (y1 : List Elm) (x11 : Int) (y2 : List Elm) (y0_1 : Bool) : spec_l8Elements.x1 (k + 1) x1 y1 x11 y2 y0_1 = (if x11 < (y2.length : Int) then (if y0_1 = true then (some (spec_l8Elements.en (y2, (!decide (y0_1 = true))))) else (if 0 ≤ x11 then (if x1 = true then ((spec_l6Idempotent.f k ((rdE y2 x11).f0) ((rdE y2 x11).f1)).bind fun t4 => (if t4 = true then ((spec_l6Stable.f k ((rdE y2 x11).f0) ((rdE y2 x11).f1)).bind fun t5 => (if 1 + (rdE y2 x11).f2.size ≤ 9223372036854775807 then (if ((⟨#[40]⟩ : ByteArray) ++ (rdE y2 x11).f2).size + 2 ≤ 9223372036854775807 then ((spec_l8Closer_put_b.f k t5.1 t5.2 (((⟨#[40]⟩ : ByteArray) ++ (rdE y2 x11).f2) ++ (⟨#[41, 35]⟩ : ByteArray)) y2 y0_1).bind fun t6 => (if 0 ≤ (wrap64 (x11 + 1)) then (if (wrap64 (x11 + 1)) ≤ (t6.1.length : Int) then (if ([] : List Elm).length + ((t6.1.drop 0).take ((wrap64 (x11 + 1)).toNat - 0)).length ≤ 2932031007402 then (spec_l8Elements.x2 k x1 y1 x11 (([] : List Elm) ++ ((t6.1.drop 0).take ((wrap64 (x11 + 1)).toNat - 0))) ((([] : List Elm) ++ ((t6.1.drop 0).take ((wrap64 (x11 + 1)).toNat - 0))).length : Int) 0 t6.1 t6.2 ((rdE y2 x11).f0) ((rdE y2 x11).f1) ((rdE y2 x11).f2)) else none) else none) else none)) else none) else none)) else (if 0 ≤ (wrap64 (x11 + 1)) then (if (wrap64 (x11 + 1)) ≤ (y2.length : Int) then (if ([] : List Elm).length + ((y2.drop 0).take ((wrap64 (x11 + 1)).toNat - 0)).length ≤ 2932031007402 then (spec_l8Elements.x2 k x1 y1 x11 (([] : List Elm) ++ ((y2.drop 0).take ((wrap64 (x11 + 1)).toNat - 0))) ((([] : List Elm) ++ ((y2.drop 0).take ((wrap64 (x11 + 1)).toNat - 0))).length : Int) 0 y2 y0_1 ((rdE y2 x11).f0) ((rdE y2 x11).f1) ((rdE y2 x11).f2)) else none) else none) else none))) else (spec_l8Elements.x2 k x1 y1 x11 y1 (y1.length : Int) 0 y2 y0_1 ((rdE y2 x11).f0) ((rdE y2 x11).f1) ((rdE y2 x11).f2))) else none)) else (some (spec_l8Elements.en (y2, (!decide (y0_1 = true)))))) := by
  refine Eq.trans ?_ (R.icong (fun h0 => (R.icong (fun h1 => rfl) (fun h1 => (R.icong (fun h2 => (R.idropT (p := x11 < (y2.length : Int)) (z := none) h0 (R.icong (fun h3 => (R.bcong fun t4 => (R.icong (fun h4 => (R.bcong fun t5 => (R.icong (fun h5 => (R.icong (fun h6 => (R.bcong fun t6 => (R.idropT (p := x1 = true) (z := (spec_l8Elements.x2 k x1 y1 x11 y1 (y1.length : Int) 0 t6.1 t6.2 ((rdE y2 x11).f0) ((rdE y2 x11).f1) ((rdE y2 x11).f2))) h3 rfl))) (fun h6 => rfl))) (fun h5 => rfl)))) (fun h4 => (R.idropT (p := x1 = true) (z := (spec_l8Elements.x2 k x1 y1 x11 y1 (y1.length : Int) 0 y2 y0_1 ((rdE y2 x11).f0) ((rdE y2 x11).f1) ((rdE y2 x11).f2))) h3 rfl))))) (fun h3 => (R.idropF (p := x1 = true) (z := (if 0 ≤ (wrap64 (x11 + 1)) then (if (wrap64 (x11 + 1)) ≤ (y2.length : Int) then (if ([] : List Elm).length + ((y2.drop 0).take ((wrap64 (x11 + 1)).toNat - 0)).length ≤ 2932031007402 then (spec_l8Elements.x2 k x1 y1 x11 (([] : List Elm) ++ ((y2.drop 0).take ((wrap64 (x11 + 1)).toNat - 0))) ((([] : List Elm) ++ ((y2.drop 0).take ((wrap64 (x11 + 1)).toNat - 0))).length : Int) 0 y2 y0_1 ((rdE y2 x11).f0) ((rdE y2 x11).f1) ((rdE y2 x11).f2)) else none) else none) else none)) h3 rfl))))) (fun h2 => rfl))))) (fun h0 => rfl))
  kernel_rfl
set_option maxRecDepth 100000 in
theorem spec_l8Elements.e2 (k : Nat) (x1 : Bool) (y1 : List Elm) (x11 : Int) (x90 : List Elm) (x91 : Int) (x92 : Int) (y3 : List Elm) (y0_1 : Bool) (y2_0 : Int) (y2_1 : List Int) (y2_2 : ByteArray) : spec_l8Elements.x2 (k + 1) x1 y1 x11 x90 x91 x92 y3 y0_1 y2_0 y2_1 y2_2 = (if x92 < x91 then (if 0 ≤ x92 then (if x92 < (x90.length : Int) then ((spec_l6Mul.f k y2_0 y2_1 ((rdE x90 x92).f0) ((rdE x90 x92).f1)).bind fun t7 => (if y2_2.size + (rdE x90 x92).f2.size ≤ 9223372036854775807 then ((spec_l8Closer_put_b.f k t7.1 t7.2 (y2_2 ++ (rdE x90 x92).f2) y3 y0_1).bind fun t8 => (if x1 = true then ((spec_l6Mul.f k ((rdE x90 x92).f0) ((rdE x90 x92).f1) y2_0 y2_1).bind fun t9 => (if (rdE x90 x92).f2.size + y2_2.size ≤ 9223372036854775807 then ((spec_l8Closer_put_b.f k t9.1 t9.2 ((rdE x90 x92).f2 ++ y2_2) t8.1 t8.2).bind fun t10 => (spec_l8Elements.x2 k x1 y1 x11 x90 x91 (wrap64 (x92 + 1)) t10.1 t10.2 y2_0 y2_1 y2_2)) else none)) else (spec_l8Elements.x2 k x1 y1 x11 x90 x91 (wrap64 (x92 + 1)) t8.1 t8.2 y2_0 y2_1 y2_2))) else none)) else none) else none) else (spec_l8Elements.x1 k x1 y1 (wrap64 (x11 + 1)) y3 y0_1)) := by kernel_rfl
set_option maxRecDepth 100000 in
theorem spec_l8Elements.ef (k : Nat) (a0_0 : Int) (l0_1 : List Int) (l0_2 : List Int) (l0_3 : List Stp) (a1 : Bool) : R.start Try.prog xhn spec_l8Elements.O 0 Try.f168 spec_l8Elements.fh k [.agg [.int .i64 a0_0, .imm (.I .i64 l0_1), .imm (.I .i64 l0_2), .imm (.T l0_3)], .lit a1] [] = (spec_l8Elements.x0 k a1 ([] : List Elm) ([(⟨#[97]⟩ : ByteArray), (⟨#[98]⟩ : ByteArray)]) ([(⟨#[97]⟩ : ByteArray), (⟨#[98]⟩ : ByteArray)].length : Int) 0 a0_0 l0_1 l0_2 l0_3 ([] : List Elm) false) := by kernel_rfl
theorem spec_l8Elements.link : ∀ k, (∀ (x1 : Bool) (y2 : List Elm) (y3 : List ByteArray) (x21 : Int) (x22 : Int) (y0_0 : Int) (y0_1 : List Int) (y0_2 : List Int) (y0_3 : List Stp) (y4 : List Elm) (y1_1 : Bool), spec_l8Elements.x0 k x1 y2 y3 x21 x22 y0_0 y0_1 y0_2 y0_3 y4 y1_1 = (spec_l8Elements.l0 k x1 y2 y3 x21 x22 y0_0 y0_1 y0_2 y0_3 y4 y1_1).map (spec_l8Elements.en)) ∧ (∀ (x1 : Bool) (y1 : List Elm) (x11 : Int) (y2 : List Elm) (y0_1 : Bool), spec_l8Elements.x1 k x1 y1 x11 y2 y0_1 = (spec_l8Elements.l1 k x1 y1 x11 y2 y0_1).map (spec_l8Elements.en)) ∧ (∀ (x1 : Bool) (y1 : List Elm) (x11 : Int) (x90 : List Elm) (x91 : Int) (x92 : Int) (y3 : List Elm) (y0_1 : Bool) (y2_0 : Int) (y2_1 : List Int) (y2_2 : ByteArray), spec_l8Elements.x2 k x1 y1 x11 x90 x91 x92 y3 y0_1 y2_0 y2_1 y2_2 = (spec_l8Elements.l2 k x1 y1 x11 x90 x91 x92 y3 y0_1 y2_0 y2_1 y2_2).map (spec_l8Elements.en))
  | 0 => ⟨fun _ _ _ _ _ _ _ _ _ _ _ => by simp only [spec_l8Elements.l0, R.map_none]; rfl, fun _ _ _ _ _ => by simp only [spec_l8Elements.l1, R.map_none]; rfl, fun _ _ _ _ _ _ _ _ _ _ _ => by simp only [spec_l8Elements.l2, R.map_none]; rfl⟩
  | k + 1 => by
    obtain ⟨ih0, ih1, ih2⟩ := spec_l8Elements.link k
    refine ⟨?_, ?_, ?_⟩
    · intro x1 y2 y3 x21 x22 y0_0 y0_1 y0_2 y0_3 y4 y1_1
      rw [spec_l8Elements.e0]
      simp only [spec_l8Elements.l0, R.map_ite, R.map_bind, R.map_none, R.map_some, ← ih0, ← ih1, ← ih2]
    · intro x1 y1 x11 y2 y0_1
      rw [spec_l8Elements.e1]
      simp only [spec_l8Elements.l1, R.map_ite, R.map_bind, R.map_none, R.map_some, ← ih0, ← ih1, ← ih2]
    · intro x1 y1 x11 x90 x91 x92 y3 y0_1 y2_0 y2_1 y2_2
      rw [spec_l8Elements.e2]
      simp only [spec_l8Elements.l2, R.map_ite, R.map_bind, R.map_none, R.map_some, ← ih0, ← ih1, ← ih2]
theorem spec_l8Elements.sf (k : Nat) (a0_0 : Int) (l0_1 : List Int) (l0_2 : List Int) (l0_3 : List Stp) (a1 : Bool) : R.start Try.prog xhn spec_l8Elements.O 0 Try.f168 spec_l8Elements.fh k [.agg [.int .i64 a0_0, .imm (.I .i64 l0_1), .imm (.I .i64 l0_2), .imm (.T l0_3)], .lit a1] [] = (spec_l8Elements.f k a0_0 l0_1 l0_2 l0_3 a1).map (spec_l8Elements.en) := by
  obtain ⟨ih0, ih1, ih2⟩ := spec_l8Elements.link k
  rw [spec_l8Elements.ef]
  simp only [spec_l8Elements.f, R.map_ite, R.map_bind, R.map_none, R.map_some, ← ih0, ← ih1, ← ih2]
theorem spec_l8Elements.ok (k : Nat) : spec_l8Elements.tw.Ok Try.prog k := by
  intro a r h
  refine fn_ok (H := xhn) (fh := spec_l8Elements.fh) (O := spec_l8Elements.O) (k := k) Try.func168 (by kernel_rfl) (by kernel_rfl) (fun j _ => (Tw.orc_sound spec_l3Matrix.dok (spec_l3Matrix.ok j) (Tw.orc_sound spec_l6Grades.dok (spec_l6Grades.ok j) (Tw.orc_sound spec_l8Closer_put.dok (spec_l8Closer_put.ok j) (Tw.orc_sound spec_l6Idempotent.dok (spec_l6Idempotent.ok j) (Tw.orc_sound spec_l6Stable.dok (spec_l6Stable.ok j) (Tw.orc_sound spec_l8Closer_put_b.dok (spec_l8Closer_put_b.ok j) (Tw.orc_sound spec_l6Mul.dok (spec_l6Mul.ok j) noO_sound)))))))) (by kernel_rfl) (m := 0) rfl ?_
  refine (spec_l8Elements.sf k a.1 a.2.1 a.2.2.1 a.2.2.2.1 a.2.2.2.2).trans ?_
  exact congrArg (Option.map _) h
def spec_l8RawElementsOf.f (k : Nat) (a0_0 : Int) (l0_1 : List Int) (l0_2 : List Int) (l0_3 : List Stp) : Option ((List Elm) × Bool) := ((spec_AutomatonValid.f k a0_0 l0_1 l0_2 l0_3).bind fun t1 => (if t1 = true then ((spec_l8Elements.f k a0_0 l0_1 l0_2 l0_3 true).bind fun t2 => (if t2.2 = true then (some (t2.1, true)) else (some (([] : List Elm), false)))) else (some (([] : List Elm), false))))
def spec_l8RawElementsOf.en (r : (List Elm) × Bool) : Res := (.tup [.imm (.E r.1), .lit r.2], [])
def spec_l8RawElementsOf.dec : List AV → List R.Obj → Option (Int × (List Int) × (List Int) × (List Stp))
  | [.agg [.int .i64 a0_0, .imm (.I .i64 l0_1), .imm (.I .i64 l0_2), .imm (.T l0_3)]], [] => some (a0_0, l0_1, l0_2, l0_3)
  | _, _ => none
def spec_l8RawElementsOf.tw : Tw := ⟨129, Int × (List Int) × (List Int) × (List Stp), (List Elm) × Bool, spec_l8RawElementsOf.dec, fun a => [.agg [.int .i64 a.1, .imm (.I .i64 a.2.1), .imm (.I .i64 a.2.2.1), .imm (.T a.2.2.2)]], fun a => [], fun k a => spec_l8RawElementsOf.f k a.1 a.2.1 a.2.2.1 a.2.2.2, fun a r => spec_l8RawElementsOf.en r⟩
theorem spec_l8RawElementsOf.dok : spec_l8RawElementsOf.tw.DecOk := by
  intro args hc a h
  have h : spec_l8RawElementsOf.dec args hc = some a := h
  unfold spec_l8RawElementsOf.dec at h
  split at h
  · cases h; exact ⟨rfl, rfl⟩
  · cases h
noncomputable def spec_l8RawElementsOf.O (k : Nat) : Oracle := (spec_AutomatonValid.tw.orc k (spec_l8Elements.tw.orc k noO))
def spec_l8RawElementsOf.fh : FH := ⟨fun i => match i with | _ => none, [(false, 82)], false⟩
set_option maxRecDepth 100000 in
theorem spec_l8RawElementsOf.ef (k : Nat) (a0_0 : Int) (l0_1 : List Int) (l0_2 : List Int) (l0_3 : List Stp) : R.start Try.prog xhn spec_l8RawElementsOf.O 0 Try.f129 spec_l8RawElementsOf.fh k [.agg [.int .i64 a0_0, .imm (.I .i64 l0_1), .imm (.I .i64 l0_2), .imm (.T l0_3)]] [] = ((spec_AutomatonValid.f k a0_0 l0_1 l0_2 l0_3).bind fun t1 => (if t1 = true then ((spec_l8Elements.f k a0_0 l0_1 l0_2 l0_3 true).bind fun t2 => (if t2.2 = true then (some (spec_l8RawElementsOf.en (t2.1, true))) else (some (spec_l8RawElementsOf.en (([] : List Elm), false))))) else (some (spec_l8RawElementsOf.en (([] : List Elm), false))))) := by kernel_rfl
theorem spec_l8RawElementsOf.sf (k : Nat) (a0_0 : Int) (l0_1 : List Int) (l0_2 : List Int) (l0_3 : List Stp) : R.start Try.prog xhn spec_l8RawElementsOf.O 0 Try.f129 spec_l8RawElementsOf.fh k [.agg [.int .i64 a0_0, .imm (.I .i64 l0_1), .imm (.I .i64 l0_2), .imm (.T l0_3)]] [] = (spec_l8RawElementsOf.f k a0_0 l0_1 l0_2 l0_3).map (spec_l8RawElementsOf.en) := by
  rw [spec_l8RawElementsOf.ef]
  simp only [spec_l8RawElementsOf.f, R.map_ite, R.map_bind, R.map_none, R.map_some]
theorem spec_l8RawElementsOf.ok (k : Nat) : spec_l8RawElementsOf.tw.Ok Try.prog k := by
  intro a r h
  refine fn_ok (H := xhn) (fh := spec_l8RawElementsOf.fh) (O := spec_l8RawElementsOf.O) (k := k) Try.func129 (by kernel_rfl) (by kernel_rfl) (fun j _ => (Tw.orc_sound spec_AutomatonValid.dok (spec_AutomatonValid.ok j) (Tw.orc_sound spec_l8Elements.dok (spec_l8Elements.ok j) noO_sound))) (by kernel_rfl) (m := 0) rfl ?_
  refine (spec_l8RawElementsOf.sf k a.1 a.2.1 a.2.2.1 a.2.2.2).trans ?_
  exact congrArg (Option.map _) h
def spec_l13OwnMatrix.f (a0_0 : Int) (l0_1 : List Int) : Option (Int × (List Int)) := (if ([] : List Int).length + l0_1.length ≤ 17592186044416 then (some (a0_0, (([] : List Int) ++ l0_1))) else none)
def spec_l13OwnMatrix.en (r : Int × (List Int)) : Res := (.agg [.int .i64 r.1, .sl 0 0], [.arr 3 0 (.I .i64 r.2) false])
def spec_l13OwnMatrix.dec : List AV → List R.Obj → Option (Int × (List Int))
  | [.agg [.int .i64 a0_0, .imm (.I .i64 l0_1)]], [] => some (a0_0, l0_1)
  | _, _ => none
def spec_l13OwnMatrix.tw : Tw := ⟨190, Int × (List Int), Int × (List Int), spec_l13OwnMatrix.dec, fun a => [.agg [.int .i64 a.1, .imm (.I .i64 a.2)]], fun a => [], fun k a => spec_l13OwnMatrix.f a.1 a.2, fun a r => spec_l13OwnMatrix.en r⟩
theorem spec_l13OwnMatrix.dok : spec_l13OwnMatrix.tw.DecOk := by
  intro args hc a h
  have h : spec_l13OwnMatrix.dec args hc = some a := h
  unfold spec_l13OwnMatrix.dec at h
  split at h
  · cases h; exact ⟨rfl, rfl⟩
  · cases h
noncomputable def spec_l13OwnMatrix.O (k : Nat) : Oracle := noO
def spec_l13OwnMatrix.fh : FH := ⟨fun i => match i with | _ => none, [(true, 3)], false⟩
set_option maxRecDepth 100000 in
theorem spec_l13OwnMatrix.ef (k : Nat) (a0_0 : Int) (l0_1 : List Int) : R.start Try.prog xhn spec_l13OwnMatrix.O 0 Try.f190 spec_l13OwnMatrix.fh k [.agg [.int .i64 a0_0, .imm (.I .i64 l0_1)]] [] = (if ([] : List Int).length + l0_1.length ≤ 17592186044416 then (some (spec_l13OwnMatrix.en (a0_0, (([] : List Int) ++ l0_1)))) else none) := by kernel_rfl
theorem spec_l13OwnMatrix.sf (k : Nat) (a0_0 : Int) (l0_1 : List Int) : R.start Try.prog xhn spec_l13OwnMatrix.O 0 Try.f190 spec_l13OwnMatrix.fh k [.agg [.int .i64 a0_0, .imm (.I .i64 l0_1)]] [] = (spec_l13OwnMatrix.f a0_0 l0_1).map (spec_l13OwnMatrix.en) := by
  rw [spec_l13OwnMatrix.ef]
  simp only [spec_l13OwnMatrix.f, R.map_ite, R.map_bind, R.map_none, R.map_some]
theorem spec_l13OwnMatrix.ok (k : Nat) : spec_l13OwnMatrix.tw.Ok Try.prog k := by
  intro a r h
  refine fn_ok (H := xhn) (fh := spec_l13OwnMatrix.fh) (O := spec_l13OwnMatrix.O) (k := k) Try.func190 (by kernel_rfl) (by kernel_rfl) (fun j _ => noO_sound) (by kernel_rfl) (m := 0) rfl ?_
  refine (spec_l13OwnMatrix.sf k a.1 a.2).trans ?_
  exact congrArg (Option.map _) h
def spec_l13OwnElement.f (a0_0 : Int) (l0_1 : List Int) (a0_2 : ByteArray) : Option (Int × (List Int) × ByteArray) := ((spec_l13OwnMatrix.f a0_0 l0_1).bind fun t1 => (some (t1.1, t1.2, a0_2)))
def spec_l13OwnElement.en (r : Int × (List Int) × ByteArray) : Res := (.agg [.int .i64 r.1, .sl 0 0, .str r.2.2], [.arr 3 0 (.I .i64 r.2.1) false])
def spec_l13OwnElement.dec : List AV → List R.Obj → Option (Int × (List Int) × ByteArray)
  | [.agg [.int .i64 a0_0, .imm (.I .i64 l0_1), .str a0_2]], [] => some (a0_0, l0_1, a0_2)
  | _, _ => none
def spec_l13OwnElement.tw : Tw := ⟨169, Int × (List Int) × ByteArray, Int × (List Int) × ByteArray, spec_l13OwnElement.dec, fun a => [.agg [.int .i64 a.1, .imm (.I .i64 a.2.1), .str a.2.2]], fun a => [], fun k a => spec_l13OwnElement.f a.1 a.2.1 a.2.2, fun a r => spec_l13OwnElement.en r⟩
theorem spec_l13OwnElement.dok : spec_l13OwnElement.tw.DecOk := by
  intro args hc a h
  have h : spec_l13OwnElement.dec args hc = some a := h
  unfold spec_l13OwnElement.dec at h
  split at h
  · cases h; exact ⟨rfl, rfl⟩
  · cases h
noncomputable def spec_l13OwnElement.O (k : Nat) : Oracle := (spec_l13OwnMatrix.tw.orc k noO)
def spec_l13OwnElement.fh : FH := ⟨fun i => match i with | _ => none, [(true, 3)], false⟩
set_option maxRecDepth 100000 in
theorem spec_l13OwnElement.ef (k : Nat) (a0_0 : Int) (l0_1 : List Int) (a0_2 : ByteArray) : R.start Try.prog xhn spec_l13OwnElement.O 0 Try.f169 spec_l13OwnElement.fh k [.agg [.int .i64 a0_0, .imm (.I .i64 l0_1), .str a0_2]] [] = ((spec_l13OwnMatrix.f a0_0 l0_1).bind fun t1 => (some (spec_l13OwnElement.en (t1.1, t1.2, a0_2)))) := by kernel_rfl
theorem spec_l13OwnElement.sf (k : Nat) (a0_0 : Int) (l0_1 : List Int) (a0_2 : ByteArray) : R.start Try.prog xhn spec_l13OwnElement.O 0 Try.f169 spec_l13OwnElement.fh k [.agg [.int .i64 a0_0, .imm (.I .i64 l0_1), .str a0_2]] [] = (spec_l13OwnElement.f a0_0 l0_1 a0_2).map (spec_l13OwnElement.en) := by
  rw [spec_l13OwnElement.ef]
  simp only [spec_l13OwnElement.f, R.map_ite, R.map_bind, R.map_none, R.map_some]
theorem spec_l13OwnElement.ok (k : Nat) : spec_l13OwnElement.tw.Ok Try.prog k := by
  intro a r h
  refine fn_ok (H := xhn) (fh := spec_l13OwnElement.fh) (O := spec_l13OwnElement.O) (k := k) Try.func169 (by kernel_rfl) (by kernel_rfl) (fun j _ => (Tw.orc_sound spec_l13OwnMatrix.dok (spec_l13OwnMatrix.ok j) noO_sound)) (by kernel_rfl) (m := 0) rfl ?_
  refine (spec_l13OwnElement.sf k a.1 a.2.1 a.2.2).trans ?_
  exact congrArg (Option.map _) h
def spec_l13OwnListElement.l0 : Nat → (List Elm) → (List Elm) → Int → Int → Option (List Elm)
  | 0, _, _, _, _ => none
  | k + 1, y0, x7, x8, x9 => (if x9 < x8 then (if 0 ≤ x9 then (if x9 < (x7.length : Int) then ((spec_l13OwnElement.f ((rdE x7 x9).f0) ((rdE x7 x9).f1) ((rdE x7 x9).f2)).bind fun t1 => (if y0.length < 2932031007402 then (spec_l13OwnListElement.l0 k (y0 ++ [(⟨t1.1, t1.2.1, t1.2.2⟩ : Elm)]) x7 x8 (wrap64 (x9 + 1))) else none)) else none) else none) else (some y0))
def spec_l13OwnListElement.f (k : Nat) (l0 : List Elm) : Option (List Elm) := (spec_l13OwnListElement.l0 k ([] : List Elm) l0 (l0.length : Int) 0)
def spec_l13OwnListElement.en (r : List Elm) : Res := (.sl 0 0, [.arr 82 0 (.E r) false])
def spec_l13OwnListElement.dec : List AV → List R.Obj → Option (List Elm)
  | [.imm (.E l0)], [] => some l0
  | _, _ => none
def spec_l13OwnListElement.tw : Tw := ⟨122, List Elm, List Elm, spec_l13OwnListElement.dec, fun a => [.imm (.E a)], fun a => [], fun k a => spec_l13OwnListElement.f k a, fun a r => spec_l13OwnListElement.en r⟩
theorem spec_l13OwnListElement.dok : spec_l13OwnListElement.tw.DecOk := by
  intro args hc a h
  have h : spec_l13OwnListElement.dec args hc = some a := h
  unfold spec_l13OwnListElement.dec at h
  split at h
  · cases h; exact ⟨rfl, rfl⟩
  · cases h
noncomputable def spec_l13OwnListElement.O (k : Nat) : Oracle := (spec_l13OwnElement.tw.orc k noO)
def spec_l13OwnListElement.fh : FH := ⟨fun i => match i with | 3 => some [(3, 0), (7, 0), (8, 0), (9, 0)] | _ => none, [(true, 82)], false⟩
noncomputable def spec_l13OwnListElement.x0 (k : Nat) (y0 : List Elm) (x7 : List Elm) (x8 : Int) (x9 : Int) : Option Res := R.exec Try.prog xhn spec_l13OwnListElement.O 0 Try.f122 spec_l13OwnListElement.fh k (R.point Try.f122 3) ⟨[(3, .sl 0 0), (7, .imm (.E x7)), (8, .int .i64 x8), (9, .int .i64 x9)], [(0, .arr 82 0 (.E y0) false)], 3⟩
set_option maxRecDepth 100000 in
theorem spec_l13OwnListElement.e0 (k : Nat) (y0 : List Elm) (x7 : List Elm) (x8 : Int) (x9 : Int) : spec_l13OwnListElement.x0 (k + 1) y0 x7 x8 x9 = (if x9 < x8 then (if 0 ≤ x9 then (if x9 < (x7.length : Int) then ((spec_l13OwnElement.f ((rdE x7 x9).f0) ((rdE x7 x9).f1) ((rdE x7 x9).f2)).bind fun t1 => (if y0.length < 2932031007402 then (spec_l13OwnListElement.x0 k (y0 ++ [(⟨t1.1, t1.2.1, t1.2.2⟩ : Elm)]) x7 x8 (wrap64 (x9 + 1))) else none)) else none) else none) else (some (spec_l13OwnListElement.en y0))) := by kernel_rfl
set_option maxRecDepth 100000 in
theorem spec_l13OwnListElement.ef (k : Nat) (l0 : List Elm) : R.start Try.prog xhn spec_l13OwnListElement.O 0 Try.f122 spec_l13OwnListElement.fh k [.imm (.E l0)] [] = (spec_l13OwnListElement.x0 k ([] : List Elm) l0 (l0.length : Int) 0) := by kernel_rfl
theorem spec_l13OwnListElement.link : ∀ k, (∀ (y0 : List Elm) (x7 : List Elm) (x8 : Int) (x9 : Int), spec_l13OwnListElement.x0 k y0 x7 x8 x9 = (spec_l13OwnListElement.l0 k y0 x7 x8 x9).map (spec_l13OwnListElement.en))
  | 0 => fun _ _ _ _ => by simp only [spec_l13OwnListElement.l0, R.map_none]; rfl
  | k + 1 => by
    have ih0 := spec_l13OwnListElement.link k
    · intro y0 x7 x8 x9
      rw [spec_l13OwnListElement.e0]
      simp only [spec_l13OwnListElement.l0, R.map_ite, R.map_bind, R.map_none, R.map_some, ← ih0]
theorem spec_l13OwnListElement.sf (k : Nat) (l0 : List Elm) : R.start Try.prog xhn spec_l13OwnListElement.O 0 Try.f122 spec_l13OwnListElement.fh k [.imm (.E l0)] [] = (spec_l13OwnListElement.f k l0).map (spec_l13OwnListElement.en) := by
  have ih0 := spec_l13OwnListElement.link k
  rw [spec_l13OwnListElement.ef]
  simp only [spec_l13OwnListElement.f, R.map_ite, R.map_bind, R.map_none, R.map_some, ← ih0]
theorem spec_l13OwnListElement.ok (k : Nat) : spec_l13OwnListElement.tw.Ok Try.prog k := by
  intro a r h
  refine fn_ok (H := xhn) (fh := spec_l13OwnListElement.fh) (O := spec_l13OwnListElement.O) (k := k) Try.func122 (by kernel_rfl) (by kernel_rfl) (fun j _ => (Tw.orc_sound spec_l13OwnElement.dok (spec_l13OwnElement.ok j) noO_sound)) (by kernel_rfl) (m := 0) rfl ?_
  refine (spec_l13OwnListElement.sf k a).trans ?_
  exact congrArg (Option.map _) h
def spec_ElementsOf.f (k : Nat) (a0_0 : Int) (l0_1 : List Int) (l0_2 : List Int) (l0_3 : List Stp) : Option ((List Elm) × Bool) := ((spec_l8RawElementsOf.f k a0_0 l0_1 l0_2 l0_3).bind fun t1 => ((spec_l13OwnListElement.f k t1.1).bind fun t2 => (some (t2, t1.2))))
def spec_ElementsOf.en (r : (List Elm) × Bool) : Res := (.tup [.sl 0 0, .lit r.2], [.arr 82 0 (.E r.1) false])
def spec_ElementsOf.dec : List AV → List R.Obj → Option (Int × (List Int) × (List Int) × (List Stp))
  | [.agg [.int .i64 a0_0, .imm (.I .i64 l0_1), .imm (.I .i64 l0_2), .imm (.T l0_3)]], [] => some (a0_0, l0_1, l0_2, l0_3)
  | _, _ => none
def spec_ElementsOf.tw : Tw := ⟨64, Int × (List Int) × (List Int) × (List Stp), (List Elm) × Bool, spec_ElementsOf.dec, fun a => [.agg [.int .i64 a.1, .imm (.I .i64 a.2.1), .imm (.I .i64 a.2.2.1), .imm (.T a.2.2.2)]], fun a => [], fun k a => spec_ElementsOf.f k a.1 a.2.1 a.2.2.1 a.2.2.2, fun a r => spec_ElementsOf.en r⟩
theorem spec_ElementsOf.dok : spec_ElementsOf.tw.DecOk := by
  intro args hc a h
  have h : spec_ElementsOf.dec args hc = some a := h
  unfold spec_ElementsOf.dec at h
  split at h
  · cases h; exact ⟨rfl, rfl⟩
  · cases h
noncomputable def spec_ElementsOf.O (k : Nat) : Oracle := (spec_l8RawElementsOf.tw.orc k (spec_l13OwnListElement.tw.orc k noO))
def spec_ElementsOf.fh : FH := ⟨fun i => match i with | _ => none, [(true, 82)], false⟩
set_option maxRecDepth 100000 in
theorem spec_ElementsOf.ef (k : Nat) (a0_0 : Int) (l0_1 : List Int) (l0_2 : List Int) (l0_3 : List Stp) : R.start Try.prog xhn spec_ElementsOf.O 0 Try.f64 spec_ElementsOf.fh k [.agg [.int .i64 a0_0, .imm (.I .i64 l0_1), .imm (.I .i64 l0_2), .imm (.T l0_3)]] [] = ((spec_l8RawElementsOf.f k a0_0 l0_1 l0_2 l0_3).bind fun t1 => ((spec_l13OwnListElement.f k t1.1).bind fun t2 => (some (spec_ElementsOf.en (t2, t1.2))))) := by kernel_rfl
theorem spec_ElementsOf.sf (k : Nat) (a0_0 : Int) (l0_1 : List Int) (l0_2 : List Int) (l0_3 : List Stp) : R.start Try.prog xhn spec_ElementsOf.O 0 Try.f64 spec_ElementsOf.fh k [.agg [.int .i64 a0_0, .imm (.I .i64 l0_1), .imm (.I .i64 l0_2), .imm (.T l0_3)]] [] = (spec_ElementsOf.f k a0_0 l0_1 l0_2 l0_3).map (spec_ElementsOf.en) := by
  rw [spec_ElementsOf.ef]
  simp only [spec_ElementsOf.f, R.map_ite, R.map_bind, R.map_none, R.map_some]
theorem spec_ElementsOf.ok (k : Nat) : spec_ElementsOf.tw.Ok Try.prog k := by
  intro a r h
  refine fn_ok (H := xhn) (fh := spec_ElementsOf.fh) (O := spec_ElementsOf.O) (k := k) Try.func64 (by kernel_rfl) (by kernel_rfl) (fun j _ => (Tw.orc_sound spec_l8RawElementsOf.dok (spec_l8RawElementsOf.ok j) (Tw.orc_sound spec_l13OwnListElement.dok (spec_l13OwnListElement.ok j) noO_sound))) (by kernel_rfl) (m := 0) rfl ?_
  refine (spec_ElementsOf.sf k a.1 a.2.1 a.2.2.1 a.2.2.2).trans ?_
  exact congrArg (Option.map _) h
def spec_SameMatrix.f (k : Nat) (a0_0 : Int) (l0_1 : List Int) (a1_0 : Int) (l1_1 : List Int) : Option (Bool) := (if a0_0 = a1_0 then ((spec_l2Same.f k l0_1 l1_1).bind fun t1 => (some t1)) else (some false))
def spec_SameMatrix.en (r : Bool) : Res := (.lit r, [])
def spec_SameMatrix.dec : List AV → List R.Obj → Option (Int × (List Int) × Int × (List Int))
  | [.agg [.int .i64 a0_0, .imm (.I .i64 l0_1)], .agg [.int .i64 a1_0, .imm (.I .i64 l1_1)]], [] => some (a0_0, l0_1, a1_0, l1_1)
  | _, _ => none
def spec_SameMatrix.tw : Tw := ⟨115, Int × (List Int) × Int × (List Int), Bool, spec_SameMatrix.dec, fun a => [.agg [.int .i64 a.1, .imm (.I .i64 a.2.1)], .agg [.int .i64 a.2.2.1, .imm (.I .i64 a.2.2.2)]], fun a => [], fun k a => spec_SameMatrix.f k a.1 a.2.1 a.2.2.1 a.2.2.2, fun a r => spec_SameMatrix.en r⟩
theorem spec_SameMatrix.dok : spec_SameMatrix.tw.DecOk := by
  intro args hc a h
  have h : spec_SameMatrix.dec args hc = some a := h
  unfold spec_SameMatrix.dec at h
  split at h
  · cases h; exact ⟨rfl, rfl⟩
  · cases h
noncomputable def spec_SameMatrix.O (k : Nat) : Oracle := (spec_l2Same.tw.orc k noO)
def spec_SameMatrix.fh : FH := ⟨fun i => match i with | _ => none, [], false⟩
set_option maxRecDepth 100000 in
theorem spec_SameMatrix.ef (k : Nat) (a0_0 : Int) (l0_1 : List Int) (a1_0 : Int) (l1_1 : List Int) : R.start Try.prog xhn spec_SameMatrix.O 0 Try.f115 spec_SameMatrix.fh k [.agg [.int .i64 a0_0, .imm (.I .i64 l0_1)], .agg [.int .i64 a1_0, .imm (.I .i64 l1_1)]] [] = (if a0_0 = a1_0 then ((spec_l2Same.f k l0_1 l1_1).bind fun t1 => (some (spec_SameMatrix.en t1))) else (some (spec_SameMatrix.en false))) := by kernel_rfl
theorem spec_SameMatrix.sf (k : Nat) (a0_0 : Int) (l0_1 : List Int) (a1_0 : Int) (l1_1 : List Int) : R.start Try.prog xhn spec_SameMatrix.O 0 Try.f115 spec_SameMatrix.fh k [.agg [.int .i64 a0_0, .imm (.I .i64 l0_1)], .agg [.int .i64 a1_0, .imm (.I .i64 l1_1)]] [] = (spec_SameMatrix.f k a0_0 l0_1 a1_0 l1_1).map (spec_SameMatrix.en) := by
  rw [spec_SameMatrix.ef]
  simp only [spec_SameMatrix.f, R.map_ite, R.map_bind, R.map_none, R.map_some]
theorem spec_SameMatrix.ok (k : Nat) : spec_SameMatrix.tw.Ok Try.prog k := by
  intro a r h
  refine fn_ok (H := xhn) (fh := spec_SameMatrix.fh) (O := spec_SameMatrix.O) (k := k) Try.func115 (by kernel_rfl) (by kernel_rfl) (fun j _ => (Tw.orc_sound spec_l2Same.dok (spec_l2Same.ok j) noO_sound)) (by kernel_rfl) (m := 0) rfl ?_
  refine (spec_SameMatrix.sf k a.1 a.2.1 a.2.2.1 a.2.2.2).trans ?_
  exact congrArg (Option.map _) h
def spec_ExpressionFor.l0 : Nat → (List Elm) → Int → Int → Int → (List Int) → Option (ByteArray × Bool)
  | 0, _, _, _, _, _ => none
  | k + 1, y1, x16, x17, y0_0, y0_1 => (if x17 < x16 then (if 0 ≤ x17 then (if x17 < (y1.length : Int) then ((spec_SameMatrix.f k ((rdE y1 x17).f0) ((rdE y1 x17).f1) y0_0 y0_1).bind fun t2 => (if t2 = true then (some ((rdE y1 x17).f2, true)) else (spec_ExpressionFor.l0 k y1 x16 (wrap64 (x17 + 1)) y0_0 y0_1))) else none) else none) else (some ((⟨#[]⟩ : ByteArray), false)))
def spec_ExpressionFor.f (k : Nat) (a0_0 : Int) (l0_1 : List Int) (l0_2 : List Int) (l0_3 : List Stp) (a1_0 : Int) (l1_1 : List Int) : Option (ByteArray × Bool) := ((spec_ElementsOf.f k a0_0 l0_1 l0_2 l0_3).bind fun t1 => (spec_ExpressionFor.l0 k t1.1 (t1.1.length : Int) 0 a1_0 l1_1))
def spec_ExpressionFor.en (r : ByteArray × Bool) : Res := (.tup [.str r.1, .lit r.2], [])
def spec_ExpressionFor.dec : List AV → List R.Obj → Option (Int × (List Int) × (List Int) × (List Stp) × Int × (List Int))
  | [.agg [.int .i64 a0_0, .imm (.I .i64 l0_1), .imm (.I .i64 l0_2), .imm (.T l0_3)], .agg [.int .i64 a1_0, .imm (.I .i64 l1_1)]], [] => some (a0_0, l0_1, l0_2, l0_3, a1_0, l1_1)
  | _, _ => none
def spec_ExpressionFor.tw : Tw := ⟨48, Int × (List Int) × (List Int) × (List Stp) × Int × (List Int), ByteArray × Bool, spec_ExpressionFor.dec, fun a => [.agg [.int .i64 a.1, .imm (.I .i64 a.2.1), .imm (.I .i64 a.2.2.1), .imm (.T a.2.2.2.1)], .agg [.int .i64 a.2.2.2.2.1, .imm (.I .i64 a.2.2.2.2.2)]], fun a => [], fun k a => spec_ExpressionFor.f k a.1 a.2.1 a.2.2.1 a.2.2.2.1 a.2.2.2.2.1 a.2.2.2.2.2, fun a r => spec_ExpressionFor.en r⟩
theorem spec_ExpressionFor.dok : spec_ExpressionFor.tw.DecOk := by
  intro args hc a h
  have h : spec_ExpressionFor.dec args hc = some a := h
  unfold spec_ExpressionFor.dec at h
  split at h
  · cases h; exact ⟨rfl, rfl⟩
  · cases h
noncomputable def spec_ExpressionFor.O (k : Nat) : Oracle := (spec_ElementsOf.tw.orc k (spec_SameMatrix.tw.orc k noO))
def spec_ExpressionFor.fh : FH := ⟨fun i => match i with | 3 => some [(3, 0), (15, 0), (16, 0), (17, 0)] | _ => none, [], false⟩
noncomputable def spec_ExpressionFor.x0 (k : Nat) (y1 : List Elm) (x16 : Int) (x17 : Int) (y0_0 : Int) (y0_1 : List Int) : Option Res := R.exec Try.prog xhn spec_ExpressionFor.O 0 Try.f48 spec_ExpressionFor.fh k (R.point Try.f48 3) ⟨[(3, .ptr 0 0), (15, .sl 1 0), (16, .int .i64 x16), (17, .int .i64 x17)], [(0, .box false [.int .i64 y0_0, .imm (.I .i64 y0_1)]), (1, .arr 82 0 (.E y1) false)], 4⟩
set_option maxRecDepth 100000 in
theorem spec_ExpressionFor.e0 (k : Nat) (y1 : List Elm) (x16 : Int) (x17 : Int) (y0_0 : Int) (y0_1 : List Int) : spec_ExpressionFor.x0 (k + 1) y1 x16 x17 y0_0 y0_1 = (if x17 < x16 then (if 0 ≤ x17 then (if x17 < (y1.length : Int) then ((spec_SameMatrix.f k ((rdE y1 x17).f0) ((rdE y1 x17).f1) y0_0 y0_1).bind fun t2 => (if t2 = true then (some (spec_ExpressionFor.en ((rdE y1 x17).f2, true))) else (spec_ExpressionFor.x0 k y1 x16 (wrap64 (x17 + 1)) y0_0 y0_1))) else none) else none) else (some (spec_ExpressionFor.en ((⟨#[]⟩ : ByteArray), false)))) := by kernel_rfl
set_option maxRecDepth 100000 in
theorem spec_ExpressionFor.ef (k : Nat) (a0_0 : Int) (l0_1 : List Int) (l0_2 : List Int) (l0_3 : List Stp) (a1_0 : Int) (l1_1 : List Int) : R.start Try.prog xhn spec_ExpressionFor.O 0 Try.f48 spec_ExpressionFor.fh k [.agg [.int .i64 a0_0, .imm (.I .i64 l0_1), .imm (.I .i64 l0_2), .imm (.T l0_3)], .agg [.int .i64 a1_0, .imm (.I .i64 l1_1)]] [] = ((spec_ElementsOf.f k a0_0 l0_1 l0_2 l0_3).bind fun t1 => (spec_ExpressionFor.x0 k t1.1 (t1.1.length : Int) 0 a1_0 l1_1)) := by kernel_rfl
theorem spec_ExpressionFor.link : ∀ k, (∀ (y1 : List Elm) (x16 : Int) (x17 : Int) (y0_0 : Int) (y0_1 : List Int), spec_ExpressionFor.x0 k y1 x16 x17 y0_0 y0_1 = (spec_ExpressionFor.l0 k y1 x16 x17 y0_0 y0_1).map (spec_ExpressionFor.en))
  | 0 => fun _ _ _ _ _ => by simp only [spec_ExpressionFor.l0, R.map_none]; rfl
  | k + 1 => by
    have ih0 := spec_ExpressionFor.link k
    · intro y1 x16 x17 y0_0 y0_1
      rw [spec_ExpressionFor.e0]
      simp only [spec_ExpressionFor.l0, R.map_ite, R.map_bind, R.map_none, R.map_some, ← ih0]
theorem spec_ExpressionFor.sf (k : Nat) (a0_0 : Int) (l0_1 : List Int) (l0_2 : List Int) (l0_3 : List Stp) (a1_0 : Int) (l1_1 : List Int) : R.start Try.prog xhn spec_ExpressionFor.O 0 Try.f48 spec_ExpressionFor.fh k [.agg [.int .i64 a0_0, .imm (.I .i64 l0_1), .imm (.I .i64 l0_2), .imm (.T l0_3)], .agg [.int .i64 a1_0, .imm (.I .i64 l1_1)]] [] = (spec_ExpressionFor.f k a0_0 l0_1 l0_2 l0_3 a1_0 l1_1).map (spec_ExpressionFor.en) := by
  have ih0 := spec_ExpressionFor.link k
  rw [spec_ExpressionFor.ef]
  simp only [spec_ExpressionFor.f, R.map_ite, R.map_bind, R.map_none, R.map_some, ← ih0]
theorem spec_ExpressionFor.ok (k : Nat) : spec_ExpressionFor.tw.Ok Try.prog k := by
  intro a r h
  refine fn_ok (H := xhn) (fh := spec_ExpressionFor.fh) (O := spec_ExpressionFor.O) (k := k) Try.func48 (by kernel_rfl) (by kernel_rfl) (fun j _ => (Tw.orc_sound spec_ElementsOf.dok (spec_ElementsOf.ok j) (Tw.orc_sound spec_SameMatrix.dok (spec_SameMatrix.ok j) noO_sound))) (by kernel_rfl) (m := 0) rfl ?_
  refine (spec_ExpressionFor.sf k a.1 a.2.1 a.2.2.1 a.2.2.2.1 a.2.2.2.2.1 a.2.2.2.2.2).trans ?_
  exact congrArg (Option.map _) h
def impl_statesOk.l0 : Nat → (List Int) → Int → (List Int) → Int → Int → Option (Bool)
  | 0, _, _, _, _, _ => none
  | k + 1, x0, x1, x7, x8, x9 => (if x9 < x8 then (if 0 ≤ x9 then (if x9 < (x7.length : Int) then (if (rdI x7 x9) < 0 then (some false) else (if (rdI x7 x9) ≥ x1 then (some false) else (if x9 > 0 then (if 0 ≤ (wrap64 (x9 - 1)) then (if (wrap64 (x9 - 1)) < (x0.length : Int) then (if (rdI x0 (wrap64 (x9 - 1))) ≥ (rdI x7 x9) then (some false) else (impl_statesOk.l0 k x0 x1 x7 x8 (wrap64 (x9 + 1)))) else none) else none) else (impl_statesOk.l0 k x0 x1 x7 x8 (wrap64 (x9 + 1)))))) else none) else none) else (some true))
def impl_statesOk.f (k : Nat) (l0 : List Int) (a1 : Int) : Option (Bool) := (impl_statesOk.l0 k l0 a1 l0 (l0.length : Int) 0)
def impl_statesOk.en (r : Bool) : Res := (.lit r, [])
def impl_statesOk.dec : List AV → List R.Obj → Option ((List Int) × Int)
  | [.imm (.I .i64 l0), .int .i64 a1], [] => some (l0, a1)
  | _, _ => none
def impl_statesOk.tw : Tw := ⟨151, (List Int) × Int, Bool, impl_statesOk.dec, fun a => [.imm (.I .i64 a.1), .int .i64 a.2], fun a => [], fun k a => impl_statesOk.f k a.1 a.2, fun a r => impl_statesOk.en r⟩
theorem impl_statesOk.dok : impl_statesOk.tw.DecOk := by
  intro args hc a h
  have h : impl_statesOk.dec args hc = some a := h
  unfold impl_statesOk.dec at h
  split at h
  · cases h; exact ⟨rfl, rfl⟩
  · cases h
noncomputable def impl_statesOk.O (k : Nat) : Oracle := noO
def impl_statesOk.fh : FH := ⟨fun i => match i with | 2 => some [(0, 0), (1, 0), (7, 0), (8, 0), (9, 0)] | _ => none, [], false⟩
noncomputable def impl_statesOk.x0 (k : Nat) (x0 : List Int) (x1 : Int) (x7 : List Int) (x8 : Int) (x9 : Int) : Option Res := R.exec Try.prog xhn impl_statesOk.O 0 Try.f151 impl_statesOk.fh k (R.point Try.f151 2) ⟨[(0, .imm (.I .i64 x0)), (1, .int .i64 x1), (7, .imm (.I .i64 x7)), (8, .int .i64 x8), (9, .int .i64 x9)], [], 2⟩
set_option maxRecDepth 100000 in
theorem impl_statesOk.e0 (k : Nat) (x0 : List Int) (x1 : Int) (x7 : List Int) (x8 : Int) (x9 : Int) : impl_statesOk.x0 (k + 1) x0 x1 x7 x8 x9 = (if x9 < x8 then (if 0 ≤ x9 then (if x9 < (x7.length : Int) then (if (rdI x7 x9) < 0 then (some (impl_statesOk.en false)) else (if (rdI x7 x9) ≥ x1 then (some (impl_statesOk.en false)) else (if x9 > 0 then (if 0 ≤ (wrap64 (x9 - 1)) then (if (wrap64 (x9 - 1)) < (x0.length : Int) then (if (rdI x0 (wrap64 (x9 - 1))) ≥ (rdI x7 x9) then (some (impl_statesOk.en false)) else (impl_statesOk.x0 k x0 x1 x7 x8 (wrap64 (x9 + 1)))) else none) else none) else (impl_statesOk.x0 k x0 x1 x7 x8 (wrap64 (x9 + 1)))))) else none) else none) else (some (impl_statesOk.en true))) := by kernel_rfl
set_option maxRecDepth 100000 in
theorem impl_statesOk.ef (k : Nat) (l0 : List Int) (a1 : Int) : R.start Try.prog xhn impl_statesOk.O 0 Try.f151 impl_statesOk.fh k [.imm (.I .i64 l0), .int .i64 a1] [] = (impl_statesOk.x0 k l0 a1 l0 (l0.length : Int) 0) := by kernel_rfl
theorem impl_statesOk.link : ∀ k, (∀ (x0 : List Int) (x1 : Int) (x7 : List Int) (x8 : Int) (x9 : Int), impl_statesOk.x0 k x0 x1 x7 x8 x9 = (impl_statesOk.l0 k x0 x1 x7 x8 x9).map (impl_statesOk.en))
  | 0 => fun _ _ _ _ _ => by simp only [impl_statesOk.l0, R.map_none]; rfl
  | k + 1 => by
    have ih0 := impl_statesOk.link k
    · intro x0 x1 x7 x8 x9
      rw [impl_statesOk.e0]
      simp only [impl_statesOk.l0, R.map_ite, R.map_bind, R.map_none, R.map_some, ← ih0]
theorem impl_statesOk.sf (k : Nat) (l0 : List Int) (a1 : Int) : R.start Try.prog xhn impl_statesOk.O 0 Try.f151 impl_statesOk.fh k [.imm (.I .i64 l0), .int .i64 a1] [] = (impl_statesOk.f k l0 a1).map (impl_statesOk.en) := by
  have ih0 := impl_statesOk.link k
  rw [impl_statesOk.ef]
  simp only [impl_statesOk.f, R.map_ite, R.map_bind, R.map_none, R.map_some, ← ih0]
theorem impl_statesOk.ok (k : Nat) : impl_statesOk.tw.Ok Try.prog k := by
  intro a r h
  refine fn_ok (H := xhn) (fh := impl_statesOk.fh) (O := impl_statesOk.O) (k := k) Try.func151 (by kernel_rfl) (by kernel_rfl) (fun j _ => noO_sound) (by kernel_rfl) (m := 0) rfl ?_
  refine (impl_statesOk.sf k a.1 a.2).trans ?_
  exact congrArg (Option.map _) h
def cmp_isNaN_int.f (a0 : Int) : Option (Bool) := (some (!decide (a0 = a0)))
def cmp_isNaN_int.en (r : Bool) : Res := (.lit r, [])
def cmp_isNaN_int.dec : List AV → List R.Obj → Option (Int)
  | [.int .i64 a0], [] => some a0
  | _, _ => none
def cmp_isNaN_int.tw : Tw := ⟨196, Int, Bool, cmp_isNaN_int.dec, fun a => [.int .i64 a], fun a => [], fun k a => cmp_isNaN_int.f a, fun a r => cmp_isNaN_int.en r⟩
theorem cmp_isNaN_int.dok : cmp_isNaN_int.tw.DecOk := by
  intro args hc a h
  have h : cmp_isNaN_int.dec args hc = some a := h
  unfold cmp_isNaN_int.dec at h
  split at h
  · cases h; exact ⟨rfl, rfl⟩
  · cases h
noncomputable def cmp_isNaN_int.O (k : Nat) : Oracle := noO
def cmp_isNaN_int.fh : FH := ⟨fun i => match i with | _ => none, [], false⟩
set_option maxRecDepth 100000 in
theorem cmp_isNaN_int.ef (k : Nat) (a0 : Int) : R.start Try.prog xhn cmp_isNaN_int.O 0 Try.f196 cmp_isNaN_int.fh k [.int .i64 a0] [] = (some (cmp_isNaN_int.en (!decide (a0 = a0)))) := by kernel_rfl
theorem cmp_isNaN_int.sf (k : Nat) (a0 : Int) : R.start Try.prog xhn cmp_isNaN_int.O 0 Try.f196 cmp_isNaN_int.fh k [.int .i64 a0] [] = (cmp_isNaN_int.f a0).map (cmp_isNaN_int.en) := by
  rw [cmp_isNaN_int.ef]
  simp only [cmp_isNaN_int.f, R.map_ite, R.map_bind, R.map_none, R.map_some]
theorem cmp_isNaN_int.ok (k : Nat) : cmp_isNaN_int.tw.Ok Try.prog k := by
  intro a r h
  refine fn_ok (H := xhn) (fh := cmp_isNaN_int.fh) (O := cmp_isNaN_int.O) (k := k) Try.func196 (by kernel_rfl) (by kernel_rfl) (fun j _ => noO_sound) (by kernel_rfl) (m := 0) rfl ?_
  refine (cmp_isNaN_int.sf k a).trans ?_
  exact congrArg (Option.map _) h
def cmp_Compare_int.f (a0 : Int) (a1 : Int) : Option (Int) := ((cmp_isNaN_int.f a0).bind fun t1 => ((cmp_isNaN_int.f a1).bind fun t2 => (if t1 = true then (if t2 = true then (some 0) else (some (-1))) else (if t2 = true then (some 1) else (if a0 < a1 then (some (-1)) else (if a0 > a1 then (some 1) else (some 0)))))))
def cmp_Compare_int.en (r : Int) : Res := (.int .i64 r, [])
def cmp_Compare_int.dec : List AV → List R.Obj → Option (Int × Int)
  | [.int .i64 a0, .int .i64 a1], [] => some (a0, a1)
  | _, _ => none
def cmp_Compare_int.tw : Tw := ⟨180, Int × Int, Int, cmp_Compare_int.dec, fun a => [.int .i64 a.1, .int .i64 a.2], fun a => [], fun k a => cmp_Compare_int.f a.1 a.2, fun a r => cmp_Compare_int.en r⟩
theorem cmp_Compare_int.dok : cmp_Compare_int.tw.DecOk := by
  intro args hc a h
  have h : cmp_Compare_int.dec args hc = some a := h
  unfold cmp_Compare_int.dec at h
  split at h
  · cases h; exact ⟨rfl, rfl⟩
  · cases h
noncomputable def cmp_Compare_int.O (k : Nat) : Oracle := (cmp_isNaN_int.tw.orc k noO)
def cmp_Compare_int.fh : FH := ⟨fun i => match i with | _ => none, [], false⟩
set_option maxRecDepth 100000 in
theorem cmp_Compare_int.ef (k : Nat) (a0 : Int) (a1 : Int) : R.start Try.prog xhn cmp_Compare_int.O 0 Try.f180 cmp_Compare_int.fh k [.int .i64 a0, .int .i64 a1] [] = ((cmp_isNaN_int.f a0).bind fun t1 => ((cmp_isNaN_int.f a1).bind fun t2 => (if t1 = true then (if t2 = true then (some (cmp_Compare_int.en 0)) else (some (cmp_Compare_int.en (-1)))) else (if t2 = true then (some (cmp_Compare_int.en 1)) else (if a0 < a1 then (some (cmp_Compare_int.en (-1))) else (if a0 > a1 then (some (cmp_Compare_int.en 1)) else (some (cmp_Compare_int.en 0)))))))) := by kernel_rfl
theorem cmp_Compare_int.sf (k : Nat) (a0 : Int) (a1 : Int) : R.start Try.prog xhn cmp_Compare_int.O 0 Try.f180 cmp_Compare_int.fh k [.int .i64 a0, .int .i64 a1] [] = (cmp_Compare_int.f a0 a1).map (cmp_Compare_int.en) := by
  rw [cmp_Compare_int.ef]
  simp only [cmp_Compare_int.f, R.map_ite, R.map_bind, R.map_none, R.map_some]
theorem cmp_Compare_int.ok (k : Nat) : cmp_Compare_int.tw.Ok Try.prog k := by
  intro a r h
  refine fn_ok (H := xhn) (fh := cmp_Compare_int.fh) (O := cmp_Compare_int.O) (k := k) Try.func180 (by kernel_rfl) (by kernel_rfl) (fun j _ => (Tw.orc_sound cmp_isNaN_int.dok (cmp_isNaN_int.ok j) noO_sound)) (by kernel_rfl) (m := 0) rfl ?_
  refine (cmp_Compare_int.sf k a.1 a.2).trans ?_
  exact congrArg (Option.map _) h
def bytealg_CompareString.f (a0 a1 : ByteArray) : Option Int := some (Lib.compareBytes a0.data.toList a1.data.toList)
def bytealg_CompareString.dec : List AV → List R.Obj → Option (ByteArray × ByteArray)
  | [.str a0, .str a1], [] => some (a0, a1)
  | _, _ => none
def bytealg_CompareString.tw : Tw := ⟨197, ByteArray × ByteArray, Int, bytealg_CompareString.dec, fun a => [.str a.1, .str a.2], fun a => [], fun k a => bytealg_CompareString.f a.1 a.2, fun a r => (.int .i64 r, [])⟩
theorem bytealg_CompareString.dok : bytealg_CompareString.tw.DecOk := by
  intro args hc a h
  have h : bytealg_CompareString.dec args hc = some a := h
  unfold bytealg_CompareString.dec at h
  split at h
  · cases h; exact ⟨rfl, rfl⟩
  · cases h
set_option maxRecDepth 100000 in
set_option maxHeartbeats 8000000 in
theorem bytealg_CompareString.calls (a0 a1 : ByteArray) (w : World) : Calls Try.prog 197 #[.string a0, .string a1] w fun e w' => e = .returned (.int .i64 (Lib.compareBytes a0.data.toList a1.data.toList)) ∧ w' = w := by
  go_enter Try.func197, Try.ntmps197
  go_wp2
  rw [run_callFunc_extern Try.func204 (by kernel_rfl) (by kernel_rfl) (by kernel_rfl) (e := Extern.BytealgCompare.compare) (by kernel_rfl), Lib.run_compareString]
  simp only [Result.andThen]
  rw [Oper.upon_value]
  go_wp2
  go_ret
  exact ⟨rfl, rfl⟩
theorem bytealg_CompareString.ok (k : Nat) : bytealg_CompareString.tw.Ok Try.prog k := by
  intro a r h
  obtain rfl := Option.some.inj (show some _ = some r from h)
  refine ⟨callable_of Try.func197 (by kernel_rfl) (by kernel_rfl), fun w M I vs E => ?_⟩
  have e : vs = #[.string a.1, .string a.2] := two_of E.len (fun q => (E.args 0 _ _ rfl q).str_inv) (fun q => (E.args 1 _ _ rfl q).str_inv)
  subst e
  refine (bytealg_CompareString.calls a.1 a.2 w).mono fun e w' => ?_
  rintro ⟨rfl, rfl⟩
  exact ⟨_, M, rfl, E.rel.weaken (fun κ q => q.elim), .closed (.int _ _)⟩
def strings_Compare.f (a0 : ByteArray) (a1 : ByteArray) : Option (Int) := ((bytealg_CompareString.f a0 a1).bind fun t1 => (some t1))
def strings_Compare.en (r : Int) : Res := (.int .i64 r, [])
def strings_Compare.dec : List AV → List R.Obj → Option (ByteArray × ByteArray)
  | [.str a0, .str a1], [] => some (a0, a1)
  | _, _ => none
def strings_Compare.tw : Tw := ⟨181, ByteArray × ByteArray, Int, strings_Compare.dec, fun a => [.str a.1, .str a.2], fun a => [], fun k a => strings_Compare.f a.1 a.2, fun a r => strings_Compare.en r⟩
theorem strings_Compare.dok : strings_Compare.tw.DecOk := by
  intro args hc a h
  have h : strings_Compare.dec args hc = some a := h
  unfold strings_Compare.dec at h
  split at h
  · cases h; exact ⟨rfl, rfl⟩
  · cases h
noncomputable def strings_Compare.O (k : Nat) : Oracle := (bytealg_CompareString.tw.orc k noO)
def strings_Compare.fh : FH := ⟨fun i => match i with | _ => none, [], false⟩
set_option maxRecDepth 100000 in
theorem strings_Compare.ef (k : Nat) (a0 : ByteArray) (a1 : ByteArray) : R.start Try.prog xhn strings_Compare.O 0 Try.f181 strings_Compare.fh k [.str a0, .str a1] [] = ((bytealg_CompareString.f a0 a1).bind fun t1 => (some (strings_Compare.en t1))) := by kernel_rfl
theorem strings_Compare.sf (k : Nat) (a0 : ByteArray) (a1 : ByteArray) : R.start Try.prog xhn strings_Compare.O 0 Try.f181 strings_Compare.fh k [.str a0, .str a1] [] = (strings_Compare.f a0 a1).map (strings_Compare.en) := by
  rw [strings_Compare.ef]
  simp only [strings_Compare.f, R.map_ite, R.map_bind, R.map_none, R.map_some]
theorem strings_Compare.ok (k : Nat) : strings_Compare.tw.Ok Try.prog k := by
  intro a r h
  refine fn_ok (H := xhn) (fh := strings_Compare.fh) (O := strings_Compare.O) (k := k) Try.func181 (by kernel_rfl) (by kernel_rfl) (fun j _ => (Tw.orc_sound bytealg_CompareString.dok (bytealg_CompareString.ok j) noO_sound)) (by kernel_rfl) (m := 0) rfl ?_
  refine (strings_Compare.sf k a.1 a.2).trans ?_
  exact congrArg (Option.map _) h
def cmp_Or_int.l0 : Nat → (List Int) → Int → Int → Option (Int)
  | 0, _, _, _ => none
  | k + 1, x6, x7, x8 => (if x8 < x7 then (if 0 ≤ x8 then (if x8 < (x6.length : Int) then (if (rdI x6 x8) = 0 then (cmp_Or_int.l0 k x6 x7 (wrap64 (x8 + 1))) else (some (rdI x6 x8))) else none) else none) else (some 0))
def cmp_Or_int.f (k : Nat) (l0 : List Int) : Option (Int) := (cmp_Or_int.l0 k l0 (l0.length : Int) 0)
def cmp_Or_int.en (r : Int) : Res := (.int .i64 r, [])
def cmp_Or_int.dec : List AV → List R.Obj → Option (List Int)
  | [.imm (.I .i64 l0)], [] => some l0
  | _, _ => none
def cmp_Or_int.tw : Tw := ⟨179, List Int, Int, cmp_Or_int.dec, fun a => [.imm (.I .i64 a)], fun a => [], fun k a => cmp_Or_int.f k a, fun a r => cmp_Or_int.en r⟩
theorem cmp_Or_int.dok : cmp_Or_int.tw.DecOk := by
  intro args hc a h
  have h : cmp_Or_int.dec args hc = some a := h
  unfold cmp_Or_int.dec at h
  split at h
  · cases h; exact ⟨rfl, rfl⟩
  · cases h
noncomputable def cmp_Or_int.O (k : Nat) : Oracle := noO
def cmp_Or_int.fh : FH := ⟨fun i => match i with | 3 => some [(3, 0), (6, 0), (7, 0), (8, 0)] | _ => none, [], false⟩
noncomputable def cmp_Or_int.x0 (k : Nat) (x6 : List Int) (x7 : Int) (x8 : Int) : Option Res := R.exec Try.prog xhn cmp_Or_int.O 0 Try.f179 cmp_Or_int.fh k (R.point Try.f179 3) ⟨[(3, .int .i64 0), (6, .imm (.I .i64 x6)), (7, .int .i64 x7), (8, .int .i64 x8)], [], 2⟩
set_option maxRecDepth 100000 in
theorem cmp_Or_int.e0 (k : Nat) (x6 : List Int) (x7 : Int) (x8 : Int) : cmp_Or_int.x0 (k + 1) x6 x7 x8 = (if x8 < x7 then (if 0 ≤ x8 then (if x8 < (x6.length : Int) then (if (rdI x6 x8) = 0 then (cmp_Or_int.x0 k x6 x7 (wrap64 (x8 + 1))) else (some (cmp_Or_int.en (rdI x6 x8)))) else none) else none) else (some (cmp_Or_int.en 0))) := by kernel_rfl
set_option maxRecDepth 100000 in
theorem cmp_Or_int.ef (k : Nat) (l0 : List Int) : R.start Try.prog xhn cmp_Or_int.O 0 Try.f179 cmp_Or_int.fh k [.imm (.I .i64 l0)] [] = (cmp_Or_int.x0 k l0 (l0.length : Int) 0) := by kernel_rfl
theorem cmp_Or_int.link : ∀ k, (∀ (x6 : List Int) (x7 : Int) (x8 : Int), cmp_Or_int.x0 k x6 x7 x8 = (cmp_Or_int.l0 k x6 x7 x8).map (cmp_Or_int.en))
  | 0 => fun _ _ _ => by simp only [cmp_Or_int.l0, R.map_none]; rfl
  | k + 1 => by
    have ih0 := cmp_Or_int.link k
    · intro x6 x7 x8
      rw [cmp_Or_int.e0]
      simp only [cmp_Or_int.l0, R.map_ite, R.map_bind, R.map_none, R.map_some, ← ih0]
theorem cmp_Or_int.sf (k : Nat) (l0 : List Int) : R.start Try.prog xhn cmp_Or_int.O 0 Try.f179 cmp_Or_int.fh k [.imm (.I .i64 l0)] [] = (cmp_Or_int.f k l0).map (cmp_Or_int.en) := by
  have ih0 := cmp_Or_int.link k
  rw [cmp_Or_int.ef]
  simp only [cmp_Or_int.f, R.map_ite, R.map_bind, R.map_none, R.map_some, ← ih0]
theorem cmp_Or_int.ok (k : Nat) : cmp_Or_int.tw.Ok Try.prog k := by
  intro a r h
  refine fn_ok (H := xhn) (fh := cmp_Or_int.fh) (O := cmp_Or_int.O) (k := k) Try.func179 (by kernel_rfl) (by kernel_rfl) (fun j _ => noO_sound) (by kernel_rfl) (m := 0) rfl ?_
  refine (cmp_Or_int.sf k a).trans ?_
  exact congrArg (Option.map _) h
def impl_stepOrder.f (k : Nat) (a0_0 : Int) (a0_1 : ByteArray) (a0_2 : Int) (a0_3 : Int) (a1_0 : Int) (a1_1 : ByteArray) (a1_2 : Int) (a1_3 : Int) : Option (Int) := ((cmp_Compare_int.f a0_0 a1_0).bind fun t1 => ((strings_Compare.f a0_1 a1_1).bind fun t2 => ((cmp_Compare_int.f a0_2 a1_2).bind fun t3 => ((cmp_Or_int.f k ([t1, t2, t3])).bind fun t4 => (some t4)))))
def impl_stepOrder.en (r : Int) : Res := (.int .i64 r, [])
def impl_stepOrder.dec : List AV → List R.Obj → Option (Int × ByteArray × Int × Int × Int × ByteArray × Int × Int)
  | [.agg [.int .i64 a0_0, .str a0_1, .int .i64 a0_2, .int .i64 a0_3], .agg [.int .i64 a1_0, .str a1_1, .int .i64 a1_2, .int .i64 a1_3]], [] => some (a0_0, a0_1, a0_2, a0_3, a1_0, a1_1, a1_2, a1_3)
  | _, _ => none
def impl_stepOrder.tw : Tw := ⟨152, Int × ByteArray × Int × Int × Int × ByteArray × Int × Int, Int, impl_stepOrder.dec, fun a => [.agg [.int .i64 a.1, .str a.2.1, .int .i64 a.2.2.1, .int .i64 a.2.2.2.1], .agg [.int .i64 a.2.2.2.2.1, .str a.2.2.2.2.2.1, .int .i64 a.2.2.2.2.2.2.1, .int .i64 a.2.2.2.2.2.2.2]], fun a => [], fun k a => impl_stepOrder.f k a.1 a.2.1 a.2.2.1 a.2.2.2.1 a.2.2.2.2.1 a.2.2.2.2.2.1 a.2.2.2.2.2.2.1 a.2.2.2.2.2.2.2, fun a r => impl_stepOrder.en r⟩
theorem impl_stepOrder.dok : impl_stepOrder.tw.DecOk := by
  intro args hc a h
  have h : impl_stepOrder.dec args hc = some a := h
  unfold impl_stepOrder.dec at h
  split at h
  · cases h; exact ⟨rfl, rfl⟩
  · cases h
noncomputable def impl_stepOrder.O (k : Nat) : Oracle := (cmp_Compare_int.tw.orc k (strings_Compare.tw.orc k (cmp_Or_int.tw.orc k noO)))
def impl_stepOrder.fh : FH := ⟨fun i => match i with | _ => none, [], false⟩
set_option maxRecDepth 100000 in
theorem impl_stepOrder.ef (k : Nat) (a0_0 : Int) (a0_1 : ByteArray) (a0_2 : Int) (a0_3 : Int) (a1_0 : Int) (a1_1 : ByteArray) (a1_2 : Int) (a1_3 : Int) : R.start Try.prog xhn impl_stepOrder.O 0 Try.f152 impl_stepOrder.fh k [.agg [.int .i64 a0_0, .str a0_1, .int .i64 a0_2, .int .i64 a0_3], .agg [.int .i64 a1_0, .str a1_1, .int .i64 a1_2, .int .i64 a1_3]] [] = ((cmp_Compare_int.f a0_0 a1_0).bind fun t1 => ((strings_Compare.f a0_1 a1_1).bind fun t2 => ((cmp_Compare_int.f a0_2 a1_2).bind fun t3 => ((cmp_Or_int.f k ([t1, t2, t3])).bind fun t4 => (some (impl_stepOrder.en t4)))))) := by kernel_rfl
theorem impl_stepOrder.sf (k : Nat) (a0_0 : Int) (a0_1 : ByteArray) (a0_2 : Int) (a0_3 : Int) (a1_0 : Int) (a1_1 : ByteArray) (a1_2 : Int) (a1_3 : Int) : R.start Try.prog xhn impl_stepOrder.O 0 Try.f152 impl_stepOrder.fh k [.agg [.int .i64 a0_0, .str a0_1, .int .i64 a0_2, .int .i64 a0_3], .agg [.int .i64 a1_0, .str a1_1, .int .i64 a1_2, .int .i64 a1_3]] [] = (impl_stepOrder.f k a0_0 a0_1 a0_2 a0_3 a1_0 a1_1 a1_2 a1_3).map (impl_stepOrder.en) := by
  rw [impl_stepOrder.ef]
  simp only [impl_stepOrder.f, R.map_ite, R.map_bind, R.map_none, R.map_some]
theorem impl_stepOrder.ok (k : Nat) : impl_stepOrder.tw.Ok Try.prog k := by
  intro a r h
  refine fn_ok (H := xhn) (fh := impl_stepOrder.fh) (O := impl_stepOrder.O) (k := k) Try.func152 (by kernel_rfl) (by kernel_rfl) (fun j _ => (Tw.orc_sound cmp_Compare_int.dok (cmp_Compare_int.ok j) (Tw.orc_sound strings_Compare.dok (strings_Compare.ok j) (Tw.orc_sound cmp_Or_int.dok (cmp_Or_int.ok j) noO_sound)))) (by kernel_rfl) (m := 0) rfl ?_
  refine (impl_stepOrder.sf k a.1 a.2.1 a.2.2.1 a.2.2.2.1 a.2.2.2.2.1 a.2.2.2.2.2.1 a.2.2.2.2.2.2.1 a.2.2.2.2.2.2.2).trans ?_
  exact congrArg (Option.map _) h
def impl_AutomatonValid.l0 : Nat → (List Stp) → Int → Int → Int → (List Int) → (List Int) → (List Stp) → Option (Bool)
  | 0, _, _, _, _, _, _, _ => none
  | k + 1, x36, x37, x38, y0_0, y0_1, y0_2, y0_3 => (if x38 < x37 then (if 0 ≤ x38 then (if x38 < (x36.length : Int) then (if (rdT x36 x38).f0 < 0 then (some false) else (if (rdT x36 x38).f0 ≥ y0_0 then (some false) else (if (rdT x36 x38).f2 < 0 then (some false) else (if (rdT x36 x38).f2 ≥ y0_0 then (some false) else (if (rdT x36 x38).f1.toList = ([97] : List UInt8) then (if (rdT x36 x38).f3 < 0 then (some false) else (if (rdT x36 x38).f3 > 3 then (some false) else (if x38 > 0 then (if 0 ≤ (wrap64 (x38 - 1)) then (if (wrap64 (x38 - 1)) < (y0_3.length : Int) then ((impl_stepOrder.f k ((rdT y0_3 (wrap64 (x38 - 1))).f0) ((rdT y0_3 (wrap64 (x38 - 1))).f1) ((rdT y0_3 (wrap64 (x38 - 1))).f2) ((rdT y0_3 (wrap64 (x38 - 1))).f3) ((rdT x36 x38).f0) ((rdT x36 x38).f1) ((rdT x36 x38).f2) ((rdT x36 x38).f3)).bind fun t3 => (if t3 ≥ 0 then (some false) else (impl_AutomatonValid.l0 k x36 x37 (wrap64 (x38 + 1)) y0_0 y0_1 y0_2 y0_3))) else none) else none) else (impl_AutomatonValid.l0 k x36 x37 (wrap64 (x38 + 1)) y0_0 y0_1 y0_2 y0_3)))) else (if (rdT x36 x38).f1.toList = ([98] : List UInt8) then (if (rdT x36 x38).f3 < 0 then (some false) else (if (rdT x36 x38).f3 > 3 then (some false) else (if x38 > 0 then (if 0 ≤ (wrap64 (x38 - 1)) then (if (wrap64 (x38 - 1)) < (y0_3.length : Int) then ((impl_stepOrder.f k ((rdT y0_3 (wrap64 (x38 - 1))).f0) ((rdT y0_3 (wrap64 (x38 - 1))).f1) ((rdT y0_3 (wrap64 (x38 - 1))).f2) ((rdT y0_3 (wrap64 (x38 - 1))).f3) ((rdT x36 x38).f0) ((rdT x36 x38).f1) ((rdT x36 x38).f2) ((rdT x36 x38).f3)).bind fun t4 => (if t4 ≥ 0 then (some false) else (impl_AutomatonValid.l0 k x36 x37 (wrap64 (x38 + 1)) y0_0 y0_1 y0_2 y0_3))) else none) else none) else (impl_AutomatonValid.l0 k x36 x37 (wrap64 (x38 + 1)) y0_0 y0_1 y0_2 y0_3)))) else (some false))))))) else none) else none) else (some true))
def impl_AutomatonValid.f (k : Nat) (a0_0 : Int) (l0_1 : List Int) (l0_2 : List Int) (l0_3 : List Stp) : Option (Bool) := (if a0_0 < 1 then (some false) else (if a0_0 > 4 then (some false) else (if (l0_3.length : Int) > 24 then (some false) else ((impl_statesOk.f k l0_1 a0_0).bind fun t1 => (if t1 = true then ((impl_statesOk.f k l0_2 a0_0).bind fun t2 => (if t2 = true then (impl_AutomatonValid.l0 k l0_3 (l0_3.length : Int) 0 a0_0 l0_1 l0_2 l0_3) else (some false))) else (some false))))))
def impl_AutomatonValid.en (r : Bool) : Res := (.lit r, [])
def impl_AutomatonValid.dec : List AV → List R.Obj → Option (Int × (List Int) × (List Int) × (List Stp))
  | [.agg [.int .i64 a0_0, .imm (.I .i64 l0_1), .imm (.I .i64 l0_2), .imm (.T l0_3)]], [] => some (a0_0, l0_1, l0_2, l0_3)
  | _, _ => none
def impl_AutomatonValid.tw : Tw := ⟨89, Int × (List Int) × (List Int) × (List Stp), Bool, impl_AutomatonValid.dec, fun a => [.agg [.int .i64 a.1, .imm (.I .i64 a.2.1), .imm (.I .i64 a.2.2.1), .imm (.T a.2.2.2)]], fun a => [], fun k a => impl_AutomatonValid.f k a.1 a.2.1 a.2.2.1 a.2.2.2, fun a r => impl_AutomatonValid.en r⟩
theorem impl_AutomatonValid.dok : impl_AutomatonValid.tw.DecOk := by
  intro args hc a h
  have h : impl_AutomatonValid.dec args hc = some a := h
  unfold impl_AutomatonValid.dec at h
  split at h
  · cases h; exact ⟨rfl, rfl⟩
  · cases h
noncomputable def impl_AutomatonValid.O (k : Nat) : Oracle := (impl_statesOk.tw.orc k (impl_stepOrder.tw.orc k noO))
def impl_AutomatonValid.fh : FH := ⟨fun i => match i with | 4 => some [(1, 0), (36, 0), (37, 0), (38, 0)] | _ => none, [], false⟩
noncomputable def impl_AutomatonValid.x0 (k : Nat) (x36 : List Stp) (x37 : Int) (x38 : Int) (y0_0 : Int) (y0_1 : List Int) (y0_2 : List Int) (y0_3 : List Stp) : Option Res := R.exec Try.prog xhn impl_AutomatonValid.O 0 Try.f89 impl_AutomatonValid.fh k (R.point Try.f89 4) ⟨[(1, .ptr 0 0), (36, .imm (.T x36)), (37, .int .i64 x37), (38, .int .i64 x38)], [(0, .box false [.int .i64 y0_0, .imm (.I .i64 y0_1), .imm (.I .i64 y0_2), .imm (.T y0_3)])], 3⟩
set_option maxRecDepth 100000 in
theorem impl_AutomatonValid.e0 (k : Nat) (x36 : List Stp) (x37 : Int) (x38 : Int) (y0_0 : Int) (y0_1 : List Int) (y0_2 : List Int) (y0_3 : List Stp) : impl_AutomatonValid.x0 (k + 1) x36 x37 x38 y0_0 y0_1 y0_2 y0_3 = (if x38 < x37 then (if 0 ≤ x38 then (if x38 < (x36.length : Int) then (if (rdT x36 x38).f0 < 0 then (some (impl_AutomatonValid.en false)) else (if (rdT x36 x38).f0 ≥ y0_0 then (some (impl_AutomatonValid.en false)) else (if (rdT x36 x38).f2 < 0 then (some (impl_AutomatonValid.en false)) else (if (rdT x36 x38).f2 ≥ y0_0 then (some (impl_AutomatonValid.en false)) else (if (rdT x36 x38).f1.toList = ([97] : List UInt8) then (if (rdT x36 x38).f3 < 0 then (some (impl_AutomatonValid.en false)) else (if (rdT x36 x38).f3 > 3 then (some (impl_AutomatonValid.en false)) else (if x38 > 0 then (if 0 ≤ (wrap64 (x38 - 1)) then (if (wrap64 (x38 - 1)) < (y0_3.length : Int) then ((impl_stepOrder.f k ((rdT y0_3 (wrap64 (x38 - 1))).f0) ((rdT y0_3 (wrap64 (x38 - 1))).f1) ((rdT y0_3 (wrap64 (x38 - 1))).f2) ((rdT y0_3 (wrap64 (x38 - 1))).f3) ((rdT x36 x38).f0) ((rdT x36 x38).f1) ((rdT x36 x38).f2) ((rdT x36 x38).f3)).bind fun t3 => (if t3 ≥ 0 then (some (impl_AutomatonValid.en false)) else (impl_AutomatonValid.x0 k x36 x37 (wrap64 (x38 + 1)) y0_0 y0_1 y0_2 y0_3))) else none) else none) else (impl_AutomatonValid.x0 k x36 x37 (wrap64 (x38 + 1)) y0_0 y0_1 y0_2 y0_3)))) else (if (rdT x36 x38).f1.toList = ([98] : List UInt8) then (if (rdT x36 x38).f3 < 0 then (some (impl_AutomatonValid.en false)) else (if (rdT x36 x38).f3 > 3 then (some (impl_AutomatonValid.en false)) else (if x38 > 0 then (if 0 ≤ (wrap64 (x38 - 1)) then (if (wrap64 (x38 - 1)) < (y0_3.length : Int) then ((impl_stepOrder.f k ((rdT y0_3 (wrap64 (x38 - 1))).f0) ((rdT y0_3 (wrap64 (x38 - 1))).f1) ((rdT y0_3 (wrap64 (x38 - 1))).f2) ((rdT y0_3 (wrap64 (x38 - 1))).f3) ((rdT x36 x38).f0) ((rdT x36 x38).f1) ((rdT x36 x38).f2) ((rdT x36 x38).f3)).bind fun t4 => (if t4 ≥ 0 then (some (impl_AutomatonValid.en false)) else (impl_AutomatonValid.x0 k x36 x37 (wrap64 (x38 + 1)) y0_0 y0_1 y0_2 y0_3))) else none) else none) else (impl_AutomatonValid.x0 k x36 x37 (wrap64 (x38 + 1)) y0_0 y0_1 y0_2 y0_3)))) else (some (impl_AutomatonValid.en false)))))))) else none) else none) else (some (impl_AutomatonValid.en true))) := by kernel_rfl
set_option maxRecDepth 100000 in
theorem impl_AutomatonValid.ef (k : Nat) (a0_0 : Int) (l0_1 : List Int) (l0_2 : List Int) (l0_3 : List Stp) : R.start Try.prog xhn impl_AutomatonValid.O 0 Try.f89 impl_AutomatonValid.fh k [.agg [.int .i64 a0_0, .imm (.I .i64 l0_1), .imm (.I .i64 l0_2), .imm (.T l0_3)]] [] = (if a0_0 < 1 then (some (impl_AutomatonValid.en false)) else (if a0_0 > 4 then (some (impl_AutomatonValid.en false)) else (if (l0_3.length : Int) > 24 then (some (impl_AutomatonValid.en false)) else ((impl_statesOk.f k l0_1 a0_0).bind fun t1 => (if t1 = true then ((impl_statesOk.f k l0_2 a0_0).bind fun t2 => (if t2 = true then (impl_AutomatonValid.x0 k l0_3 (l0_3.length : Int) 0 a0_0 l0_1 l0_2 l0_3) else (some (impl_AutomatonValid.en false)))) else (some (impl_AutomatonValid.en false))))))) := by kernel_rfl
theorem impl_AutomatonValid.link : ∀ k, (∀ (x36 : List Stp) (x37 : Int) (x38 : Int) (y0_0 : Int) (y0_1 : List Int) (y0_2 : List Int) (y0_3 : List Stp), impl_AutomatonValid.x0 k x36 x37 x38 y0_0 y0_1 y0_2 y0_3 = (impl_AutomatonValid.l0 k x36 x37 x38 y0_0 y0_1 y0_2 y0_3).map (impl_AutomatonValid.en))
  | 0 => fun _ _ _ _ _ _ _ => by simp only [impl_AutomatonValid.l0, R.map_none]; rfl
  | k + 1 => by
    have ih0 := impl_AutomatonValid.link k
    · intro x36 x37 x38 y0_0 y0_1 y0_2 y0_3
      rw [impl_AutomatonValid.e0]
      simp only [impl_AutomatonValid.l0, R.map_ite, R.map_bind, R.map_none, R.map_some, ← ih0]
theorem impl_AutomatonValid.sf (k : Nat) (a0_0 : Int) (l0_1 : List Int) (l0_2 : List Int) (l0_3 : List Stp) : R.start Try.prog xhn impl_AutomatonValid.O 0 Try.f89 impl_AutomatonValid.fh k [.agg [.int .i64 a0_0, .imm (.I .i64 l0_1), .imm (.I .i64 l0_2), .imm (.T l0_3)]] [] = (impl_AutomatonValid.f k a0_0 l0_1 l0_2 l0_3).map (impl_AutomatonValid.en) := by
  have ih0 := impl_AutomatonValid.link k
  rw [impl_AutomatonValid.ef]
  simp only [impl_AutomatonValid.f, R.map_ite, R.map_bind, R.map_none, R.map_some, ← ih0]
theorem impl_AutomatonValid.ok (k : Nat) : impl_AutomatonValid.tw.Ok Try.prog k := by
  intro a r h
  refine fn_ok (H := xhn) (fh := impl_AutomatonValid.fh) (O := impl_AutomatonValid.O) (k := k) Try.func89 (by kernel_rfl) (by kernel_rfl) (fun j _ => (Tw.orc_sound impl_statesOk.dok (impl_statesOk.ok j) (Tw.orc_sound impl_stepOrder.dok (impl_stepOrder.ok j) noO_sound))) (by kernel_rfl) (m := 0) rfl ?_
  refine (impl_AutomatonValid.sf k a.1 a.2.1 a.2.2.1 a.2.2.2).trans ?_
  exact congrArg (Option.map _) h
def stringslite_HasPrefix.f (a0 : ByteArray) (a1 : ByteArray) : Option (Bool) := (if (a0.size : Int) ≥ (a1.size : Int) then (if 0 ≤ (a1.size : Int) then (if (a1.size : Int) ≤ (a0.size : Int) then (some (decide ((a0.extract 0 (a1.size : Int).toNat).toList = a1.toList))) else none) else none) else (some false))
def stringslite_HasPrefix.en (r : Bool) : Res := (.lit r, [])
def stringslite_HasPrefix.dec : List AV → List R.Obj → Option (ByteArray × ByteArray)
  | [.str a0, .str a1], [] => some (a0, a1)
  | _, _ => none
def stringslite_HasPrefix.tw : Tw := ⟨203, ByteArray × ByteArray, Bool, stringslite_HasPrefix.dec, fun a => [.str a.1, .str a.2], fun a => [], fun k a => stringslite_HasPrefix.f a.1 a.2, fun a r => stringslite_HasPrefix.en r⟩
theorem stringslite_HasPrefix.dok : stringslite_HasPrefix.tw.DecOk := by
  intro args hc a h
  have h : stringslite_HasPrefix.dec args hc = some a := h
  unfold stringslite_HasPrefix.dec at h
  split at h
  · cases h; exact ⟨rfl, rfl⟩
  · cases h
noncomputable def stringslite_HasPrefix.O (k : Nat) : Oracle := noO
def stringslite_HasPrefix.fh : FH := ⟨fun i => match i with | _ => none, [], false⟩
set_option maxRecDepth 100000 in
theorem stringslite_HasPrefix.ef (k : Nat) (a0 : ByteArray) (a1 : ByteArray) : R.start Try.prog xhn stringslite_HasPrefix.O 0 Try.f203 stringslite_HasPrefix.fh k [.str a0, .str a1] [] = (if (a0.size : Int) ≥ (a1.size : Int) then (if 0 ≤ (a1.size : Int) then (if (a1.size : Int) ≤ (a0.size : Int) then (some (stringslite_HasPrefix.en (decide ((a0.extract 0 (a1.size : Int).toNat).toList = a1.toList)))) else none) else none) else (some (stringslite_HasPrefix.en false))) := by kernel_rfl
theorem stringslite_HasPrefix.sf (k : Nat) (a0 : ByteArray) (a1 : ByteArray) : R.start Try.prog xhn stringslite_HasPrefix.O 0 Try.f203 stringslite_HasPrefix.fh k [.str a0, .str a1] [] = (stringslite_HasPrefix.f a0 a1).map (stringslite_HasPrefix.en) := by
  rw [stringslite_HasPrefix.ef]
  simp only [stringslite_HasPrefix.f, R.map_ite, R.map_bind, R.map_none, R.map_some]
theorem stringslite_HasPrefix.ok (k : Nat) : stringslite_HasPrefix.tw.Ok Try.prog k := by
  intro a r h
  refine fn_ok (H := xhn) (fh := stringslite_HasPrefix.fh) (O := stringslite_HasPrefix.O) (k := k) Try.func203 (by kernel_rfl) (by kernel_rfl) (fun j _ => noO_sound) (by kernel_rfl) (m := 0) rfl ?_
  refine (stringslite_HasPrefix.sf k a.1 a.2).trans ?_
  exact congrArg (Option.map _) h
def strings_HasPrefix.f (a0 : ByteArray) (a1 : ByteArray) : Option (Bool) := ((stringslite_HasPrefix.f a0 a1).bind fun t1 => (some t1))
def strings_HasPrefix.en (r : Bool) : Res := (.lit r, [])
def strings_HasPrefix.dec : List AV → List R.Obj → Option (ByteArray × ByteArray)
  | [.str a0, .str a1], [] => some (a0, a1)
  | _, _ => none
def strings_HasPrefix.tw : Tw := ⟨192, ByteArray × ByteArray, Bool, strings_HasPrefix.dec, fun a => [.str a.1, .str a.2], fun a => [], fun k a => strings_HasPrefix.f a.1 a.2, fun a r => strings_HasPrefix.en r⟩
theorem strings_HasPrefix.dok : strings_HasPrefix.tw.DecOk := by
  intro args hc a h
  have h : strings_HasPrefix.dec args hc = some a := h
  unfold strings_HasPrefix.dec at h
  split at h
  · cases h; exact ⟨rfl, rfl⟩
  · cases h
noncomputable def strings_HasPrefix.O (k : Nat) : Oracle := (stringslite_HasPrefix.tw.orc k noO)
def strings_HasPrefix.fh : FH := ⟨fun i => match i with | _ => none, [], false⟩
set_option maxRecDepth 100000 in
theorem strings_HasPrefix.ef (k : Nat) (a0 : ByteArray) (a1 : ByteArray) : R.start Try.prog xhn strings_HasPrefix.O 0 Try.f192 strings_HasPrefix.fh k [.str a0, .str a1] [] = ((stringslite_HasPrefix.f a0 a1).bind fun t1 => (some (strings_HasPrefix.en t1))) := by kernel_rfl
theorem strings_HasPrefix.sf (k : Nat) (a0 : ByteArray) (a1 : ByteArray) : R.start Try.prog xhn strings_HasPrefix.O 0 Try.f192 strings_HasPrefix.fh k [.str a0, .str a1] [] = (strings_HasPrefix.f a0 a1).map (strings_HasPrefix.en) := by
  rw [strings_HasPrefix.ef]
  simp only [strings_HasPrefix.f, R.map_ite, R.map_bind, R.map_none, R.map_some]
theorem strings_HasPrefix.ok (k : Nat) : strings_HasPrefix.tw.Ok Try.prog k := by
  intro a r h
  refine fn_ok (H := xhn) (fh := strings_HasPrefix.fh) (O := strings_HasPrefix.O) (k := k) Try.func192 (by kernel_rfl) (by kernel_rfl) (fun j _ => (Tw.orc_sound stringslite_HasPrefix.dok (stringslite_HasPrefix.ok j) noO_sound)) (by kernel_rfl) (m := 0) rfl ?_
  refine (strings_HasPrefix.sf k a.1 a.2).trans ?_
  exact congrArg (Option.map _) h
mutual
def impl_readParts.l0 : Nat → ByteArray → (List Part) → Option ((List Part) × ByteArray)
  | 0, _, _ => none
  | k + 1, x0, y0 => (if x0.toList = ([] : List UInt8) then (some (y0, x0)) else (if 0 < (x0.size : Int) then (if (btI x0 0) = 97 then (if 1 ≤ (x0.size : Int) then (if y0.length < 3518437208883 then (if (x0.size : Int) ≤ (x0.size : Int) then (impl_readParts.l0 k (x0.extract 1 x0.size) (y0 ++ [(⟨(x0.extract 0 1), ([] : List Part)⟩ : Part)])) else none) else none) else none) else (if (btI x0 0) = 98 then (if 1 ≤ (x0.size : Int) then (if y0.length < 3518437208883 then (if (x0.size : Int) ≤ (x0.size : Int) then (impl_readParts.l0 k (x0.extract 1 x0.size) (y0 ++ [(⟨(x0.extract 0 1), ([] : List Part)⟩ : Part)])) else none) else none) else none) else (if (btI x0 0) = 40 then (if 1 ≤ (x0.size : Int) then (if (x0.size : Int) ≤ (x0.size : Int) then ((impl_readParts.f k (x0.extract 1 x0.size)).bind fun t3 => (if (t3.1.length : Int) > 0 then ((strings_HasPrefix.f t3.2 (⟨#[41, 35]⟩ : ByteArray)).bind fun t4 => (if t4 = true then (if y0.length < 3518437208883 then (if 2 ≤ (t3.2.size : Int) then (if (t3.2.size : Int) ≤ (t3.2.size : Int) then (impl_readParts.l0 k (t3.2.extract 2 t3.2.size) (y0 ++ [(⟨(⟨#[]⟩ : ByteArray), t3.1⟩ : Part)])) else none) else none) else none) else (some (y0, x0)))) else (some (y0, x0)))) else none) else none) else (some (y0, x0))))) else none))
def impl_readParts.f : Nat → ByteArray → Option ((List Part) × ByteArray)
  | 0, _ => none
  | k + 1, a0 => (impl_readParts.l0 k a0 ([] : List Part))
end
def impl_readParts.en (r : (List Part) × ByteArray) : Res := (.tup [.sl 0 0, .str r.2], [.arr 159 0 (.P r.1) false])
def impl_readParts.dec : List AV → List R.Obj → Option (ByteArray)
  | [.str a0], [] => some a0
  | _, _ => none
def impl_readParts.tw : Tw := ⟨172, ByteArray, (List Part) × ByteArray, impl_readParts.dec, fun a => [.str a], fun a => [], fun k a => impl_readParts.f k a, fun a r => impl_readParts.en r⟩
theorem impl_readParts.dok : impl_readParts.tw.DecOk := by
  intro args hc a h
  have h : impl_readParts.dec args hc = some a := h
  unfold impl_readParts.dec at h
  split at h
  · cases h; exact ⟨rfl, rfl⟩
  · cases h
noncomputable def impl_readParts.O (k : Nat) : Oracle := (strings_HasPrefix.tw.orc k (impl_readParts.tw.orc k noO))
def impl_readParts.fh : FH := ⟨fun i => match i with | 2 => some [(0, 0), (4, 0)] | _ => none, [(true, 159)], false⟩
noncomputable def impl_readParts.x0 (k : Nat) (x0 : ByteArray) (y0 : List Part) : Option Res := R.exec Try.prog xhn impl_readParts.O 0 Try.f172 impl_readParts.fh k (R.point Try.f172 2) ⟨[(0, .str x0), (4, .sl 0 0)], [(0, .arr 159 0 (.P y0) false)], 3⟩
set_option maxRecDepth 100000 in
theorem impl_readParts.e0 (k : Nat) (x0 : ByteArray) (y0 : List Part) : impl_readParts.x0 (k + 1) x0 y0 = (if x0.toList = ([] : List UInt8) then (some (impl_readParts.en (y0, x0))) else (if 0 < (x0.size : Int) then (if (btI x0 0) = 97 then (if 1 ≤ (x0.size : Int) then (if y0.length < 3518437208883 then (if (x0.size : Int) ≤ (x0.size : Int) then (impl_readParts.x0 k (x0.extract 1 x0.size) (y0 ++ [(⟨(x0.extract 0 1), ([] : List Part)⟩ : Part)])) else none) else none) else none) else (if (btI x0 0) = 98 then (if 1 ≤ (x0.size : Int) then (if y0.length < 3518437208883 then (if (x0.size : Int) ≤ (x0.size : Int) then (impl_readParts.x0 k (x0.extract 1 x0.size) (y0 ++ [(⟨(x0.extract 0 1), ([] : List Part)⟩ : Part)])) else none) else none) else none) else (if (btI x0 0) = 40 then (if 1 ≤ (x0.size : Int) then (if (x0.size : Int) ≤ (x0.size : Int) then ((impl_readParts.f k (x0.extract 1 x0.size)).bind fun t3 => (if (t3.1.length : Int) > 0 then ((strings_HasPrefix.f t3.2 (⟨#[41, 35]⟩ : ByteArray)).bind fun t4 => (if t4 = true then (if y0.length < 3518437208883 then (if 2 ≤ (t3.2.size : Int) then (if (t3.2.size : Int) ≤ (t3.2.size : Int) then (impl_readParts.x0 k (t3.2.extract 2 t3.2.size) (y0 ++ [(⟨(⟨#[]⟩ : ByteArray), t3.1⟩ : Part)])) else none) else none) else none) else (some (impl_readParts.en (y0, x0))))) else (some (impl_readParts.en (y0, x0))))) else none) else none) else (some (impl_readParts.en (y0, x0)))))) else none)) := by
  refine Eq.trans ?_ (R.icong (fun h0 => rfl) (fun h0 => (R.icong (fun h1 => (R.icong (fun h2 => (R.idropT (p := (btI x0 0) = 97) (z := (if (btI x0 0) = 40 then (if 1 ≤ (x0.size : Int) then (if (x0.size : Int) ≤ (x0.size : Int) then ((impl_readParts.f k (x0.extract 1 x0.size)).bind fun t1 => (if (t1.1.length : Int) > 0 then ((strings_HasPrefix.f t1.2 (⟨#[41, 35]⟩ : ByteArray)).bind fun t2 => (if t2 = true then (if y0.length < 3518437208883 then (if 2 ≤ (t1.2.size : Int) then (if (t1.2.size : Int) ≤ (t1.2.size : Int) then (impl_readParts.x0 k (t1.2.extract 2 t1.2.size) (y0 ++ [(⟨(⟨#[]⟩ : ByteArray), t1.1⟩ : Part)])) else none) else none) else none) else (some (impl_readParts.en (y0, x0))))) else (some (impl_readParts.en (y0, x0))))) else none) else none) else (some (impl_readParts.en (y0, x0))))) h2 (R.icong (fun h3 => (R.icong (fun h4 => (R.idropT (p := 1 ≤ (x0.size : Int)) (z := none) h3 rfl)) (fun h4 => rfl))) (fun h3 => rfl)))) (fun h2 => (R.icong (fun h3 => (R.icong (fun h4 => (R.icong (fun h5 => (R.idropT (p := 1 ≤ (x0.size : Int)) (z := none) h4 rfl)) (fun h5 => rfl))) (fun h4 => rfl))) (fun h3 => rfl))))) (fun h1 => rfl))))
  kernel_rfl
set_option maxRecDepth 100000 in
theorem impl_readParts.ef (k : Nat) (a0 : ByteArray) : R.start Try.prog xhn impl_readParts.O 0 Try.f172 impl_readParts.fh k [.str a0] [] = (impl_readParts.x0 k a0 ([] : List Part)) := by kernel_rfl
theorem impl_readParts.link : ∀ k, (∀ (x0 : ByteArray) (y0 : List Part), impl_readParts.x0 k x0 y0 = (impl_readParts.l0 k x0 y0).map (impl_readParts.en))
  | 0 => fun _ _ => by simp only [impl_readParts.l0, R.map_none]; rfl
  | k + 1 => by
    have ih0 := impl_readParts.link k
    · intro x0 y0
      rw [impl_readParts.e0]
      simp only [impl_readParts.l0, R.map_ite, R.map_bind, R.map_none, R.map_some, ← ih0]
theorem impl_readParts.sf (k : Nat) (a0 : ByteArray) : R.start Try.prog xhn impl_readParts.O 0 Try.f172 impl_readParts.fh k [.str a0] [] = (impl_readParts.f (k + 1) a0).map (impl_readParts.en) := by
  have ih0 := impl_readParts.link k
  rw [impl_readParts.ef]
  simp only [impl_readParts.f, R.map_ite, R.map_bind, R.map_none, R.map_some, ← ih0]
theorem impl_readParts.ok : ∀ k, impl_readParts.tw.Ok Try.prog k := by
  intro k
  induction k using Nat.strongRecOn with
  | ind k ih =>
    cases k with
    | zero =>
      intro a r h
      have h : impl_readParts.f 0 a = some r := h
      simp only [impl_readParts.f] at h
      cases h
    | succ k =>
      intro a r h
      refine fn_ok (H := xhn) (fh := impl_readParts.fh) (O := impl_readParts.O) (k := k) Try.func172 (by kernel_rfl) (by kernel_rfl) (fun j hj => (Tw.orc_sound strings_HasPrefix.dok (strings_HasPrefix.ok j) (Tw.orc_sound impl_readParts.dok (ih j (by omega)) noO_sound))) (by kernel_rfl) (m := 0) rfl ?_
      refine (impl_readParts.sf k a).trans ?_
      exact congrArg (Option.map _) h
def impl_parts.f (k : Nat) (a0 : ByteArray) : Option ((List Part) × Bool) := (if (a0.size : Int) > 120 then (some (([] : List Part), false)) else ((impl_readParts.f k a0).bind fun t1 => (if (t1.1.length : Int) > 0 then (some (t1.1, (decide (t1.2.toList = ([] : List UInt8))))) else (some (t1.1, false)))))
def impl_parts.en (r : (List Part) × Bool) : Res := (.tup [.sl 0 0, .lit r.2], [.arr 159 0 (.P r.1) false])
def impl_parts.dec : List AV → List R.Obj → Option (ByteArray)
  | [.str a0], [] => some a0
  | _, _ => none
def impl_parts.tw : Tw := ⟨130, ByteArray, (List Part) × Bool, impl_parts.dec, fun a => [.str a], fun a => [], fun k a => impl_parts.f k a, fun a r => impl_parts.en r⟩
theorem impl_parts.dok : impl_parts.tw.DecOk := by
  intro args hc a h
  have h : impl_parts.dec args hc = some a := h
  unfold impl_parts.dec at h
  split at h
  · cases h; exact ⟨rfl, rfl⟩
  · cases h
noncomputable def impl_parts.O (k : Nat) : Oracle := (impl_readParts.tw.orc k noO)
def impl_parts.fh : FH := ⟨fun i => match i with | _ => none, [(true, 159)], false⟩
set_option maxRecDepth 100000 in
theorem impl_parts.ef (k : Nat) (a0 : ByteArray) : R.start Try.prog xhn impl_parts.O 0 Try.f130 impl_parts.fh k [.str a0] [] = (if (a0.size : Int) > 120 then (some (impl_parts.en (([] : List Part), false))) else ((impl_readParts.f k a0).bind fun t1 => (if (t1.1.length : Int) > 0 then (some (impl_parts.en (t1.1, (decide (t1.2.toList = ([] : List UInt8)))))) else (some (impl_parts.en (t1.1, false)))))) := by kernel_rfl
theorem impl_parts.sf (k : Nat) (a0 : ByteArray) : R.start Try.prog xhn impl_parts.O 0 Try.f130 impl_parts.fh k [.str a0] [] = (impl_parts.f k a0).map (impl_parts.en) := by
  rw [impl_parts.ef]
  simp only [impl_parts.f, R.map_ite, R.map_bind, R.map_none, R.map_some]
theorem impl_parts.ok (k : Nat) : impl_parts.tw.Ok Try.prog k := by
  intro a r h
  refine fn_ok (H := xhn) (fh := impl_parts.fh) (O := impl_parts.O) (k := k) Try.func130 (by kernel_rfl) (by kernel_rfl) (fun j _ => (Tw.orc_sound impl_readParts.dok (impl_readParts.ok j) noO_sound)) (by kernel_rfl) (m := 0) rfl ?_
  refine (impl_parts.sf k a).trans ?_
  exact congrArg (Option.map _) h
def impl_StepMatrix_1.f (a0 : Int) (a1 : Int) : Option (Int) := (some 1000000)
def impl_StepMatrix_1.en (r : Int) : Res := (.int .i64 r, [])
def impl_StepMatrix_1.dec : List AV → List R.Obj → Option (Int × Int)
  | [.int .i64 a0, .int .i64 a1], [] => some (a0, a1)
  | _, _ => none
def impl_StepMatrix_1.tw : Tw := ⟨111, Int × Int, Int, impl_StepMatrix_1.dec, fun a => [.int .i64 a.1, .int .i64 a.2], fun a => [], fun k a => impl_StepMatrix_1.f a.1 a.2, fun a r => impl_StepMatrix_1.en r⟩
theorem impl_StepMatrix_1.dok : impl_StepMatrix_1.tw.DecOk := by
  intro args hc a h
  have h : impl_StepMatrix_1.dec args hc = some a := h
  unfold impl_StepMatrix_1.dec at h
  split at h
  · cases h; exact ⟨rfl, rfl⟩
  · cases h
noncomputable def impl_StepMatrix_1.O (k : Nat) : Oracle := noO
def impl_StepMatrix_1.fh : FH := ⟨fun i => match i with | _ => none, [], false⟩
set_option maxRecDepth 100000 in
theorem impl_StepMatrix_1.ef (k : Nat) (a0 : Int) (a1 : Int) : R.start Try.prog xhn impl_StepMatrix_1.O 0 Try.f111 impl_StepMatrix_1.fh k [.int .i64 a0, .int .i64 a1] [] = (some (impl_StepMatrix_1.en 1000000)) := by kernel_rfl
theorem impl_StepMatrix_1.sf (k : Nat) (a0 : Int) (a1 : Int) : R.start Try.prog xhn impl_StepMatrix_1.O 0 Try.f111 impl_StepMatrix_1.fh k [.int .i64 a0, .int .i64 a1] [] = (impl_StepMatrix_1.f a0 a1).map (impl_StepMatrix_1.en) := by
  rw [impl_StepMatrix_1.ef]
  simp only [impl_StepMatrix_1.f, R.map_ite, R.map_bind, R.map_none, R.map_some]
theorem impl_StepMatrix_1.ok (k : Nat) : impl_StepMatrix_1.tw.Ok Try.prog k := by
  intro a r h
  refine fn_ok (H := xhn) (fh := impl_StepMatrix_1.fh) (O := impl_StepMatrix_1.O) (k := k) Try.func111 (by kernel_rfl) (by kernel_rfl) (fun j _ => noO_sound) (by kernel_rfl) (m := 0) rfl ?_
  refine (impl_StepMatrix_1.sf k a.1 a.2).trans ?_
  exact congrArg (Option.map _) h
mutual
def impl_filled.l0 : Nat → Int → Int → Int → Int → (List Int) → Option (Int × (List Int))
  | 0, _, _, _, _, _ => none
  | k + 1, x0, x10, x11, y1_0, y3 => (if x11 < x10 then (impl_filled.l1 k x0 x11 x10 x11 x0 0 y1_0 y3) else (some (y1_0, y3)))
def impl_filled.l1 : Nat → Int → Int → Int → Int → Int → Int → Int → (List Int) → Option (Int × (List Int))
  | 0, _, _, _, _, _, _, _, _ => none
  | k + 1, x0, x6, x10, x11, x14, x15, y1_0, y3 => (if x15 < x14 then ((impl_StepMatrix_1.f x6 x15).bind fun t1 => (if y3.length < 17592186044416 then (impl_filled.l1 k x0 x6 x10 x11 x14 (wrap64 (x15 + 1)) y1_0 (y3 ++ [t1])) else none)) else (impl_filled.l0 k x0 x10 (wrap64 (x11 + 1)) y1_0 y3))
end
def impl_filled.f (k : Nat) (a0 : Int) : Option (Int × (List Int)) := (impl_filled.l0 k a0 a0 0 a0 ([] : List Int))
def impl_filled.en (r : Int × (List Int)) : Res := (.agg [.int .i64 r.1, .sl 0 0], [.arr 3 0 (.I .i64 r.2) false])
def impl_filled.dec : List AV → List R.Obj → Option (Int)
  | [.int .i64 a0, .clo 111 []], [] => some a0
  | _, _ => none
def impl_filled.tw : Tw := ⟨107, Int, Int × (List Int), impl_filled.dec, fun a => [.int .i64 a, .clo 111 []], fun a => [], fun k a => impl_filled.f k a, fun a r => impl_filled.en r⟩
theorem impl_filled.dok : impl_filled.tw.DecOk := by
  intro args hc a h
  have h : impl_filled.dec args hc = some a := h
  unfold impl_filled.dec at h
  split at h
  · cases h; exact ⟨rfl, rfl⟩
  · cases h
noncomputable def impl_filled.O (k : Nat) : Oracle := (impl_StepMatrix_1.tw.orc k noO)
def impl_filled.fh : FH := ⟨fun i => match i with | 3 => some [(0, 0), (1, 0), (4, 0), (5, 0), (10, 0), (11, 0)] | 6 => some [(0, 0), (1, 0), (4, 0), (5, 0), (6, 0), (10, 0), (11, 0), (14, 0), (15, 0)] | _ => none, [(true, 3)], false⟩
noncomputable def impl_filled.x0 (k : Nat) (x0 : Int) (x10 : Int) (x11 : Int) (y1_0 : Int) (y3 : List Int) : Option Res := R.exec Try.prog xhn impl_filled.O 0 Try.f107 impl_filled.fh k (R.point Try.f107 3) ⟨[(0, .int .i64 x0), (1, .clo 111 []), (4, .ptr 0 0), (5, .ptr 1 0), (10, .int .i64 x10), (11, .int .i64 x11)], [(0, .box false [.int .i64 0, .sl 2 0]), (1, .box false [.int .i64 y1_0, .sl 3 0]), (2, .arr 3 0 (.I .i64 ([] : List Int)) false), (3, .arr 3 0 (.I .i64 y3) false)], 6⟩
noncomputable def impl_filled.x1 (k : Nat) (x0 : Int) (x6 : Int) (x10 : Int) (x11 : Int) (x14 : Int) (x15 : Int) (y1_0 : Int) (y3 : List Int) : Option Res := R.exec Try.prog xhn impl_filled.O 0 Try.f107 impl_filled.fh k (R.point Try.f107 6) ⟨[(0, .int .i64 x0), (1, .clo 111 []), (4, .ptr 0 0), (5, .ptr 1 0), (6, .int .i64 x6), (10, .int .i64 x10), (11, .int .i64 x11), (14, .int .i64 x14), (15, .int .i64 x15)], [(0, .box false [.int .i64 0, .sl 2 0]), (1, .box false [.int .i64 y1_0, .sl 3 0]), (2, .arr 3 0 (.I .i64 ([] : List Int)) false), (3, .arr 3 0 (.I .i64 y3) false)], 6⟩
set_option maxRecDepth 100000 in
theorem impl_filled.e0 (k : Nat) (x0 : Int) (x10 : Int) (x11 : Int) (y1_0 : Int) (y3 : List Int) : impl_filled.x0 (k + 1) x0 x10 x11 y1_0 y3 = (if x11 < x10 then (impl_filled.x1 k x0 x11 x10 x11 x0 0 y1_0 y3) else (some (impl_filled.en (y1_0, y3)))) := by kernel_rfl
set_option maxRecDepth 100000 in
theorem impl_filled.e1 (k : Nat) (x0 : Int) (x6 : Int) (x10 : Int) (x11 : Int) (x14 : Int) (x15 : Int) (y1_0 : Int) (y3 : List Int) : impl_filled.x1 (k + 1) x0 x6 x10 x11 x14 x15 y1_0 y3 = (if x15 < x14 then ((impl_StepMatrix_1.f x6 x15).bind fun t1 => (if y3.length < 17592186044416 then (impl_filled.x1 k x0 x6 x10 x11 x14 (wrap64 (x15 + 1)) y1_0 (y3 ++ [t1])) else none)) else (impl_filled.x0 k x0 x10 (wrap64 (x11 + 1)) y1_0 y3)) := by kernel_rfl
set_option maxRecDepth 100000 in
theorem impl_filled.ef (k : Nat) (a0 : Int) : R.start Try.prog xhn impl_filled.O 0 Try.f107 impl_filled.fh k [.int .i64 a0, .clo 111 []] [] = (impl_filled.x0 k a0 a0 0 a0 ([] : List Int)) := by kernel_rfl
theorem impl_filled.link : ∀ k, (∀ (x0 : Int) (x10 : Int) (x11 : Int) (y1_0 : Int) (y3 : List Int), impl_filled.x0 k x0 x10 x11 y1_0 y3 = (impl_filled.l0 k x0 x10 x11 y1_0 y3).map (impl_filled.en)) ∧ (∀ (x0 : Int) (x6 : Int) (x10 : Int) (x11 : Int) (x14 : Int) (x15 : Int) (y1_0 : Int) (y3 : List Int), impl_filled.x1 k x0 x6 x10 x11 x14 x15 y1_0 y3 = (impl_filled.l1 k x0 x6 x10 x11 x14 x15 y1_0 y3).map (impl_filled.en))
  | 0 => ⟨fun _ _ _ _ _ => by simp only [impl_filled.l0, R.map_none]; rfl, fun _ _ _ _ _ _ _ _ => by simp only [impl_filled.l1, R.map_none]; rfl⟩
  | k + 1 => by
    obtain ⟨ih0, ih1⟩ := impl_filled.link k
    refine ⟨?_, ?_⟩
    · intro x0 x10 x11 y1_0 y3
      rw [impl_filled.e0]
      simp only [impl_filled.l0, R.map_ite, R.map_bind, R.map_none, R.map_some, ← ih0, ← ih1]
    · intro x0 x6 x10 x11 x14 x15 y1_0 y3
      rw [impl_filled.e1]
      simp only [impl_filled.l1, R.map_ite, R.map_bind, R.map_none, R.map_some, ← ih0, ← ih1]
theorem impl_filled.sf (k : Nat) (a0 : Int) : R.start Try.prog xhn impl_filled.O 0 Try.f107 impl_filled.fh k [.int .i64 a0, .clo 111 []] [] = (impl_filled.f k a0).map (impl_filled.en) := by
  obtain ⟨ih0, ih1⟩ := impl_filled.link k
  rw [impl_filled.ef]
  simp only [impl_filled.f, R.map_ite, R.map_bind, R.map_none, R.map_some, ← ih0, ← ih1]
theorem impl_filled.ok (k : Nat) : impl_filled.tw.Ok Try.prog k := by
  intro a r h
  refine fn_ok (H := xhn) (fh := impl_filled.fh) (O := impl_filled.O) (k := k) Try.func107 (by kernel_rfl) (by kernel_rfl) (fun j _ => (Tw.orc_sound impl_StepMatrix_1.dok (impl_StepMatrix_1.ok j) noO_sound)) (by kernel_rfl) (m := 0) rfl ?_
  refine (impl_filled.sf k a).trans ?_
  exact congrArg (Option.map _) h
def impl_StepMatrix.l0 : Nat → ByteArray → (List Stp) → Int → Int → Int → (List Int) → Option (Int × (List Int) × Bool)
  | 0, _, _, _, _, _, _ => none
  | k + 1, x1, x25, x26, x27, y1_0, y3 => (if x27 < x26 then (if 0 ≤ x27 then (if x27 < (x25.length : Int) then (if (rdT x25 x27).f1.toList = x1.toList then (if 0 ≤ (wrap64 ((wrap64 ((rdT x25 x27).f0 * y1_0)) + (rdT x25 x27).f2)) then (if (wrap64 ((wrap64 ((rdT x25 x27).f0 * y1_0)) + (rdT x25 x27).f2)) < (y3.length : Int) then (impl_StepMatrix.l0 k x1 x25 x26 (wrap64 (x27 + 1)) y1_0 (y3.set (wrap64 ((wrap64 ((rdT x25 x27).f0 * y1_0)) + (rdT x25 x27).f2)).toNat (rdT x25 x27).f3)) else none) else none) else (impl_StepMatrix.l0 k x1 x25 x26 (wrap64 (x27 + 1)) y1_0 y3)) else none) else none) else (some (y1_0, y3, true)))
def impl_StepMatrix.f (k : Nat) (a0_0 : Int) (l0_1 : List Int) (l0_2 : List Int) (l0_3 : List Stp) (a1 : ByteArray) : Option (Int × (List Int) × Bool) := ((impl_AutomatonValid.f k a0_0 l0_1 l0_2 l0_3).bind fun t1 => (if t1 = true then (if a1.toList = ([97] : List UInt8) then ((impl_filled.f k a0_0).bind fun t2 => (impl_StepMatrix.l0 k a1 l0_3 (l0_3.length : Int) 0 t2.1 t2.2)) else (if a1.toList = ([98] : List UInt8) then ((impl_filled.f k a0_0).bind fun t3 => (impl_StepMatrix.l0 k a1 l0_3 (l0_3.length : Int) 0 t3.1 t3.2)) else (some (0, ([] : List Int), false)))) else (some (0, ([] : List Int), false))))
def impl_StepMatrix.en (r : Int × (List Int) × Bool) : Res := (.tup [.agg [.int .i64 r.1, .sl 0 0], .lit r.2.2], [.arr 3 0 (.I .i64 r.2.1) false])
def impl_StepMatrix.dec : List AV → List R.Obj → Option (Int × (List Int) × (List Int) × (List Stp) × ByteArray)
  | [.agg [.int .i64 a0_0, .imm (.I .i64 l0_1), .imm (.I .i64 l0_2), .imm (.T l0_3)], .str a1], [] => some (a0_0, l0_1, l0_2, l0_3, a1)
  | _, _ => none
def impl_StepMatrix.tw : Tw := ⟨43, Int × (List Int) × (List Int) × (List Stp) × ByteArray, Int × (List Int) × Bool, impl_StepMatrix.dec, fun a => [.agg [.int .i64 a.1, .imm (.I .i64 a.2.1), .imm (.I .i64 a.2.2.1), .imm (.T a.2.2.2.1)], .str a.2.2.2.2], fun a => [], fun k a => impl_StepMatrix.f k a.1 a.2.1 a.2.2.1 a.2.2.2.1 a.2.2.2.2, fun a r => impl_StepMatrix.en r⟩
theorem impl_StepMatrix.dok : impl_StepMatrix.tw.DecOk := by
  intro args hc a h
  have h : impl_StepMatrix.dec args hc = some a := h
  unfold impl_StepMatrix.dec at h
  split at h
  · cases h; exact ⟨rfl, rfl⟩
  · cases h
noncomputable def impl_StepMatrix.O (k : Nat) : Oracle := (impl_AutomatonValid.tw.orc k (impl_filled.tw.orc k noO))
def impl_StepMatrix.fh : FH := ⟨fun i => match i with | 5 => some [(1, 0), (4, 0), (6, 0), (25, 0), (26, 0), (27, 0)] | _ => none, [(true, 3)], false⟩
noncomputable def impl_StepMatrix.x0 (k : Nat) (x1 : ByteArray) (x25 : List Stp) (x26 : Int) (x27 : Int) (y1_0 : Int) (y3 : List Int) : Option Res := R.exec Try.prog xhn impl_StepMatrix.O 0 Try.f43 impl_StepMatrix.fh k (R.point Try.f43 5) ⟨[(1, .str x1), (4, .ptr 0 0), (6, .ptr 1 0), (25, .imm (.T x25)), (26, .int .i64 x26), (27, .int .i64 x27)], [(0, .box false [.int .i64 0, .sl 2 0]), (1, .box false [.int .i64 y1_0, .sl 3 0]), (2, .arr 3 0 (.I .i64 ([] : List Int)) false), (3, .arr 3 0 (.I .i64 y3) false)], 6⟩
set_option maxRecDepth 100000 in
theorem impl_StepMatrix.e0 (k : Nat) (x1 : ByteArray) (x25 : List Stp) (x26 : Int) (x27 : Int) (y1_0 : Int) (y3 : List Int) : impl_StepMatrix.x0 (k + 1) x1 x25 x26 x27 y1_0 y3 = (if x27 < x26 then (if 0 ≤ x27 then (if x27 < (x25.length : Int) then (if (rdT x25 x27).f1.toList = x1.toList then (if 0 ≤ (wrap64 ((wrap64 ((rdT x25 x27).f0 * y1_0)) + (rdT x25 x27).f2)) then (if (wrap64 ((wrap64 ((rdT x25 x27).f0 * y1_0)) + (rdT x25 x27).f2)) < (y3.length : Int) then (impl_StepMatrix.x0 k x1 x25 x26 (wrap64 (x27 + 1)) y1_0 (y3.set (wrap64 ((wrap64 ((rdT x25 x27).f0 * y1_0)) + (rdT x25 x27).f2)).toNat (rdT x25 x27).f3)) else none) else none) else (impl_StepMatrix.x0 k x1 x25 x26 (wrap64 (x27 + 1)) y1_0 y3)) else none) else none) else (some (impl_StepMatrix.en (y1_0, y3, true)))) := by kernel_rfl
set_option maxRecDepth 100000 in
theorem impl_StepMatrix.ef (k : Nat) (a0_0 : Int) (l0_1 : List Int) (l0_2 : List Int) (l0_3 : List Stp) (a1 : ByteArray) : R.start Try.prog xhn impl_StepMatrix.O 0 Try.f43 impl_StepMatrix.fh k [.agg [.int .i64 a0_0, .imm (.I .i64 l0_1), .imm (.I .i64 l0_2), .imm (.T l0_3)], .str a1] [] = ((impl_AutomatonValid.f k a0_0 l0_1 l0_2 l0_3).bind fun t1 => (if t1 = true then (if a1.toList = ([97] : List UInt8) then ((impl_filled.f k a0_0).bind fun t2 => (impl_StepMatrix.x0 k a1 l0_3 (l0_3.length : Int) 0 t2.1 t2.2)) else (if a1.toList = ([98] : List UInt8) then ((impl_filled.f k a0_0).bind fun t3 => (impl_StepMatrix.x0 k a1 l0_3 (l0_3.length : Int) 0 t3.1 t3.2)) else (some (impl_StepMatrix.en (0, ([] : List Int), false))))) else (some (impl_StepMatrix.en (0, ([] : List Int), false))))) := by kernel_rfl
theorem impl_StepMatrix.link : ∀ k, (∀ (x1 : ByteArray) (x25 : List Stp) (x26 : Int) (x27 : Int) (y1_0 : Int) (y3 : List Int), impl_StepMatrix.x0 k x1 x25 x26 x27 y1_0 y3 = (impl_StepMatrix.l0 k x1 x25 x26 x27 y1_0 y3).map (impl_StepMatrix.en))
  | 0 => fun _ _ _ _ _ _ => by simp only [impl_StepMatrix.l0, R.map_none]; rfl
  | k + 1 => by
    have ih0 := impl_StepMatrix.link k
    · intro x1 x25 x26 x27 y1_0 y3
      rw [impl_StepMatrix.e0]
      simp only [impl_StepMatrix.l0, R.map_ite, R.map_bind, R.map_none, R.map_some, ← ih0]
theorem impl_StepMatrix.sf (k : Nat) (a0_0 : Int) (l0_1 : List Int) (l0_2 : List Int) (l0_3 : List Stp) (a1 : ByteArray) : R.start Try.prog xhn impl_StepMatrix.O 0 Try.f43 impl_StepMatrix.fh k [.agg [.int .i64 a0_0, .imm (.I .i64 l0_1), .imm (.I .i64 l0_2), .imm (.T l0_3)], .str a1] [] = (impl_StepMatrix.f k a0_0 l0_1 l0_2 l0_3 a1).map (impl_StepMatrix.en) := by
  have ih0 := impl_StepMatrix.link k
  rw [impl_StepMatrix.ef]
  simp only [impl_StepMatrix.f, R.map_ite, R.map_bind, R.map_none, R.map_some, ← ih0]
theorem impl_StepMatrix.ok (k : Nat) : impl_StepMatrix.tw.Ok Try.prog k := by
  intro a r h
  refine fn_ok (H := xhn) (fh := impl_StepMatrix.fh) (O := impl_StepMatrix.O) (k := k) Try.func43 (by kernel_rfl) (by kernel_rfl) (fun j _ => (Tw.orc_sound impl_AutomatonValid.dok (impl_AutomatonValid.ok j) (Tw.orc_sound impl_filled.dok (impl_filled.ok j) noO_sound))) (by kernel_rfl) (m := 0) rfl ?_
  refine (impl_StepMatrix.sf k a.1 a.2.1 a.2.2.1 a.2.2.2.1 a.2.2.2.2).trans ?_
  exact congrArg (Option.map _) h
def impl_CostValid.f (a0 : Int) : Option (Bool) := (if a0 ≥ 0 then (some (decide (a0 ≤ 1000000))) else (some false))
def impl_CostValid.en (r : Bool) : Res := (.lit r, [])
def impl_CostValid.dec : List AV → List R.Obj → Option (Int)
  | [.int .i64 a0], [] => some a0
  | _, _ => none
def impl_CostValid.tw : Tw := ⟨139, Int, Bool, impl_CostValid.dec, fun a => [.int .i64 a], fun a => [], fun k a => impl_CostValid.f a, fun a r => impl_CostValid.en r⟩
theorem impl_CostValid.dok : impl_CostValid.tw.DecOk := by
  intro args hc a h
  have h : impl_CostValid.dec args hc = some a := h
  unfold impl_CostValid.dec at h
  split at h
  · cases h; exact ⟨rfl, rfl⟩
  · cases h
noncomputable def impl_CostValid.O (k : Nat) : Oracle := noO
def impl_CostValid.fh : FH := ⟨fun i => match i with | _ => none, [], false⟩
set_option maxRecDepth 100000 in
theorem impl_CostValid.ef (k : Nat) (a0 : Int) : R.start Try.prog xhn impl_CostValid.O 0 Try.f139 impl_CostValid.fh k [.int .i64 a0] [] = (if a0 ≥ 0 then (some (impl_CostValid.en (decide (a0 ≤ 1000000)))) else (some (impl_CostValid.en false))) := by kernel_rfl
theorem impl_CostValid.sf (k : Nat) (a0 : Int) : R.start Try.prog xhn impl_CostValid.O 0 Try.f139 impl_CostValid.fh k [.int .i64 a0] [] = (impl_CostValid.f a0).map (impl_CostValid.en) := by
  rw [impl_CostValid.ef]
  simp only [impl_CostValid.f, R.map_ite, R.map_bind, R.map_none, R.map_some]
theorem impl_CostValid.ok (k : Nat) : impl_CostValid.tw.Ok Try.prog k := by
  intro a r h
  refine fn_ok (H := xhn) (fh := impl_CostValid.fh) (O := impl_CostValid.O) (k := k) Try.func139 (by kernel_rfl) (by kernel_rfl) (fun j _ => noO_sound) (by kernel_rfl) (m := 0) rfl ?_
  refine (impl_CostValid.sf k a).trans ?_
  exact congrArg (Option.map _) h
def impl_MatrixValid_1.f (a0 : Int) : Option (Bool) := ((impl_CostValid.f a0).bind fun t1 => (some (!decide (t1 = true))))
def impl_MatrixValid_1.en (r : Bool) : Res := (.lit r, [])
def impl_MatrixValid_1.dec : List AV → List R.Obj → Option (Int)
  | [.int .i64 a0], [] => some a0
  | _, _ => none
def impl_MatrixValid_1.tw : Tw := ⟨163, Int, Bool, impl_MatrixValid_1.dec, fun a => [.int .i64 a], fun a => [], fun k a => impl_MatrixValid_1.f a, fun a r => impl_MatrixValid_1.en r⟩
theorem impl_MatrixValid_1.dok : impl_MatrixValid_1.tw.DecOk := by
  intro args hc a h
  have h : impl_MatrixValid_1.dec args hc = some a := h
  unfold impl_MatrixValid_1.dec at h
  split at h
  · cases h; exact ⟨rfl, rfl⟩
  · cases h
noncomputable def impl_MatrixValid_1.O (k : Nat) : Oracle := (impl_CostValid.tw.orc k noO)
def impl_MatrixValid_1.fh : FH := ⟨fun i => match i with | _ => none, [], false⟩
set_option maxRecDepth 100000 in
theorem impl_MatrixValid_1.ef (k : Nat) (a0 : Int) : R.start Try.prog xhn impl_MatrixValid_1.O 0 Try.f163 impl_MatrixValid_1.fh k [.int .i64 a0] [] = ((impl_CostValid.f a0).bind fun t1 => (some (impl_MatrixValid_1.en (!decide (t1 = true))))) := by kernel_rfl
theorem impl_MatrixValid_1.sf (k : Nat) (a0 : Int) : R.start Try.prog xhn impl_MatrixValid_1.O 0 Try.f163 impl_MatrixValid_1.fh k [.int .i64 a0] [] = (impl_MatrixValid_1.f a0).map (impl_MatrixValid_1.en) := by
  rw [impl_MatrixValid_1.ef]
  simp only [impl_MatrixValid_1.f, R.map_ite, R.map_bind, R.map_none, R.map_some]
theorem impl_MatrixValid_1.ok (k : Nat) : impl_MatrixValid_1.tw.Ok Try.prog k := by
  intro a r h
  refine fn_ok (H := xhn) (fh := impl_MatrixValid_1.fh) (O := impl_MatrixValid_1.O) (k := k) Try.func163 (by kernel_rfl) (by kernel_rfl) (fun j _ => (Tw.orc_sound impl_CostValid.dok (impl_CostValid.ok j) noO_sound)) (by kernel_rfl) (m := 0) rfl ?_
  refine (impl_MatrixValid_1.sf k a).trans ?_
  exact congrArg (Option.map _) h
def slices_IndexFunc_int_int.l0 : Nat → (List Int) → Int → Int → Option (Int)
  | 0, _, _, _ => none
  | k + 1, x0, x7, x8 => (if x8 < x7 then (if 0 ≤ x8 then (if x8 < (x0.length : Int) then ((impl_MatrixValid_1.f (rdI x0 x8)).bind fun t1 => (if t1 = true then (some x8) else (slices_IndexFunc_int_int.l0 k x0 x7 (wrap64 (x8 + 1))))) else none) else none) else (some (-1)))
def slices_IndexFunc_int_int.f (k : Nat) (l0 : List Int) : Option (Int) := (slices_IndexFunc_int_int.l0 k l0 (l0.length : Int) 0)
def slices_IndexFunc_int_int.en (r : Int) : Res := (.int .i64 r, [])
def slices_IndexFunc_int_int.dec : List AV → List R.Obj → Option (List Int)
  | [.imm (.I .i64 l0), .clo 163 []], [] => some l0
  | _, _ => none
def slices_IndexFunc_int_int.tw : Tw := ⟨164, List Int, Int, slices_IndexFunc_int_int.dec, fun a => [.imm (.I .i64 a), .clo 163 []], fun a => [], fun k a => slices_IndexFunc_int_int.f k a, fun a r => slices_IndexFunc_int_int.en r⟩
theorem slices_IndexFunc_int_int.dok : slices_IndexFunc_int_int.tw.DecOk := by
  intro args hc a h
  have h : slices_IndexFunc_int_int.dec args hc = some a := h
  unfold slices_IndexFunc_int_int.dec at h
  split at h
  · cases h; exact ⟨rfl, rfl⟩
  · cases h
noncomputable def slices_IndexFunc_int_int.O (k : Nat) : Oracle := (impl_MatrixValid_1.tw.orc k noO)
def slices_IndexFunc_int_int.fh : FH := ⟨fun i => match i with | 2 => some [(0, 0), (1, 0), (7, 0), (8, 0)] | _ => none, [], false⟩
noncomputable def slices_IndexFunc_int_int.x0 (k : Nat) (x0 : List Int) (x7 : Int) (x8 : Int) : Option Res := R.exec Try.prog xhn slices_IndexFunc_int_int.O 0 Try.f164 slices_IndexFunc_int_int.fh k (R.point Try.f164 2) ⟨[(0, .imm (.I .i64 x0)), (1, .clo 163 []), (7, .int .i64 x7), (8, .int .i64 x8)], [], 2⟩
set_option maxRecDepth 100000 in
theorem slices_IndexFunc_int_int.e0 (k : Nat) (x0 : List Int) (x7 : Int) (x8 : Int) : slices_IndexFunc_int_int.x0 (k + 1) x0 x7 x8 = (if x8 < x7 then (if 0 ≤ x8 then (if x8 < (x0.length : Int) then ((impl_MatrixValid_1.f (rdI x0 x8)).bind fun t1 => (if t1 = true then (some (slices_IndexFunc_int_int.en x8)) else (slices_IndexFunc_int_int.x0 k x0 x7 (wrap64 (x8 + 1))))) else none) else none) else (some (slices_IndexFunc_int_int.en (-1)))) := by kernel_rfl
set_option maxRecDepth 100000 in
theorem slices_IndexFunc_int_int.ef (k : Nat) (l0 : List Int) : R.start Try.prog xhn slices_IndexFunc_int_int.O 0 Try.f164 slices_IndexFunc_int_int.fh k [.imm (.I .i64 l0), .clo 163 []] [] = (slices_IndexFunc_int_int.x0 k l0 (l0.length : Int) 0) := by kernel_rfl
theorem slices_IndexFunc_int_int.link : ∀ k, (∀ (x0 : List Int) (x7 : Int) (x8 : Int), slices_IndexFunc_int_int.x0 k x0 x7 x8 = (slices_IndexFunc_int_int.l0 k x0 x7 x8).map (slices_IndexFunc_int_int.en))
  | 0 => fun _ _ _ => by simp only [slices_IndexFunc_int_int.l0, R.map_none]; rfl
  | k + 1 => by
    have ih0 := slices_IndexFunc_int_int.link k
    · intro x0 x7 x8
      rw [slices_IndexFunc_int_int.e0]
      simp only [slices_IndexFunc_int_int.l0, R.map_ite, R.map_bind, R.map_none, R.map_some, ← ih0]
theorem slices_IndexFunc_int_int.sf (k : Nat) (l0 : List Int) : R.start Try.prog xhn slices_IndexFunc_int_int.O 0 Try.f164 slices_IndexFunc_int_int.fh k [.imm (.I .i64 l0), .clo 163 []] [] = (slices_IndexFunc_int_int.f k l0).map (slices_IndexFunc_int_int.en) := by
  have ih0 := slices_IndexFunc_int_int.link k
  rw [slices_IndexFunc_int_int.ef]
  simp only [slices_IndexFunc_int_int.f, R.map_ite, R.map_bind, R.map_none, R.map_some, ← ih0]
theorem slices_IndexFunc_int_int.ok (k : Nat) : slices_IndexFunc_int_int.tw.Ok Try.prog k := by
  intro a r h
  refine fn_ok (H := xhn) (fh := slices_IndexFunc_int_int.fh) (O := slices_IndexFunc_int_int.O) (k := k) Try.func164 (by kernel_rfl) (by kernel_rfl) (fun j _ => (Tw.orc_sound impl_MatrixValid_1.dok (impl_MatrixValid_1.ok j) noO_sound)) (by kernel_rfl) (m := 0) rfl ?_
  refine (slices_IndexFunc_int_int.sf k a).trans ?_
  exact congrArg (Option.map _) h
def slices_ContainsFunc_int_int.f (k : Nat) (l0 : List Int) : Option (Bool) := ((slices_IndexFunc_int_int.f k l0).bind fun t1 => (some (decide (t1 ≥ 0))))
def slices_ContainsFunc_int_int.en (r : Bool) : Res := (.lit r, [])
def slices_ContainsFunc_int_int.dec : List AV → List R.Obj → Option (List Int)
  | [.imm (.I .i64 l0), .clo 163 []], [] => some l0
  | _, _ => none
def slices_ContainsFunc_int_int.tw : Tw := ⟨113, List Int, Bool, slices_ContainsFunc_int_int.dec, fun a => [.imm (.I .i64 a), .clo 163 []], fun a => [], fun k a => slices_ContainsFunc_int_int.f k a, fun a r => slices_ContainsFunc_int_int.en r⟩
theorem slices_ContainsFunc_int_int.dok : slices_ContainsFunc_int_int.tw.DecOk := by
  intro args hc a h
  have h : slices_ContainsFunc_int_int.dec args hc = some a := h
  unfold slices_ContainsFunc_int_int.dec at h
  split at h
  · cases h; exact ⟨rfl, rfl⟩
  · cases h
noncomputable def slices_ContainsFunc_int_int.O (k : Nat) : Oracle := (slices_IndexFunc_int_int.tw.orc k noO)
def slices_ContainsFunc_int_int.fh : FH := ⟨fun i => match i with | _ => none, [], false⟩
set_option maxRecDepth 100000 in
theorem slices_ContainsFunc_int_int.ef (k : Nat) (l0 : List Int) : R.start Try.prog xhn slices_ContainsFunc_int_int.O 0 Try.f113 slices_ContainsFunc_int_int.fh k [.imm (.I .i64 l0), .clo 163 []] [] = ((slices_IndexFunc_int_int.f k l0).bind fun t1 => (some (slices_ContainsFunc_int_int.en (decide (t1 ≥ 0))))) := by kernel_rfl
theorem slices_ContainsFunc_int_int.sf (k : Nat) (l0 : List Int) : R.start Try.prog xhn slices_ContainsFunc_int_int.O 0 Try.f113 slices_ContainsFunc_int_int.fh k [.imm (.I .i64 l0), .clo 163 []] [] = (slices_ContainsFunc_int_int.f k l0).map (slices_ContainsFunc_int_int.en) := by
  rw [slices_ContainsFunc_int_int.ef]
  simp only [slices_ContainsFunc_int_int.f, R.map_ite, R.map_bind, R.map_none, R.map_some]
theorem slices_ContainsFunc_int_int.ok (k : Nat) : slices_ContainsFunc_int_int.tw.Ok Try.prog k := by
  intro a r h
  refine fn_ok (H := xhn) (fh := slices_ContainsFunc_int_int.fh) (O := slices_ContainsFunc_int_int.O) (k := k) Try.func113 (by kernel_rfl) (by kernel_rfl) (fun j _ => (Tw.orc_sound slices_IndexFunc_int_int.dok (slices_IndexFunc_int_int.ok j) noO_sound)) (by kernel_rfl) (m := 0) rfl ?_
  refine (slices_ContainsFunc_int_int.sf k a).trans ?_
  exact congrArg (Option.map _) h
def impl_MatrixValid.f (k : Nat) (a0_0 : Int) (l0_1 : List Int) : Option (Bool) := (if a0_0 < 1 then (some false) else (if a0_0 > 4 then (some false) else (if (l0_1.length : Int) = (wrap64 (a0_0 * a0_0)) then ((slices_ContainsFunc_int_int.f k l0_1).bind fun t1 => (some (!decide (t1 = true)))) else (some false))))
def impl_MatrixValid.en (r : Bool) : Res := (.lit r, [])
def impl_MatrixValid.dec : List AV → List R.Obj → Option (Int × (List Int))
  | [.agg [.int .i64 a0_0, .imm (.I .i64 l0_1)]], [] => some (a0_0, l0_1)
  | _, _ => none
def impl_MatrixValid.tw : Tw := ⟨106, Int × (List Int), Bool, impl_MatrixValid.dec, fun a => [.agg [.int .i64 a.1, .imm (.I .i64 a.2)]], fun a => [], fun k a => impl_MatrixValid.f k a.1 a.2, fun a r => impl_MatrixValid.en r⟩
theorem impl_MatrixValid.dok : impl_MatrixValid.tw.DecOk := by
  intro args hc a h
  have h : impl_MatrixValid.dec args hc = some a := h
  unfold impl_MatrixValid.dec at h
  split at h
  · cases h; exact ⟨rfl, rfl⟩
  · cases h
noncomputable def impl_MatrixValid.O (k : Nat) : Oracle := (slices_ContainsFunc_int_int.tw.orc k noO)
def impl_MatrixValid.fh : FH := ⟨fun i => match i with | _ => none, [], false⟩
set_option maxRecDepth 100000 in
theorem impl_MatrixValid.ef (k : Nat) (a0_0 : Int) (l0_1 : List Int) : R.start Try.prog xhn impl_MatrixValid.O 0 Try.f106 impl_MatrixValid.fh k [.agg [.int .i64 a0_0, .imm (.I .i64 l0_1)]] [] = (if a0_0 < 1 then (some (impl_MatrixValid.en false)) else (if a0_0 > 4 then (some (impl_MatrixValid.en false)) else (if (l0_1.length : Int) = (wrap64 (a0_0 * a0_0)) then ((slices_ContainsFunc_int_int.f k l0_1).bind fun t1 => (some (impl_MatrixValid.en (!decide (t1 = true))))) else (some (impl_MatrixValid.en false))))) := by kernel_rfl
theorem impl_MatrixValid.sf (k : Nat) (a0_0 : Int) (l0_1 : List Int) : R.start Try.prog xhn impl_MatrixValid.O 0 Try.f106 impl_MatrixValid.fh k [.agg [.int .i64 a0_0, .imm (.I .i64 l0_1)]] [] = (impl_MatrixValid.f k a0_0 l0_1).map (impl_MatrixValid.en) := by
  rw [impl_MatrixValid.ef]
  simp only [impl_MatrixValid.f, R.map_ite, R.map_bind, R.map_none, R.map_some]
theorem impl_MatrixValid.ok (k : Nat) : impl_MatrixValid.tw.Ok Try.prog k := by
  intro a r h
  refine fn_ok (H := xhn) (fh := impl_MatrixValid.fh) (O := impl_MatrixValid.O) (k := k) Try.func106 (by kernel_rfl) (by kernel_rfl) (fun j _ => (Tw.orc_sound slices_ContainsFunc_int_int.dok (slices_ContainsFunc_int_int.ok j) noO_sound)) (by kernel_rfl) (m := 0) rfl ?_
  refine (impl_MatrixValid.sf k a.1 a.2).trans ?_
  exact congrArg (Option.map _) h
def impl_Matrix_at.f (a0_0 : Int) (l0_1 : List Int) (a1 : Int) (a2 : Int) : Option (Int) := (if 0 ≤ (wrap64 ((wrap64 (a1 * a0_0)) + a2)) then (if (wrap64 ((wrap64 (a1 * a0_0)) + a2)) < (l0_1.length : Int) then (some (rdI l0_1 (wrap64 ((wrap64 (a1 * a0_0)) + a2)))) else none) else none)
def impl_Matrix_at.en (r : Int) : Res := (.int .i64 r, [])
def impl_Matrix_at.dec : List AV → List R.Obj → Option (Int × (List Int) × Int × Int)
  | [.agg [.int .i64 a0_0, .imm (.I .i64 l0_1)], .int .i64 a1, .int .i64 a2], [] => some (a0_0, l0_1, a1, a2)
  | _, _ => none
def impl_Matrix_at.tw : Tw := ⟨109, Int × (List Int) × Int × Int, Int, impl_Matrix_at.dec, fun a => [.agg [.int .i64 a.1, .imm (.I .i64 a.2.1)], .int .i64 a.2.2.1, .int .i64 a.2.2.2], fun a => [], fun k a => impl_Matrix_at.f a.1 a.2.1 a.2.2.1 a.2.2.2, fun a r => impl_Matrix_at.en r⟩
theorem impl_Matrix_at.dok : impl_Matrix_at.tw.DecOk := by
  intro args hc a h
  have h : impl_Matrix_at.dec args hc = some a := h
  unfold impl_Matrix_at.dec at h
  split at h
  · cases h; exact ⟨rfl, rfl⟩
  · cases h
noncomputable def impl_Matrix_at.O (k : Nat) : Oracle := noO
def impl_Matrix_at.fh : FH := ⟨fun i => match i with | _ => none, [], false⟩
set_option maxRecDepth 100000 in
theorem impl_Matrix_at.ef (k : Nat) (a0_0 : Int) (l0_1 : List Int) (a1 : Int) (a2 : Int) : R.start Try.prog xhn impl_Matrix_at.O 0 Try.f109 impl_Matrix_at.fh k [.agg [.int .i64 a0_0, .imm (.I .i64 l0_1)], .int .i64 a1, .int .i64 a2] [] = (if 0 ≤ (wrap64 ((wrap64 (a1 * a0_0)) + a2)) then (if (wrap64 ((wrap64 (a1 * a0_0)) + a2)) < (l0_1.length : Int) then (some (impl_Matrix_at.en (rdI l0_1 (wrap64 ((wrap64 (a1 * a0_0)) + a2))))) else none) else none) := by kernel_rfl
theorem impl_Matrix_at.sf (k : Nat) (a0_0 : Int) (l0_1 : List Int) (a1 : Int) (a2 : Int) : R.start Try.prog xhn impl_Matrix_at.O 0 Try.f109 impl_Matrix_at.fh k [.agg [.int .i64 a0_0, .imm (.I .i64 l0_1)], .int .i64 a1, .int .i64 a2] [] = (impl_Matrix_at.f a0_0 l0_1 a1 a2).map (impl_Matrix_at.en) := by
  rw [impl_Matrix_at.ef]
  simp only [impl_Matrix_at.f, R.map_ite, R.map_bind, R.map_none, R.map_some]
theorem impl_Matrix_at.ok (k : Nat) : impl_Matrix_at.tw.Ok Try.prog k := by
  intro a r h
  refine fn_ok (H := xhn) (fh := impl_Matrix_at.fh) (O := impl_Matrix_at.O) (k := k) Try.func109 (by kernel_rfl) (by kernel_rfl) (fun j _ => noO_sound) (by kernel_rfl) (m := 0) rfl ?_
  refine (impl_Matrix_at.sf k a.1 a.2.1 a.2.2.1 a.2.2.2).trans ?_
  exact congrArg (Option.map _) h
end Go.Proofs.Ytaaajdlgmllhaaa.V
end
