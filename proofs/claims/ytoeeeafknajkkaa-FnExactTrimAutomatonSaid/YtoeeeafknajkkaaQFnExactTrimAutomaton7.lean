import Derived.Test.YtoeeeafknajkkaaQFnExactTrimAutomaton6
import Derived.Test.YtoeeeafknajkkaaQFnExactTrimAutomaton2
import Derived.Test.YtoeeeafknajkkaaProg
import Derived.WalkKit
import Derived.ProofKit
import Derived.Lib.Bytealg
import Derived.Test.YtoeeeafknajkkaaQFnExactTrimAutomaton4
section
set_option linter.unusedVariables false
set_option linter.unusedSimpArgs false
namespace Go.Proofs.Ytoeeeafknajkkaa.V
open Go Go.Proofs.Ytoeeeafknajkkaa.R Go.RowKit
def laws_heldIntS.l0 : Nat → (List Int) → Int → Int → Option (Int)
  | 0, _, _, _ => none
  | k + 1, x0, x1, x5 => (if x5 < (x0.length : Int) then (if 0 ≤ x5 then (if (rdI x0 x5) = x1 then (laws_heldIntS.l0 k x0 (wrap64 (x1 + 1)) (wrap64 (x5 + 1))) else (some (-1))) else none) else (some x1))
def laws_heldIntS.f (k : Nat) (l0 : List Int) (a1 : Int) : Option (Int) := (laws_heldIntS.l0 k l0 a1 0)
def laws_heldIntS.en (r : Int) : Res := (.int .i64 r, [])
def laws_heldIntS.dec : List AV → List R.Obj → Option ((List Int) × Int)
  | [.imm (.I .i64 l0), .int .i64 a1], [] => some (l0, a1)
  | _, _ => none
def laws_heldIntS.tw : Tw := ⟨36, (List Int) × Int, Int, laws_heldIntS.dec, fun a => [.imm (.I .i64 a.1), .int .i64 a.2], fun a => [], fun k a => laws_heldIntS.f k a.1 a.2, fun a r => laws_heldIntS.en r, true⟩
theorem laws_heldIntS.dok : laws_heldIntS.tw.DecOk := by
  intro args hc a h
  have h : laws_heldIntS.dec args hc = some a := h
  unfold laws_heldIntS.dec at h
  split at h
  · cases h; exact ⟨rfl, rfl⟩
  · cases h
noncomputable def laws_heldIntS.O (k : Nat) : Oracle := noO
def laws_heldIntS.fh : FH := ⟨fun i => match i with | 2 => some [(0, 0), (1, 0), (5, 0)] | _ => none, [], false⟩
noncomputable def laws_heldIntS.x0 (k : Nat) (x0 : List Int) (x1 : Int) (x5 : Int) : Option Res := R.exec Try.prog xhn laws_heldIntS.O 0 Try.f36 laws_heldIntS.fh k (R.point Try.f36 2) ⟨[(0, .imm (.I .i64 x0)), (1, .int .i64 x1), (5, .int .i64 x5)], [], 2⟩
set_option maxRecDepth 100000 in
theorem laws_heldIntS.e0 (k : Nat) (x0 : List Int) (x1 : Int) (x5 : Int) : laws_heldIntS.x0 (k + 1) x0 x1 x5 = (if x5 < (x0.length : Int) then (if 0 ≤ x5 then (if (rdI x0 x5) = x1 then (laws_heldIntS.x0 k x0 (wr64 (x1 + 1)) (wr64 (x5 + 1))) else (some (laws_heldIntS.en (-1)))) else none) else (some (laws_heldIntS.en x1))) := by
  refine Eq.trans ?_ (R.icong (fun h0 => (R.icong (fun h1 => (R.idropT (p := x5 < (x0.length : Int)) (z := none) h0 rfl)) (fun h1 => rfl))) (fun h0 => rfl))
  kernel_rfl
set_option maxRecDepth 100000 in
theorem laws_heldIntS.ef (k : Nat) (l0 : List Int) (a1 : Int) : R.start Try.prog xhn laws_heldIntS.O 0 Try.f36 laws_heldIntS.fh k [.imm (.I .i64 l0), .int .i64 a1] [] = (laws_heldIntS.x0 k l0 a1 0) := by kernel_rfl
theorem laws_heldIntS.link : ∀ k, (∀ (x0 : List Int) (x1 : Int) (x5 : Int), laws_heldIntS.x0 k x0 x1 x5 = (laws_heldIntS.l0 k x0 x1 x5).map (laws_heldIntS.en))
  | 0 => fun _ _ _ => by simp only [laws_heldIntS.l0, R.map_none]; rfl
  | k + 1 => by
    have ih0 := laws_heldIntS.link k
    · intro x0 x1 x5
      rw [laws_heldIntS.e0]
      simp only [laws_heldIntS.l0, R.map_ite, R.map_bind, R.map_none, R.map_some, R.wr64_eq, ← ih0]
theorem laws_heldIntS.sf (k : Nat) (l0 : List Int) (a1 : Int) : R.start Try.prog xhn laws_heldIntS.O 0 Try.f36 laws_heldIntS.fh k [.imm (.I .i64 l0), .int .i64 a1] [] = (laws_heldIntS.f k l0 a1).map (laws_heldIntS.en) := by
  have ih0 := laws_heldIntS.link k
  rw [laws_heldIntS.ef]
  simp only [laws_heldIntS.f, R.map_ite, R.map_bind, R.map_none, R.map_some, R.wr64_eq, ← ih0]
theorem laws_heldIntS.ok (k : Nat) : laws_heldIntS.tw.Ok Try.prog k := by
  intro md hmd a r h
  refine fn_ok (H := xhn) (fh := laws_heldIntS.fh) (O := laws_heldIntS.O) (k := k) Try.func36 (by kernel_rfl) (by kernel_rfl) (fun j _ => noO_sound) (by kernel_rfl) (m := 0) rfl ?_
  refine (laws_heldIntS.sf k a.1 a.2).trans ?_
  exact congrArg (Option.map _) h
def laws_heldStepS.l0 : Nat → (List Stp) → Int → Int → Option (Int)
  | 0, _, _, _ => none
  | k + 1, x0, x1, x5 => (if x5 < (x0.length : Int) then (if 0 ≤ x5 then (if (rdT x0 x5).f0 = x1 then ((laws_markText.f k (wrap64 (x1 + 1))).bind fun t1 => (if (rdT x0 x5).f1.toList = t1.toList then (if (rdT x0 x5).f2 = (wrap64 ((wrap64 (x1 + 1)) + 1)) then (if (rdT x0 x5).f3 = (wrap64 ((wrap64 ((wrap64 (x1 + 1)) + 1)) + 1)) then (laws_heldStepS.l0 k x0 (wrap64 ((wrap64 ((wrap64 ((wrap64 (x1 + 1)) + 1)) + 1)) + 1)) (wrap64 (x5 + 1))) else (some (-1))) else (some (-1))) else (some (-1)))) else (some (-1))) else none) else (some x1))
def laws_heldStepS.f (k : Nat) (l0 : List Stp) (a1 : Int) : Option (Int) := (laws_heldStepS.l0 k l0 a1 0)
def laws_heldStepS.en (r : Int) : Res := (.int .i64 r, [])
def laws_heldStepS.dec : List AV → List R.Obj → Option ((List Stp) × Int)
  | [.imm (.T l0), .int .i64 a1], [] => some (l0, a1)
  | _, _ => none
def laws_heldStepS.tw : Tw := ⟨68, (List Stp) × Int, Int, laws_heldStepS.dec, fun a => [.imm (.T a.1), .int .i64 a.2], fun a => [], fun k a => laws_heldStepS.f k a.1 a.2, fun a r => laws_heldStepS.en r, true⟩
theorem laws_heldStepS.dok : laws_heldStepS.tw.DecOk := by
  intro args hc a h
  have h : laws_heldStepS.dec args hc = some a := h
  unfold laws_heldStepS.dec at h
  split at h
  · cases h; exact ⟨rfl, rfl⟩
  · cases h
noncomputable def laws_heldStepS.O (k : Nat) : Oracle := (laws_markText.tw.orc k noO)
def laws_heldStepS.fh : FH := ⟨fun i => match i with | 2 => some [(0, 0), (1, 0), (5, 0)] | _ => none, [], false⟩
noncomputable def laws_heldStepS.x0 (k : Nat) (x0 : List Stp) (x1 : Int) (x5 : Int) : Option Res := R.exec Try.prog xhn laws_heldStepS.O 0 Try.f68 laws_heldStepS.fh k (R.point Try.f68 2) ⟨[(0, .imm (.T x0)), (1, .int .i64 x1), (5, .int .i64 x5)], [], 2⟩
set_option maxRecDepth 100000 in
theorem laws_heldStepS.e0 (k : Nat) (x0 : List Stp) (x1 : Int) (x5 : Int) : laws_heldStepS.x0 (k + 1) x0 x1 x5 = (if x5 < (x0.length : Int) then (if 0 ≤ x5 then (if (rdT x0 x5).f0 = x1 then ((laws_markText.f k (wr64 (x1 + 1))).bind fun t1 => (if (rdT x0 x5).f1.toList = t1.toList then (if (rdT x0 x5).f2 = (wr64 ((wr64 (x1 + 1)) + 1)) then (if (rdT x0 x5).f3 = (wr64 ((wr64 ((wr64 (x1 + 1)) + 1)) + 1)) then (laws_heldStepS.x0 k x0 (wr64 ((wr64 ((wr64 ((wr64 (x1 + 1)) + 1)) + 1)) + 1)) (wr64 (x5 + 1))) else (some (laws_heldStepS.en (-1)))) else (some (laws_heldStepS.en (-1)))) else (some (laws_heldStepS.en (-1))))) else (some (laws_heldStepS.en (-1)))) else none) else (some (laws_heldStepS.en x1))) := by
  refine Eq.trans ?_ (R.icong (fun h0 => (R.icong (fun h1 => (R.idropT (p := x5 < (x0.length : Int)) (z := none) h0 (R.icong (fun h2 => (R.idropT (p := 0 ≤ x5) (z := none) h1 (R.idropT (p := x5 < (x0.length : Int)) (z := none) h0 (R.bcong fun t1 => (R.icong (fun h3 => (R.idropT (p := 0 ≤ x5) (z := none) h1 (R.idropT (p := x5 < (x0.length : Int)) (z := none) h0 (R.icong (fun h4 => (R.idropT (p := 0 ≤ x5) (z := none) h1 (R.idropT (p := x5 < (x0.length : Int)) (z := none) h0 rfl))) (fun h4 => rfl))))) (fun h3 => rfl)))))) (fun h2 => rfl)))) (fun h1 => rfl))) (fun h0 => rfl))
  kernel_rfl
set_option maxRecDepth 100000 in
theorem laws_heldStepS.ef (k : Nat) (l0 : List Stp) (a1 : Int) : R.start Try.prog xhn laws_heldStepS.O 0 Try.f68 laws_heldStepS.fh k [.imm (.T l0), .int .i64 a1] [] = (laws_heldStepS.x0 k l0 a1 0) := by kernel_rfl
theorem laws_heldStepS.link : ∀ k, (∀ (x0 : List Stp) (x1 : Int) (x5 : Int), laws_heldStepS.x0 k x0 x1 x5 = (laws_heldStepS.l0 k x0 x1 x5).map (laws_heldStepS.en))
  | 0 => fun _ _ _ => by simp only [laws_heldStepS.l0, R.map_none]; rfl
  | k + 1 => by
    have ih0 := laws_heldStepS.link k
    · intro x0 x1 x5
      rw [laws_heldStepS.e0]
      simp only [laws_heldStepS.l0, R.map_ite, R.map_bind, R.map_none, R.map_some, R.wr64_eq, ← ih0]
theorem laws_heldStepS.sf (k : Nat) (l0 : List Stp) (a1 : Int) : R.start Try.prog xhn laws_heldStepS.O 0 Try.f68 laws_heldStepS.fh k [.imm (.T l0), .int .i64 a1] [] = (laws_heldStepS.f k l0 a1).map (laws_heldStepS.en) := by
  have ih0 := laws_heldStepS.link k
  rw [laws_heldStepS.ef]
  simp only [laws_heldStepS.f, R.map_ite, R.map_bind, R.map_none, R.map_some, R.wr64_eq, ← ih0]
theorem laws_heldStepS.ok (k : Nat) : laws_heldStepS.tw.Ok Try.prog k := by
  intro md hmd a r h
  refine fn_ok (H := xhn) (fh := laws_heldStepS.fh) (O := laws_heldStepS.O) (k := k) Try.func68 (by kernel_rfl) (by kernel_rfl) (fun j _ => (Tw.orc_sound laws_markText.dok (laws_markText.ok j) (fun _ => rfl) noO_sound)) (by kernel_rfl) (m := 0) rfl ?_
  refine (laws_heldStepS.sf k a.1 a.2).trans ?_
  exact congrArg (Option.map _) h
def laws_heldAutomaton.f (k : Nat) (a0_0 : Int) (l0_1 : List Int) (l0_2 : List Int) (l0_3 : List Stp) (a1 : Int) : Option (Int) := ((laws_heldIntS.f k l0_1 a1).bind fun t1 => (if t1 < 0 then (some (-1)) else ((laws_heldIntS.f k l0_2 t1).bind fun t2 => (if t2 < 0 then (some (-1)) else ((laws_heldStepS.f k l0_3 t2).bind fun t3 => (if t3 < 0 then (some (-1)) else (some t3)))))))
def laws_heldAutomaton.en (r : Int) : Res := (.int .i64 r, [])
def laws_heldAutomaton.dec : List AV → List R.Obj → Option (Int × (List Int) × (List Int) × (List Stp) × Int)
  | [.agg [.int .i64 a0_0, .imm (.I .i64 l0_1), .imm (.I .i64 l0_2), .imm (.T l0_3)], .int .i64 a1], [] => some (a0_0, l0_1, l0_2, l0_3, a1)
  | _, _ => none
def laws_heldAutomaton.tw : Tw := ⟨21, Int × (List Int) × (List Int) × (List Stp) × Int, Int, laws_heldAutomaton.dec, fun a => [.agg [.int .i64 a.1, .imm (.I .i64 a.2.1), .imm (.I .i64 a.2.2.1), .imm (.T a.2.2.2.1)], .int .i64 a.2.2.2.2], fun a => [], fun k a => laws_heldAutomaton.f k a.1 a.2.1 a.2.2.1 a.2.2.2.1 a.2.2.2.2, fun a r => laws_heldAutomaton.en r, true⟩
theorem laws_heldAutomaton.dok : laws_heldAutomaton.tw.DecOk := by
  intro args hc a h
  have h : laws_heldAutomaton.dec args hc = some a := h
  unfold laws_heldAutomaton.dec at h
  split at h
  · cases h; exact ⟨rfl, rfl⟩
  · cases h
noncomputable def laws_heldAutomaton.O (k : Nat) : Oracle := (laws_heldIntS.tw.orc k (laws_heldStepS.tw.orc k noO))
def laws_heldAutomaton.fh : FH := ⟨fun i => match i with | _ => none, [], false⟩
set_option maxRecDepth 100000 in
theorem laws_heldAutomaton.ef (k : Nat) (a0_0 : Int) (l0_1 : List Int) (l0_2 : List Int) (l0_3 : List Stp) (a1 : Int) : R.start Try.prog xhn laws_heldAutomaton.O 0 Try.f21 laws_heldAutomaton.fh k [.agg [.int .i64 a0_0, .imm (.I .i64 l0_1), .imm (.I .i64 l0_2), .imm (.T l0_3)], .int .i64 a1] [] = ((laws_heldIntS.f k l0_1 a1).bind fun t1 => (if t1 < 0 then (some (laws_heldAutomaton.en (-1))) else ((laws_heldIntS.f k l0_2 t1).bind fun t2 => (if t2 < 0 then (some (laws_heldAutomaton.en (-1))) else ((laws_heldStepS.f k l0_3 t2).bind fun t3 => (if t3 < 0 then (some (laws_heldAutomaton.en (-1))) else (some (laws_heldAutomaton.en t3)))))))) := by kernel_rfl
theorem laws_heldAutomaton.sf (k : Nat) (a0_0 : Int) (l0_1 : List Int) (l0_2 : List Int) (l0_3 : List Stp) (a1 : Int) : R.start Try.prog xhn laws_heldAutomaton.O 0 Try.f21 laws_heldAutomaton.fh k [.agg [.int .i64 a0_0, .imm (.I .i64 l0_1), .imm (.I .i64 l0_2), .imm (.T l0_3)], .int .i64 a1] [] = (laws_heldAutomaton.f k a0_0 l0_1 l0_2 l0_3 a1).map (laws_heldAutomaton.en) := by
  rw [laws_heldAutomaton.ef]
  simp only [laws_heldAutomaton.f, R.map_ite, R.map_bind, R.map_none, R.map_some, R.wr64_eq]
theorem laws_heldAutomaton.ok (k : Nat) : laws_heldAutomaton.tw.Ok Try.prog k := by
  intro md hmd a r h
  refine fn_ok (H := xhn) (fh := laws_heldAutomaton.fh) (O := laws_heldAutomaton.O) (k := k) Try.func21 (by kernel_rfl) (by kernel_rfl) (fun j _ => (Tw.orc_sound laws_heldIntS.dok (laws_heldIntS.ok j) (fun _ => rfl) (Tw.orc_sound laws_heldStepS.dok (laws_heldStepS.ok j) (fun _ => rfl) noO_sound))) (by kernel_rfl) (m := 0) rfl ?_
  refine (laws_heldAutomaton.sf k a.1 a.2.1 a.2.2.1 a.2.2.2.1 a.2.2.2.2).trans ?_
  exact congrArg (Option.map _) h
def laws_FnExactTrimAutomaton.f (k : Nat) (a0_0 : Int) (l0_1 : List Int) (l0_2 : List Int) (l0_3 : List Stp) : Option (Bool) := ((laws_szAutomaton.f k a0_0 l0_1 l0_2 l0_3 1048576).bind fun t1 => (if t1 < 0 then (some true) else ((laws_toAutomaton.f k a0_0 l0_1 l0_2 l0_3).bind fun t2 => ((spec_TrimAutomaton.f k t2.1 t2.2.1 t2.2.2.1 t2.2.2.2).bind fun t3 => ((laws_toAutomaton.f k a0_0 l0_1 l0_2 l0_3).bind fun t4 => ((impl_TrimAutomaton.f k t4.1 t4.2.1 t4.2.2.1 t4.2.2.2).bind fun t5 => ((laws_eqAutomaton.f k t5.1 t5.2.1 t5.2.2.1 t5.2.2.2.1 t3.1 t3.2.1 t3.2.2.1 t3.2.2.2.1).bind fun t6 => (if t6 = true then (if (t5.2.2.2.2 != t3.2.2.2.2) = true then (some false) else ((laws_toAutomaton.f k a0_0 l0_1 l0_2 l0_3).bind fun t7 => ((laws_eqAutomaton.f k t4.1 t4.2.1 t4.2.2.1 t4.2.2.2 t7.1 t7.2.1 t7.2.2.1 t7.2.2.2).bind fun t8 => (if t8 = true then ((laws_markAutomaton.f k t4.1 t4.2.1 t4.2.2.1 t4.2.2.2 1).bind fun t9 => (if t9.1 < 0 then (some false) else ((laws_eqAutomaton.f k t5.1 t5.2.1 t5.2.2.1 t5.2.2.2.1 t3.1 t3.2.1 t3.2.2.1 t3.2.2.2.1).bind fun t10 => (if t10 = true then ((laws_markAutomaton.f k t5.1 t5.2.1 t5.2.2.1 t5.2.2.2.1 1).bind fun t11 => ((laws_heldAutomaton.f k t5.1 t11.2.1 t11.2.2.1 t11.2.2.2 1).bind fun t12 => (if t12 < 0 then (some false) else (if t12 = t11.1 then ((laws_toAutomaton.f k a0_0 l0_1 l0_2 l0_3).bind fun t13 => ((impl_TrimAutomaton.f k t13.1 t13.2.1 t13.2.2.1 t13.2.2.2).bind fun t14 => ((laws_eqAutomaton.f k t14.1 t14.2.1 t14.2.2.1 t14.2.2.2.1 t3.1 t3.2.1 t3.2.2.1 t3.2.2.2.1).bind fun t15 => (if t15 = true then (if (t14.2.2.2.2 != t3.2.2.2.2) = true then (some false) else ((laws_heldAutomaton.f k t5.1 t11.2.1 t11.2.2.1 t11.2.2.2 1).bind fun t16 => (if t16 < 0 then (some false) else (if t16 = t11.1 then (some true) else (some false))))) else (some false))))) else (some false))))) else (some false))))) else (some false))))) else (some false)))))))))
def laws_FnExactTrimAutomaton.en (r : Bool) : Res := (.lit r, [])
def laws_FnExactTrimAutomaton.dec : List AV → List R.Obj → Option (Int × (List Int) × (List Int) × (List Stp))
  | [.agg [.int .i64 a0_0, .imm (.I .i64 l0_1), .imm (.I .i64 l0_2), .imm (.T l0_3)]], [] => some (a0_0, l0_1, l0_2, l0_3)
  | _, _ => none
def laws_FnExactTrimAutomaton.tw : Tw := ⟨7, Int × (List Int) × (List Int) × (List Stp), Bool, laws_FnExactTrimAutomaton.dec, fun a => [.agg [.int .i64 a.1, .imm (.I .i64 a.2.1), .imm (.I .i64 a.2.2.1), .imm (.T a.2.2.2)]], fun a => [], fun k a => laws_FnExactTrimAutomaton.f k a.1 a.2.1 a.2.2.1 a.2.2.2, fun a r => laws_FnExactTrimAutomaton.en r, false⟩
theorem laws_FnExactTrimAutomaton.dok : laws_FnExactTrimAutomaton.tw.DecOk := by
  intro args hc a h
  have h : laws_FnExactTrimAutomaton.dec args hc = some a := h
  unfold laws_FnExactTrimAutomaton.dec at h
  split at h
  · cases h; exact ⟨rfl, rfl⟩
  · cases h
noncomputable def laws_FnExactTrimAutomaton.O (k : Nat) : Oracle := (laws_szAutomaton.tw.orc k (laws_toAutomaton.tw.orc k (spec_TrimAutomaton.tw.orc k (impl_TrimAutomaton.tw.orc k (laws_eqAutomaton.tw.orc k (laws_markAutomaton.tw.orc k (laws_heldAutomaton.tw.orc k noO)))))))
def laws_FnExactTrimAutomaton.fh : FH := ⟨fun i => match i with | _ => none, [], false⟩
set_option maxRecDepth 100000 in
theorem laws_FnExactTrimAutomaton.ef (k : Nat) (a0_0 : Int) (l0_1 : List Int) (l0_2 : List Int) (l0_3 : List Stp) : R.start Try.prog xhn laws_FnExactTrimAutomaton.O 0 Try.f7 laws_FnExactTrimAutomaton.fh k [.agg [.int .i64 a0_0, .imm (.I .i64 l0_1), .imm (.I .i64 l0_2), .imm (.T l0_3)]] [] = ((laws_szAutomaton.f k a0_0 l0_1 l0_2 l0_3 1048576).bind fun t1 => (if t1 < 0 then (some (laws_FnExactTrimAutomaton.en true)) else ((laws_toAutomaton.f k a0_0 l0_1 l0_2 l0_3).bind fun t2 => ((spec_TrimAutomaton.f k t2.1 t2.2.1 t2.2.2.1 t2.2.2.2).bind fun t3 => ((laws_toAutomaton.f k a0_0 l0_1 l0_2 l0_3).bind fun t4 => ((impl_TrimAutomaton.f k t4.1 t4.2.1 t4.2.2.1 t4.2.2.2).bind fun t5 => ((laws_eqAutomaton.f k t5.1 t5.2.1 t5.2.2.1 t5.2.2.2.1 t3.1 t3.2.1 t3.2.2.1 t3.2.2.2.1).bind fun t6 => (if t6 = true then (if (t5.2.2.2.2 != t3.2.2.2.2) = true then (some (laws_FnExactTrimAutomaton.en false)) else ((laws_toAutomaton.f k a0_0 l0_1 l0_2 l0_3).bind fun t7 => ((laws_eqAutomaton.f k t4.1 t4.2.1 t4.2.2.1 t4.2.2.2 t7.1 t7.2.1 t7.2.2.1 t7.2.2.2).bind fun t8 => (if t8 = true then ((laws_markAutomaton.f k t4.1 t4.2.1 t4.2.2.1 t4.2.2.2 1).bind fun t9 => (if t9.1 < 0 then (some (laws_FnExactTrimAutomaton.en false)) else ((laws_eqAutomaton.f k t5.1 t5.2.1 t5.2.2.1 t5.2.2.2.1 t3.1 t3.2.1 t3.2.2.1 t3.2.2.2.1).bind fun t10 => (if t10 = true then ((laws_markAutomaton.f k t5.1 t5.2.1 t5.2.2.1 t5.2.2.2.1 1).bind fun t11 => ((laws_heldAutomaton.f k t5.1 t11.2.1 t11.2.2.1 t11.2.2.2 1).bind fun t12 => (if t12 < 0 then (some (laws_FnExactTrimAutomaton.en false)) else (if t12 = t11.1 then ((laws_toAutomaton.f k a0_0 l0_1 l0_2 l0_3).bind fun t13 => ((impl_TrimAutomaton.f k t13.1 t13.2.1 t13.2.2.1 t13.2.2.2).bind fun t14 => ((laws_eqAutomaton.f k t14.1 t14.2.1 t14.2.2.1 t14.2.2.2.1 t3.1 t3.2.1 t3.2.2.1 t3.2.2.2.1).bind fun t15 => (if t15 = true then (if (t14.2.2.2.2 != t3.2.2.2.2) = true then (some (laws_FnExactTrimAutomaton.en false)) else ((laws_heldAutomaton.f k t5.1 t11.2.1 t11.2.2.1 t11.2.2.2 1).bind fun t16 => (if t16 < 0 then (some (laws_FnExactTrimAutomaton.en false)) else (if t16 = t11.1 then (some (laws_FnExactTrimAutomaton.en true)) else (some (laws_FnExactTrimAutomaton.en false)))))) else (some (laws_FnExactTrimAutomaton.en false)))))) else (some (laws_FnExactTrimAutomaton.en false)))))) else (some (laws_FnExactTrimAutomaton.en false)))))) else (some (laws_FnExactTrimAutomaton.en false)))))) else (some (laws_FnExactTrimAutomaton.en false)))))))))) := by
  refine Eq.trans ?_ (R.bcong fun t1 => (R.icong (fun h0 => rfl) (fun h0 => (R.bcong fun t2 => (R.bcong fun t3 => (R.bcong fun t4 => (R.bcong fun t5 => (R.bcong fun t6 => (R.icong (fun h1 => (R.icong (fun h2 => rfl) (fun h2 => (R.bcong fun t7 => (R.bcong fun t8 => (R.icong (fun h3 => (R.bcong fun t9 => (R.icong (fun h4 => rfl) (fun h4 => (R.bcong fun t10 => (R.icong (fun h5 => (R.idropF (p := (t5.2.2.2.2 != t3.2.2.2.2) = true) (z := (some (laws_FnExactTrimAutomaton.en false))) h2 rfl)) (fun h5 => rfl))))))) (fun h3 => rfl))))))) (fun h1 => rfl))))))))))
  kernel_rfl
theorem laws_FnExactTrimAutomaton.sf (k : Nat) (a0_0 : Int) (l0_1 : List Int) (l0_2 : List Int) (l0_3 : List Stp) : R.start Try.prog xhn laws_FnExactTrimAutomaton.O 0 Try.f7 laws_FnExactTrimAutomaton.fh k [.agg [.int .i64 a0_0, .imm (.I .i64 l0_1), .imm (.I .i64 l0_2), .imm (.T l0_3)]] [] = (laws_FnExactTrimAutomaton.f k a0_0 l0_1 l0_2 l0_3).map (laws_FnExactTrimAutomaton.en) := by
  rw [laws_FnExactTrimAutomaton.ef]
  simp only [laws_FnExactTrimAutomaton.f, R.map_ite, R.map_bind, R.map_none, R.map_some, R.wr64_eq]
theorem laws_FnExactTrimAutomaton.ok (k : Nat) : laws_FnExactTrimAutomaton.tw.Ok Try.prog k := by
  intro md hmd a r h
  refine fn_ok (H := xhn) (fh := laws_FnExactTrimAutomaton.fh) (O := laws_FnExactTrimAutomaton.O) (k := k) Try.func7 (by kernel_rfl) (by kernel_rfl) (fun j _ => (Tw.orc_sound laws_szAutomaton.dok (laws_szAutomaton.ok j) (fun _ => rfl) (Tw.orc_sound laws_toAutomaton.dok (laws_toAutomaton.ok j) (fun _ => rfl) (Tw.orc_sound spec_TrimAutomaton.dok (spec_TrimAutomaton.ok j) (fun _ => rfl) (Tw.orc_sound impl_TrimAutomaton.dok (impl_TrimAutomaton.ok j) (fun q => Bool.noConfusion (show false = true from hmd q)) (Tw.orc_sound laws_eqAutomaton.dok (laws_eqAutomaton.ok j) (fun _ => rfl) (Tw.orc_sound laws_markAutomaton.dok (laws_markAutomaton.ok j) (fun _ => rfl) (Tw.orc_sound laws_heldAutomaton.dok (laws_heldAutomaton.ok j) (fun _ => rfl) noO_sound)))))))) (by kernel_rfl) (m := 0) rfl ?_
  refine (laws_FnExactTrimAutomaton.sf k a.1 a.2.1 a.2.2.1 a.2.2.2).trans ?_
  exact congrArg (Option.map _) h
end Go.Proofs.Ytoeeeafknajkkaa.V
end
