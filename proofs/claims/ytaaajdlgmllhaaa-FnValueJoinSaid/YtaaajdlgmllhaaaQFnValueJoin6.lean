import Derived.Test.YtaaajdlgmllhaaaQFnValueJoin5
import Derived.Test.YtaaajdlgmllhaaaQFnValueJoin4
import Derived.Test.YtaaajdlgmllhaaaProg
import Derived.WalkKit
import Derived.ProofKit
import Derived.Lib.Bytealg
import Derived.Test.YtaaajdlgmllhaaaQFnValueJoin2
import Derived.Below
section
set_option linter.unusedVariables false
set_option linter.unusedSimpArgs false
namespace Go.Proofs.Ytaaajdlgmllhaaa.V
open Go Go.Proofs.Ytaaajdlgmllhaaa.R Go.RowKit
mutual
def impl_readParts.l0 : Nat → ByteArray → (List Part) → Option ((List Part) × ByteArray)
  | 0, _, _ => none
  | k + 1, x0, y0 => (if x0.toList = ([] : List UInt8) then (some (y0, x0)) else (if 0 < (x0.size : Int) then (if (btI x0 0) = 97 then (if 1 ≤ (x0.size : Int) then (if y0.length < 3518437208883 then (if (x0.size : Int) ≤ (x0.size : Int) then (impl_readParts.l0 k (x0.extract 1 x0.size) (y0 ++ [(⟨(x0.extract 0 1), ([] : List Part)⟩ : Part)])) else none) else none) else none) else (if (btI x0 0) = 98 then (if 1 ≤ (x0.size : Int) then (if y0.length < 3518437208883 then (if (x0.size : Int) ≤ (x0.size : Int) then (impl_readParts.l0 k (x0.extract 1 x0.size) (y0 ++ [(⟨(x0.extract 0 1), ([] : List Part)⟩ : Part)])) else none) else none) else none) else (if (btI x0 0) = 40 then (if 1 ≤ (x0.size : Int) then (if (x0.size : Int) ≤ (x0.size : Int) then ((impl_readParts.f k (x0.extract 1 x0.size)).bind fun t3 => (if (t3.1.length : Int) > 0 then ((strings_HasPrefix.f t3.2 (⟨#[41, 35]⟩ : ByteArray)).bind fun t4 => (if t4 = true then (if y0.length < 3518437208883 then (if 2 ≤ (t3.2.size : Int) then (if (t3.2.size : Int) ≤ (t3.2.size : Int) then (impl_readParts.l0 k (t3.2.extract 2 t3.2.size) (y0 ++ [(⟨(⟨#[]⟩ : ByteArray), t3.1⟩ : Part)])) else none) else none) else none) else (some (y0, x0)))) else (some (y0, x0)))) else none) else none) else (some (y0, x0))))) else none))
def impl_readParts.f : Nat → ByteArray → Option ((List Part) × ByteArray)
  | 0, _ => none
  | k + 1, a0 => (impl_readParts.l0 k a0 ([] : List Part))
end
def impl_readParts.en (r : (List Part) × ByteArray) : Res := (.tup [.sl 0 0, .str r.2], [.arr 159 0 (.P r.1) false])
def impl_readParts.dec : List AV → List R.Obj → Option (ByteArray)
  | [.str a0], [] => some a0
  | _, _ => none
def impl_readParts.tw : Tw := ⟨172, ByteArray, (List Part) × ByteArray, impl_readParts.dec, fun a => [.str a], fun a => [], fun k a => impl_readParts.f k a, fun a r => impl_readParts.en r⟩
theorem impl_readParts.dok : impl_readParts.tw.DecOk := by
  intro args hc a h
  have h : impl_readParts.dec args hc = some a := h
  unfold impl_readParts.dec at h
  split at h
  · cases h; exact ⟨rfl, rfl⟩
  · cases h
noncomputable def impl_readParts.O (k : Nat) : Oracle := (strings_HasPrefix.tw.orc k (impl_readParts.tw.orc k noO))
def impl_readParts.fh : FH := ⟨fun i => match i with | 2 => some [(0, 0), (4, 0)] | _ => none, [(true, 159)], false⟩
noncomputable def impl_readParts.x0 (k : Nat) (x0 : ByteArray) (y0 : List Part) : Option Res := R.exec Try.prog xhn impl_readParts.O 0 Try.f172 impl_readParts.fh k (R.point Try.f172 2) ⟨[(0, .str x0), (4, .sl 0 0)], [(0, .arr 159 0 (.P y0) false)], 3⟩
set_option maxRecDepth 100000 in
theorem impl_readParts.e0 (k : Nat) (x0 : ByteArray) (y0 : List Part) : impl_readParts.x0 (k + 1) x0 y0 = (if x0.toList = ([] : List UInt8) then (some (impl_readParts.en (y0, x0))) else (if 0 < (x0.size : Int) then (if (btI x0 0) = 97 then (if 1 ≤ (x0.size : Int) then (if y0.length < 3518437208883 then (if (x0.size : Int) ≤ (x0.size : Int) then (impl_readParts.x0 k (x0.extract 1 x0.size) (y0 ++ [(⟨(x0.extract 0 1), ([] : List Part)⟩ : Part)])) else none) else none) else none) else (if (btI x0 0) = 98 then (if 1 ≤ (x0.size : Int) then (if y0.length < 3518437208883 then (if (x0.size : Int) ≤ (x0.size : Int) then (impl_readParts.x0 k (x0.extract 1 x0.size) (y0 ++ [(⟨(x0.extract 0 1), ([] : List Part)⟩ : Part)])) else none) else none) else none) else (if (btI x0 0) = 40 then (if 1 ≤ (x0.size : Int) then (if (x0.size : Int) ≤ (x0.size : Int) then ((impl_readParts.f k (x0.extract 1 x0.size)).bind fun t3 => (if (t3.1.length : Int) > 0 then ((strings_HasPrefix.f t3.2 (⟨#[41, 35]⟩ : ByteArray)).bind fun t4 => (if t4 = true then (if y0.length < 3518437208883 then (if 2 ≤ (t3.2.size : Int) then (if (t3.2.size : Int) ≤ (t3.2.size : Int) then (impl_readParts.x0 k (t3.2.extract 2 t3.2.size) (y0 ++ [(⟨(⟨#[]⟩ : ByteArray), t3.1⟩ : Part)])) else none) else none) else none) else (some (impl_readParts.en (y0, x0))))) else (some (impl_readParts.en (y0, x0))))) else none) else none) else (some (impl_readParts.en (y0, x0)))))) else none)) := by
  refine Eq.trans ?_ (R.icong (fun h0 => rfl) (fun h0 => (R.icong (fun h1 => (R.icong (fun h2 => (R.idropT (p := (btI x0 0) = 97) (z := (if (btI x0 0) = 40 then (if 1 ≤ (x0.size : Int) then (if (x0.size : Int) ≤ (x0.size : Int) then ((impl_readParts.f k (x0.extract 1 x0.size)).bind fun t1 => (if (t1.1.length : Int) > 0 then ((strings_HasPrefix.f t1.2 (⟨#[41, 35]⟩ : ByteArray)).bind fun t2 => (if t2 = true then (if y0.length < 3518437208883 then (if 2 ≤ (t1.2.size : Int) then (if (t1.2.size : Int) ≤ (t1.2.size : Int) then (impl_readParts.x0 k (t1.2.extract 2 t1.2.size) (y0 ++ [(⟨(⟨#[]⟩ : ByteArray), t1.1⟩ : Part)])) else none) else none) else none) else (some (impl_readParts.en (y0, x0))))) else (some (impl_readParts.en (y0, x0))))) else none) else none) else (some (impl_readParts.en (y0, x0))))) h2 (R.icong (fun h3 => (R.icong (fun h4 => (R.idropT (p := 1 ≤ (x0.size : Int)) (z := none) h3 rfl)) (fun h4 => rfl))) (fun h3 => rfl)))) (fun h2 => (R.icong (fun h3 => (R.icong (fun h4 => (R.icong (fun h5 => (R.idropT (p := 1 ≤ (x0.size : Int)) (z := none) h4 rfl)) (fun h5 => rfl))) (fun h4 => rfl))) (fun h3 => rfl))))) (fun h1 => rfl))))
  kernel_rfl
set_option maxRecDepth 100000 in
theorem impl_readParts.ef (k : Nat) (a0 : ByteArray) : R.start Try.prog xhn impl_readParts.O 0 Try.f172 impl_readParts.fh k [.str a0] [] = (impl_readParts.x0 k a0 ([] : List Part)) := by kernel_rfl
theorem impl_readParts.link : ∀ k, (∀ (x0 : ByteArray) (y0 : List Part), impl_readParts.x0 k x0 y0 = (impl_readParts.l0 k x0 y0).map (impl_readParts.en))
  | 0 => fun _ _ => by simp only [impl_readParts.l0, R.map_none]; rfl
  | k + 1 => by
    have ih0 := impl_readParts.link k
    · intro x0 y0
      rw [impl_readParts.e0]
      simp only [impl_readParts.l0, R.map_ite, R.map_bind, R.map_none, R.map_some, R.wr64_eq, ← ih0]
theorem impl_readParts.sf (k : Nat) (a0 : ByteArray) : R.start Try.prog xhn impl_readParts.O 0 Try.f172 impl_readParts.fh k [.str a0] [] = (impl_readParts.f (k + 1) a0).map (impl_readParts.en) := by
  have ih0 := impl_readParts.link k
  rw [impl_readParts.ef]
  simp only [impl_readParts.f, R.map_ite, R.map_bind, R.map_none, R.map_some, R.wr64_eq, ← ih0]
theorem impl_readParts.ok : ∀ k, impl_readParts.tw.Ok Try.prog k := by
  intro k
  induction k using Nat.strongRecOn with
  | ind k ih =>
    cases k with
    | zero =>
      intro a r h
      have h : impl_readParts.f 0 a = some r := h
      simp only [impl_readParts.f] at h
      cases h
    | succ k =>
      intro a r h
      refine fn_ok (H := xhn) (fh := impl_readParts.fh) (O := impl_readParts.O) (k := k) Try.func172 (by kernel_rfl) (by kernel_rfl) (fun j hj => (Tw.orc_sound strings_HasPrefix.dok (strings_HasPrefix.ok j) (Tw.orc_sound impl_readParts.dok (ih j (by omega)) noO_sound))) (by kernel_rfl) (m := 0) rfl ?_
      refine (impl_readParts.sf k a).trans ?_
      exact congrArg (Option.map _) h
def impl_parts.f (k : Nat) (a0 : ByteArray) : Option ((List Part) × Bool) := (if (a0.size : Int) > 120 then (some (([] : List Part), false)) else ((impl_readParts.f k a0).bind fun t1 => (if (t1.1.length : Int) > 0 then (some (t1.1, (decide (t1.2.toList = ([] : List UInt8))))) else (some (t1.1, false)))))
def impl_parts.en (r : (List Part) × Bool) : Res := (.tup [.sl 0 0, .lit r.2], [.arr 159 0 (.P r.1) false])
def impl_parts.dec : List AV → List R.Obj → Option (ByteArray)
  | [.str a0], [] => some a0
  | _, _ => none
def impl_parts.tw : Tw := ⟨130, ByteArray, (List Part) × Bool, impl_parts.dec, fun a => [.str a], fun a => [], fun k a => impl_parts.f k a, fun a r => impl_parts.en r⟩
theorem impl_parts.dok : impl_parts.tw.DecOk := by
  intro args hc a h
  have h : impl_parts.dec args hc = some a := h
  unfold impl_parts.dec at h
  split at h
  · cases h; exact ⟨rfl, rfl⟩
  · cases h
noncomputable def impl_parts.O (k : Nat) : Oracle := (impl_readParts.tw.orc k noO)
def impl_parts.fh : FH := ⟨fun i => match i with | _ => none, [(true, 159)], false⟩
set_option maxRecDepth 100000 in
theorem impl_parts.ef (k : Nat) (a0 : ByteArray) : R.start Try.prog xhn impl_parts.O 0 Try.f130 impl_parts.fh k [.str a0] [] = (if (a0.size : Int) > 120 then (some (impl_parts.en (([] : List Part), false))) else ((impl_readParts.f k a0).bind fun t1 => (if (t1.1.length : Int) > 0 then (some (impl_parts.en (t1.1, (decide (t1.2.toList = ([] : List UInt8)))))) else (some (impl_parts.en (t1.1, false)))))) := by kernel_rfl
theorem impl_parts.sf (k : Nat) (a0 : ByteArray) : R.start Try.prog xhn impl_parts.O 0 Try.f130 impl_parts.fh k [.str a0] [] = (impl_parts.f k a0).map (impl_parts.en) := by
  rw [impl_parts.ef]
  simp only [impl_parts.f, R.map_ite, R.map_bind, R.map_none, R.map_some, R.wr64_eq]
theorem impl_parts.ok (k : Nat) : impl_parts.tw.Ok Try.prog k := by
  intro a r h
  refine fn_ok (H := xhn) (fh := impl_parts.fh) (O := impl_parts.O) (k := k) Try.func130 (by kernel_rfl) (by kernel_rfl) (fun j _ => (Tw.orc_sound impl_readParts.dok (impl_readParts.ok j) noO_sound)) (by kernel_rfl) (m := 0) rfl ?_
  refine (impl_parts.sf k a).trans ?_
  exact congrArg (Option.map _) h
def impl_statesOk.l0 : Nat → (List Int) → Int → (List Int) → Int → Int → Option (Bool)
  | 0, _, _, _, _, _ => none
  | k + 1, x0, x1, x7, x8, x9 => (if x9 < x8 then (if 0 ≤ x9 then (if x9 < (x7.length : Int) then (if (rdI x7 x9) < 0 then (some false) else (if (rdI x7 x9) ≥ x1 then (some false) else (if x9 > 0 then (if 0 ≤ (wrap64 (x9 - 1)) then (if (wrap64 (x9 - 1)) < (x0.length : Int) then (if (rdI x0 (wrap64 (x9 - 1))) ≥ (rdI x7 x9) then (some false) else (impl_statesOk.l0 k x0 x1 x7 x8 (wrap64 (x9 + 1)))) else none) else none) else (impl_statesOk.l0 k x0 x1 x7 x8 (wrap64 (x9 + 1)))))) else none) else none) else (some true))
def impl_statesOk.f (k : Nat) (l0 : List Int) (a1 : Int) : Option (Bool) := (impl_statesOk.l0 k l0 a1 l0 (l0.length : Int) 0)
def impl_statesOk.en (r : Bool) : Res := (.lit r, [])
def impl_statesOk.dec : List AV → List R.Obj → Option ((List Int) × Int)
  | [.imm (.I .i64 l0), .int .i64 a1], [] => some (l0, a1)
  | _, _ => none
def impl_statesOk.tw : Tw := ⟨151, (List Int) × Int, Bool, impl_statesOk.dec, fun a => [.imm (.I .i64 a.1), .int .i64 a.2], fun a => [], fun k a => impl_statesOk.f k a.1 a.2, fun a r => impl_statesOk.en r⟩
theorem impl_statesOk.dok : impl_statesOk.tw.DecOk := by
  intro args hc a h
  have h : impl_statesOk.dec args hc = some a := h
  unfold impl_statesOk.dec at h
  split at h
  · cases h; exact ⟨rfl, rfl⟩
  · cases h
noncomputable def impl_statesOk.O (k : Nat) : Oracle := noO
def impl_statesOk.fh : FH := ⟨fun i => match i with | 2 => some [(0, 0), (1, 0), (7, 0), (8, 0), (9, 0)] | _ => none, [], false⟩
noncomputable def impl_statesOk.x0 (k : Nat) (x0 : List Int) (x1 : Int) (x7 : List Int) (x8 : Int) (x9 : Int) : Option Res := R.exec Try.prog xhn impl_statesOk.O 0 Try.f151 impl_statesOk.fh k (R.point Try.f151 2) ⟨[(0, .imm (.I .i64 x0)), (1, .int .i64 x1), (7, .imm (.I .i64 x7)), (8, .int .i64 x8), (9, .int .i64 x9)], [], 2⟩
set_option maxRecDepth 100000 in
theorem impl_statesOk.e0 (k : Nat) (x0 : List Int) (x1 : Int) (x7 : List Int) (x8 : Int) (x9 : Int) : impl_statesOk.x0 (k + 1) x0 x1 x7 x8 x9 = (if x9 < x8 then (if 0 ≤ x9 then (if x9 < (x7.length : Int) then (if (rdI x7 x9) < 0 then (some (impl_statesOk.en false)) else (if (rdI x7 x9) ≥ x1 then (some (impl_statesOk.en false)) else (if x9 > 0 then (if 0 ≤ (wr64 (x9 - 1)) then (if (wr64 (x9 - 1)) < (x0.length : Int) then (if (rdI x0 (wr64 (x9 - 1))) ≥ (rdI x7 x9) then (some (impl_statesOk.en false)) else (impl_statesOk.x0 k x0 x1 x7 x8 (wr64 (x9 + 1)))) else none) else none) else (impl_statesOk.x0 k x0 x1 x7 x8 (wr64 (x9 + 1)))))) else none) else none) else (some (impl_statesOk.en true))) := by kernel_rfl
set_option maxRecDepth 100000 in
theorem impl_statesOk.ef (k : Nat) (l0 : List Int) (a1 : Int) : R.start Try.prog xhn impl_statesOk.O 0 Try.f151 impl_statesOk.fh k [.imm (.I .i64 l0), .int .i64 a1] [] = (impl_statesOk.x0 k l0 a1 l0 (l0.length : Int) 0) := by kernel_rfl
theorem impl_statesOk.link : ∀ k, (∀ (x0 : List Int) (x1 : Int) (x7 : List Int) (x8 : Int) (x9 : Int), impl_statesOk.x0 k x0 x1 x7 x8 x9 = (impl_statesOk.l0 k x0 x1 x7 x8 x9).map (impl_statesOk.en))
  | 0 => fun _ _ _ _ _ => by simp only [impl_statesOk.l0, R.map_none]; rfl
  | k + 1 => by
    have ih0 := impl_statesOk.link k
    · intro x0 x1 x7 x8 x9
      rw [impl_statesOk.e0]
      simp only [impl_statesOk.l0, R.map_ite, R.map_bind, R.map_none, R.map_some, R.wr64_eq, ← ih0]
theorem impl_statesOk.sf (k : Nat) (l0 : List Int) (a1 : Int) : R.start Try.prog xhn impl_statesOk.O 0 Try.f151 impl_statesOk.fh k [.imm (.I .i64 l0), .int .i64 a1] [] = (impl_statesOk.f k l0 a1).map (impl_statesOk.en) := by
  have ih0 := impl_statesOk.link k
  rw [impl_statesOk.ef]
  simp only [impl_statesOk.f, R.map_ite, R.map_bind, R.map_none, R.map_some, R.wr64_eq, ← ih0]
theorem impl_statesOk.ok (k : Nat) : impl_statesOk.tw.Ok Try.prog k := by
  intro a r h
  refine fn_ok (H := xhn) (fh := impl_statesOk.fh) (O := impl_statesOk.O) (k := k) Try.func151 (by kernel_rfl) (by kernel_rfl) (fun j _ => noO_sound) (by kernel_rfl) (m := 0) rfl ?_
  refine (impl_statesOk.sf k a.1 a.2).trans ?_
  exact congrArg (Option.map _) h
def cmp_isNaN_int.f (a0 : Int) : Option (Bool) := (some (!decide (a0 = a0)))
def cmp_isNaN_int.en (r : Bool) : Res := (.lit r, [])
def cmp_isNaN_int.dec : List AV → List R.Obj → Option (Int)
  | [.int .i64 a0], [] => some a0
  | _, _ => none
def cmp_isNaN_int.tw : Tw := ⟨196, Int, Bool, cmp_isNaN_int.dec, fun a => [.int .i64 a], fun a => [], fun k a => cmp_isNaN_int.f a, fun a r => cmp_isNaN_int.en r⟩
theorem cmp_isNaN_int.dok : cmp_isNaN_int.tw.DecOk := by
  intro args hc a h
  have h : cmp_isNaN_int.dec args hc = some a := h
  unfold cmp_isNaN_int.dec at h
  split at h
  · cases h; exact ⟨rfl, rfl⟩
  · cases h
noncomputable def cmp_isNaN_int.O (k : Nat) : Oracle := noO
def cmp_isNaN_int.fh : FH := ⟨fun i => match i with | _ => none, [], false⟩
set_option maxRecDepth 100000 in
theorem cmp_isNaN_int.ef (k : Nat) (a0 : Int) : R.start Try.prog xhn cmp_isNaN_int.O 0 Try.f196 cmp_isNaN_int.fh k [.int .i64 a0] [] = (some (cmp_isNaN_int.en (!decide (a0 = a0)))) := by kernel_rfl
theorem cmp_isNaN_int.sf (k : Nat) (a0 : Int) : R.start Try.prog xhn cmp_isNaN_int.O 0 Try.f196 cmp_isNaN_int.fh k [.int .i64 a0] [] = (cmp_isNaN_int.f a0).map (cmp_isNaN_int.en) := by
  rw [cmp_isNaN_int.ef]
  simp only [cmp_isNaN_int.f, R.map_ite, R.map_bind, R.map_none, R.map_some, R.wr64_eq]
theorem cmp_isNaN_int.ok (k : Nat) : cmp_isNaN_int.tw.Ok Try.prog k := by
  intro a r h
  refine fn_ok (H := xhn) (fh := cmp_isNaN_int.fh) (O := cmp_isNaN_int.O) (k := k) Try.func196 (by kernel_rfl) (by kernel_rfl) (fun j _ => noO_sound) (by kernel_rfl) (m := 0) rfl ?_
  refine (cmp_isNaN_int.sf k a).trans ?_
  exact congrArg (Option.map _) h
def cmp_Compare_int.f (a0 : Int) (a1 : Int) : Option (Int) := ((cmp_isNaN_int.f a0).bind fun t1 => ((cmp_isNaN_int.f a1).bind fun t2 => (if t1 = true then (if t2 = true then (some 0) else (some (-1))) else (if t2 = true then (some 1) else (if a0 < a1 then (some (-1)) else (if a0 > a1 then (some 1) else (some 0)))))))
def cmp_Compare_int.en (r : Int) : Res := (.int .i64 r, [])
def cmp_Compare_int.dec : List AV → List R.Obj → Option (Int × Int)
  | [.int .i64 a0, .int .i64 a1], [] => some (a0, a1)
  | _, _ => none
def cmp_Compare_int.tw : Tw := ⟨180, Int × Int, Int, cmp_Compare_int.dec, fun a => [.int .i64 a.1, .int .i64 a.2], fun a => [], fun k a => cmp_Compare_int.f a.1 a.2, fun a r => cmp_Compare_int.en r⟩
theorem cmp_Compare_int.dok : cmp_Compare_int.tw.DecOk := by
  intro args hc a h
  have h : cmp_Compare_int.dec args hc = some a := h
  unfold cmp_Compare_int.dec at h
  split at h
  · cases h; exact ⟨rfl, rfl⟩
  · cases h
noncomputable def cmp_Compare_int.O (k : Nat) : Oracle := (cmp_isNaN_int.tw.orc k noO)
def cmp_Compare_int.fh : FH := ⟨fun i => match i with | _ => none, [], false⟩
set_option maxRecDepth 100000 in
theorem cmp_Compare_int.ef (k : Nat) (a0 : Int) (a1 : Int) : R.start Try.prog xhn cmp_Compare_int.O 0 Try.f180 cmp_Compare_int.fh k [.int .i64 a0, .int .i64 a1] [] = ((cmp_isNaN_int.f a0).bind fun t1 => ((cmp_isNaN_int.f a1).bind fun t2 => (if t1 = true then (if t2 = true then (some (cmp_Compare_int.en 0)) else (some (cmp_Compare_int.en (-1)))) else (if t2 = true then (some (cmp_Compare_int.en 1)) else (if a0 < a1 then (some (cmp_Compare_int.en (-1))) else (if a0 > a1 then (some (cmp_Compare_int.en 1)) else (some (cmp_Compare_int.en 0)))))))) := by kernel_rfl
theorem cmp_Compare_int.sf (k : Nat) (a0 : Int) (a1 : Int) : R.start Try.prog xhn cmp_Compare_int.O 0 Try.f180 cmp_Compare_int.fh k [.int .i64 a0, .int .i64 a1] [] = (cmp_Compare_int.f a0 a1).map (cmp_Compare_int.en) := by
  rw [cmp_Compare_int.ef]
  simp only [cmp_Compare_int.f, R.map_ite, R.map_bind, R.map_none, R.map_some, R.wr64_eq]
theorem cmp_Compare_int.ok (k : Nat) : cmp_Compare_int.tw.Ok Try.prog k := by
  intro a r h
  refine fn_ok (H := xhn) (fh := cmp_Compare_int.fh) (O := cmp_Compare_int.O) (k := k) Try.func180 (by kernel_rfl) (by kernel_rfl) (fun j _ => (Tw.orc_sound cmp_isNaN_int.dok (cmp_isNaN_int.ok j) noO_sound)) (by kernel_rfl) (m := 0) rfl ?_
  refine (cmp_Compare_int.sf k a.1 a.2).trans ?_
  exact congrArg (Option.map _) h
def bytealg_CompareString.f (a0 a1 : ByteArray) : Option Int := some (Lib.compareBytes a0.data.toList a1.data.toList)
def bytealg_CompareString.dec : List AV → List R.Obj → Option (ByteArray × ByteArray)
  | [.str a0, .str a1], [] => some (a0, a1)
  | _, _ => none
def bytealg_CompareString.tw : Tw := ⟨197, ByteArray × ByteArray, Int, bytealg_CompareString.dec, fun a => [.str a.1, .str a.2], fun a => [], fun k a => bytealg_CompareString.f a.1 a.2, fun a r => (.int .i64 r, [])⟩
theorem bytealg_CompareString.dok : bytealg_CompareString.tw.DecOk := by
  intro args hc a h
  have h : bytealg_CompareString.dec args hc = some a := h
  unfold bytealg_CompareString.dec at h
  split at h
  · cases h; exact ⟨rfl, rfl⟩
  · cases h
set_option maxRecDepth 100000 in
set_option maxHeartbeats 8000000 in
theorem bytealg_CompareString.calls (a0 a1 : ByteArray) (w : World) : Calls Try.prog 197 #[.string a0, .string a1] w fun e w' => e = .returned (.int .i64 (Lib.compareBytes a0.data.toList a1.data.toList)) ∧ w' = w := by
  go_enter Try.func197, Try.ntmps197
  go_wp2
  rw [run_callFunc_extern Try.func204 (by kernel_rfl) (by kernel_rfl) (by kernel_rfl) (e := Extern.BytealgCompare.compare) (by kernel_rfl), Lib.run_compareString]
  simp only [Result.andThen]
  rw [Oper.upon_value]
  go_wp2
  go_ret
  exact ⟨rfl, rfl⟩
theorem bytealg_CompareString.ok (k : Nat) : bytealg_CompareString.tw.Ok Try.prog k := by
  intro a r h
  obtain rfl := Option.some.inj (show some _ = some r from h)
  refine ⟨callable_of Try.func197 (by kernel_rfl) (by kernel_rfl), fun w M I vs E => ?_⟩
  have e : vs = #[.string a.1, .string a.2] := two_of E.len (fun q => (E.args 0 _ _ rfl q).str_inv) (fun q => (E.args 1 _ _ rfl q).str_inv)
  subst e
  refine (bytealg_CompareString.calls a.1 a.2 w).mono fun e w' => ?_
  rintro ⟨rfl, rfl⟩
  exact ⟨_, M, rfl, E.rel.weaken (fun κ q => q.elim), .closed (.int _ _)⟩
def strings_Compare.f (a0 : ByteArray) (a1 : ByteArray) : Option (Int) := ((bytealg_CompareString.f a0 a1).bind fun t1 => (some t1))
def strings_Compare.en (r : Int) : Res := (.int .i64 r, [])
def strings_Compare.dec : List AV → List R.Obj → Option (ByteArray × ByteArray)
  | [.str a0, .str a1], [] => some (a0, a1)
  | _, _ => none
def strings_Compare.tw : Tw := ⟨181, ByteArray × ByteArray, Int, strings_Compare.dec, fun a => [.str a.1, .str a.2], fun a => [], fun k a => strings_Compare.f a.1 a.2, fun a r => strings_Compare.en r⟩
theorem strings_Compare.dok : strings_Compare.tw.DecOk := by
  intro args hc a h
  have h : strings_Compare.dec args hc = some a := h
  unfold strings_Compare.dec at h
  split at h
  · cases h; exact ⟨rfl, rfl⟩
  · cases h
noncomputable def strings_Compare.O (k : Nat) : Oracle := (bytealg_CompareString.tw.orc k noO)
def strings_Compare.fh : FH := ⟨fun i => match i with | _ => none, [], false⟩
set_option maxRecDepth 100000 in
theorem strings_Compare.ef (k : Nat) (a0 : ByteArray) (a1 : ByteArray) : R.start Try.prog xhn strings_Compare.O 0 Try.f181 strings_Compare.fh k [.str a0, .str a1] [] = ((bytealg_CompareString.f a0 a1).bind fun t1 => (some (strings_Compare.en t1))) := by kernel_rfl
theorem strings_Compare.sf (k : Nat) (a0 : ByteArray) (a1 : ByteArray) : R.start Try.prog xhn strings_Compare.O 0 Try.f181 strings_Compare.fh k [.str a0, .str a1] [] = (strings_Compare.f a0 a1).map (strings_Compare.en) := by
  rw [strings_Compare.ef]
  simp only [strings_Compare.f, R.map_ite, R.map_bind, R.map_none, R.map_some, R.wr64_eq]
theorem strings_Compare.ok (k : Nat) : strings_Compare.tw.Ok Try.prog k := by
  intro a r h
  refine fn_ok (H := xhn) (fh := strings_Compare.fh) (O := strings_Compare.O) (k := k) Try.func181 (by kernel_rfl) (by kernel_rfl) (fun j _ => (Tw.orc_sound bytealg_CompareString.dok (bytealg_CompareString.ok j) noO_sound)) (by kernel_rfl) (m := 0) rfl ?_
  refine (strings_Compare.sf k a.1 a.2).trans ?_
  exact congrArg (Option.map _) h
def cmp_Or_int.l0 : Nat → (List Int) → Int → Int → Option (Int)
  | 0, _, _, _ => none
  | k + 1, x6, x7, x8 => (if x8 < x7 then (if 0 ≤ x8 then (if x8 < (x6.length : Int) then (if (rdI x6 x8) = 0 then (cmp_Or_int.l0 k x6 x7 (wrap64 (x8 + 1))) else (some (rdI x6 x8))) else none) else none) else (some 0))
def cmp_Or_int.f (k : Nat) (l0 : List Int) : Option (Int) := (cmp_Or_int.l0 k l0 (l0.length : Int) 0)
def cmp_Or_int.en (r : Int) : Res := (.int .i64 r, [])
def cmp_Or_int.dec : List AV → List R.Obj → Option (List Int)
  | [.imm (.I .i64 l0)], [] => some l0
  | _, _ => none
def cmp_Or_int.tw : Tw := ⟨179, List Int, Int, cmp_Or_int.dec, fun a => [.imm (.I .i64 a)], fun a => [], fun k a => cmp_Or_int.f k a, fun a r => cmp_Or_int.en r⟩
theorem cmp_Or_int.dok : cmp_Or_int.tw.DecOk := by
  intro args hc a h
  have h : cmp_Or_int.dec args hc = some a := h
  unfold cmp_Or_int.dec at h
  split at h
  · cases h; exact ⟨rfl, rfl⟩
  · cases h
noncomputable def cmp_Or_int.O (k : Nat) : Oracle := noO
def cmp_Or_int.fh : FH := ⟨fun i => match i with | 3 => some [(3, 0), (6, 0), (7, 0), (8, 0)] | _ => none, [], false⟩
noncomputable def cmp_Or_int.x0 (k : Nat) (x6 : List Int) (x7 : Int) (x8 : Int) : Option Res := R.exec Try.prog xhn cmp_Or_int.O 0 Try.f179 cmp_Or_int.fh k (R.point Try.f179 3) ⟨[(3, .int .i64 0), (6, .imm (.I .i64 x6)), (7, .int .i64 x7), (8, .int .i64 x8)], [], 2⟩
set_option maxRecDepth 100000 in
theorem cmp_Or_int.e0 (k : Nat) (x6 : List Int) (x7 : Int) (x8 : Int) : cmp_Or_int.x0 (k + 1) x6 x7 x8 = (if x8 < x7 then (if 0 ≤ x8 then (if x8 < (x6.length : Int) then (if (rdI x6 x8) = 0 then (cmp_Or_int.x0 k x6 x7 (wr64 (x8 + 1))) else (some (cmp_Or_int.en (rdI x6 x8)))) else none) else none) else (some (cmp_Or_int.en 0))) := by kernel_rfl
set_option maxRecDepth 100000 in
theorem cmp_Or_int.ef (k : Nat) (l0 : List Int) : R.start Try.prog xhn cmp_Or_int.O 0 Try.f179 cmp_Or_int.fh k [.imm (.I .i64 l0)] [] = (cmp_Or_int.x0 k l0 (l0.length : Int) 0) := by kernel_rfl
theorem cmp_Or_int.link : ∀ k, (∀ (x6 : List Int) (x7 : Int) (x8 : Int), cmp_Or_int.x0 k x6 x7 x8 = (cmp_Or_int.l0 k x6 x7 x8).map (cmp_Or_int.en))
  | 0 => fun _ _ _ => by simp only [cmp_Or_int.l0, R.map_none]; rfl
  | k + 1 => by
    have ih0 := cmp_Or_int.link k
    · intro x6 x7 x8
      rw [cmp_Or_int.e0]
      simp only [cmp_Or_int.l0, R.map_ite, R.map_bind, R.map_none, R.map_some, R.wr64_eq, ← ih0]
theorem cmp_Or_int.sf (k : Nat) (l0 : List Int) : R.start Try.prog xhn cmp_Or_int.O 0 Try.f179 cmp_Or_int.fh k [.imm (.I .i64 l0)] [] = (cmp_Or_int.f k l0).map (cmp_Or_int.en) := by
  have ih0 := cmp_Or_int.link k
  rw [cmp_Or_int.ef]
  simp only [cmp_Or_int.f, R.map_ite, R.map_bind, R.map_none, R.map_some, R.wr64_eq, ← ih0]
theorem cmp_Or_int.ok (k : Nat) : cmp_Or_int.tw.Ok Try.prog k := by
  intro a r h
  refine fn_ok (H := xhn) (fh := cmp_Or_int.fh) (O := cmp_Or_int.O) (k := k) Try.func179 (by kernel_rfl) (by kernel_rfl) (fun j _ => noO_sound) (by kernel_rfl) (m := 0) rfl ?_
  refine (cmp_Or_int.sf k a).trans ?_
  exact congrArg (Option.map _) h
def impl_stepOrder.f (k : Nat) (a0_0 : Int) (a0_1 : ByteArray) (a0_2 : Int) (a0_3 : Int) (a1_0 : Int) (a1_1 : ByteArray) (a1_2 : Int) (a1_3 : Int) : Option (Int) := ((cmp_Compare_int.f a0_0 a1_0).bind fun t1 => ((strings_Compare.f a0_1 a1_1).bind fun t2 => ((cmp_Compare_int.f a0_2 a1_2).bind fun t3 => ((cmp_Or_int.f k ([t1, t2, t3])).bind fun t4 => (some t4)))))
def impl_stepOrder.en (r : Int) : Res := (.int .i64 r, [])
def impl_stepOrder.dec : List AV → List R.Obj → Option (Int × ByteArray × Int × Int × Int × ByteArray × Int × Int)
  | [.agg [.int .i64 a0_0, .str a0_1, .int .i64 a0_2, .int .i64 a0_3], .agg [.int .i64 a1_0, .str a1_1, .int .i64 a1_2, .int .i64 a1_3]], [] => some (a0_0, a0_1, a0_2, a0_3, a1_0, a1_1, a1_2, a1_3)
  | _, _ => none
def impl_stepOrder.tw : Tw := ⟨152, Int × ByteArray × Int × Int × Int × ByteArray × Int × Int, Int, impl_stepOrder.dec, fun a => [.agg [.int .i64 a.1, .str a.2.1, .int .i64 a.2.2.1, .int .i64 a.2.2.2.1], .agg [.int .i64 a.2.2.2.2.1, .str a.2.2.2.2.2.1, .int .i64 a.2.2.2.2.2.2.1, .int .i64 a.2.2.2.2.2.2.2]], fun a => [], fun k a => impl_stepOrder.f k a.1 a.2.1 a.2.2.1 a.2.2.2.1 a.2.2.2.2.1 a.2.2.2.2.2.1 a.2.2.2.2.2.2.1 a.2.2.2.2.2.2.2, fun a r => impl_stepOrder.en r⟩
theorem impl_stepOrder.dok : impl_stepOrder.tw.DecOk := by
  intro args hc a h
  have h : impl_stepOrder.dec args hc = some a := h
  unfold impl_stepOrder.dec at h
  split at h
  · cases h; exact ⟨rfl, rfl⟩
  · cases h
noncomputable def impl_stepOrder.O (k : Nat) : Oracle := (cmp_Compare_int.tw.orc k (strings_Compare.tw.orc k (cmp_Or_int.tw.orc k noO)))
def impl_stepOrder.fh : FH := ⟨fun i => match i with | _ => none, [], false⟩
set_option maxRecDepth 100000 in
theorem impl_stepOrder.ef (k : Nat) (a0_0 : Int) (a0_1 : ByteArray) (a0_2 : Int) (a0_3 : Int) (a1_0 : Int) (a1_1 : ByteArray) (a1_2 : Int) (a1_3 : Int) : R.start Try.prog xhn impl_stepOrder.O 0 Try.f152 impl_stepOrder.fh k [.agg [.int .i64 a0_0, .str a0_1, .int .i64 a0_2, .int .i64 a0_3], .agg [.int .i64 a1_0, .str a1_1, .int .i64 a1_2, .int .i64 a1_3]] [] = ((cmp_Compare_int.f a0_0 a1_0).bind fun t1 => ((strings_Compare.f a0_1 a1_1).bind fun t2 => ((cmp_Compare_int.f a0_2 a1_2).bind fun t3 => ((cmp_Or_int.f k ([t1, t2, t3])).bind fun t4 => (some (impl_stepOrder.en t4)))))) := by kernel_rfl
theorem impl_stepOrder.sf (k : Nat) (a0_0 : Int) (a0_1 : ByteArray) (a0_2 : Int) (a0_3 : Int) (a1_0 : Int) (a1_1 : ByteArray) (a1_2 : Int) (a1_3 : Int) : R.start Try.prog xhn impl_stepOrder.O 0 Try.f152 impl_stepOrder.fh k [.agg [.int .i64 a0_0, .str a0_1, .int .i64 a0_2, .int .i64 a0_3], .agg [.int .i64 a1_0, .str a1_1, .int .i64 a1_2, .int .i64 a1_3]] [] = (impl_stepOrder.f k a0_0 a0_1 a0_2 a0_3 a1_0 a1_1 a1_2 a1_3).map (impl_stepOrder.en) := by
  rw [impl_stepOrder.ef]
  simp only [impl_stepOrder.f, R.map_ite, R.map_bind, R.map_none, R.map_some, R.wr64_eq]
theorem impl_stepOrder.ok (k : Nat) : impl_stepOrder.tw.Ok Try.prog k := by
  intro a r h
  refine fn_ok (H := xhn) (fh := impl_stepOrder.fh) (O := impl_stepOrder.O) (k := k) Try.func152 (by kernel_rfl) (by kernel_rfl) (fun j _ => (Tw.orc_sound cmp_Compare_int.dok (cmp_Compare_int.ok j) (Tw.orc_sound strings_Compare.dok (strings_Compare.ok j) (Tw.orc_sound cmp_Or_int.dok (cmp_Or_int.ok j) noO_sound)))) (by kernel_rfl) (m := 0) rfl ?_
  refine (impl_stepOrder.sf k a.1 a.2.1 a.2.2.1 a.2.2.2.1 a.2.2.2.2.1 a.2.2.2.2.2.1 a.2.2.2.2.2.2.1 a.2.2.2.2.2.2.2).trans ?_
  exact congrArg (Option.map _) h
def impl_AutomatonValid.l0 : Nat → (List Stp) → Int → Int → Int → (List Int) → (List Int) → (List Stp) → Option (Bool)
  | 0, _, _, _, _, _, _, _ => none
  | k + 1, x36, x37, x38, y0_0, y0_1, y0_2, y0_3 => (if x38 < x37 then (if 0 ≤ x38 then (if x38 < (x36.length : Int) then (if (rdT x36 x38).f0 < 0 then (some false) else (if (rdT x36 x38).f0 ≥ y0_0 then (some false) else (if (rdT x36 x38).f2 < 0 then (some false) else (if (rdT x36 x38).f2 ≥ y0_0 then (some false) else (if (rdT x36 x38).f1.toList = ([97] : List UInt8) then (if (rdT x36 x38).f3 < 0 then (some false) else (if (rdT x36 x38).f3 > 3 then (some false) else (if x38 > 0 then (if 0 ≤ (wrap64 (x38 - 1)) then (if (wrap64 (x38 - 1)) < (y0_3.length : Int) then ((impl_stepOrder.f k ((rdT y0_3 (wrap64 (x38 - 1))).f0) ((rdT y0_3 (wrap64 (x38 - 1))).f1) ((rdT y0_3 (wrap64 (x38 - 1))).f2) ((rdT y0_3 (wrap64 (x38 - 1))).f3) ((rdT x36 x38).f0) ((rdT x36 x38).f1) ((rdT x36 x38).f2) ((rdT x36 x38).f3)).bind fun t3 => (if t3 ≥ 0 then (some false) else (impl_AutomatonValid.l0 k x36 x37 (wrap64 (x38 + 1)) y0_0 y0_1 y0_2 y0_3))) else none) else none) else (impl_AutomatonValid.l0 k x36 x37 (wrap64 (x38 + 1)) y0_0 y0_1 y0_2 y0_3)))) else (if (rdT x36 x38).f1.toList = ([98] : List UInt8) then (if (rdT x36 x38).f3 < 0 then (some false) else (if (rdT x36 x38).f3 > 3 then (some false) else (if x38 > 0 then (if 0 ≤ (wrap64 (x38 - 1)) then (if (wrap64 (x38 - 1)) < (y0_3.length : Int) then ((impl_stepOrder.f k ((rdT y0_3 (wrap64 (x38 - 1))).f0) ((rdT y0_3 (wrap64 (x38 - 1))).f1) ((rdT y0_3 (wrap64 (x38 - 1))).f2) ((rdT y0_3 (wrap64 (x38 - 1))).f3) ((rdT x36 x38).f0) ((rdT x36 x38).f1) ((rdT x36 x38).f2) ((rdT x36 x38).f3)).bind fun t4 => (if t4 ≥ 0 then (some false) else (impl_AutomatonValid.l0 k x36 x37 (wrap64 (x38 + 1)) y0_0 y0_1 y0_2 y0_3))) else none) else none) else (impl_AutomatonValid.l0 k x36 x37 (wrap64 (x38 + 1)) y0_0 y0_1 y0_2 y0_3)))) else (some false))))))) else none) else none) else (some true))
def impl_AutomatonValid.f (k : Nat) (a0_0 : Int) (l0_1 : List Int) (l0_2 : List Int) (l0_3 : List Stp) : Option (Bool) := (if a0_0 < 1 then (some false) else (if a0_0 > 4 then (some false) else (if (l0_3.length : Int) > 24 then (some false) else ((impl_statesOk.f k l0_1 a0_0).bind fun t1 => (if t1 = true then ((impl_statesOk.f k l0_2 a0_0).bind fun t2 => (if t2 = true then (impl_AutomatonValid.l0 k l0_3 (l0_3.length : Int) 0 a0_0 l0_1 l0_2 l0_3) else (some false))) else (some false))))))
def impl_AutomatonValid.en (r : Bool) : Res := (.lit r, [])
def impl_AutomatonValid.dec : List AV → List R.Obj → Option (Int × (List Int) × (List Int) × (List Stp))
  | [.agg [.int .i64 a0_0, .imm (.I .i64 l0_1), .imm (.I .i64 l0_2), .imm (.T l0_3)]], [] => some (a0_0, l0_1, l0_2, l0_3)
  | _, _ => none
def impl_AutomatonValid.tw : Tw := ⟨89, Int × (List Int) × (List Int) × (List Stp), Bool, impl_AutomatonValid.dec, fun a => [.agg [.int .i64 a.1, .imm (.I .i64 a.2.1), .imm (.I .i64 a.2.2.1), .imm (.T a.2.2.2)]], fun a => [], fun k a => impl_AutomatonValid.f k a.1 a.2.1 a.2.2.1 a.2.2.2, fun a r => impl_AutomatonValid.en r⟩
theorem impl_AutomatonValid.dok : impl_AutomatonValid.tw.DecOk := by
  intro args hc a h
  have h : impl_AutomatonValid.dec args hc = some a := h
  unfold impl_AutomatonValid.dec at h
  split at h
  · cases h; exact ⟨rfl, rfl⟩
  · cases h
noncomputable def impl_AutomatonValid.O (k : Nat) : Oracle := (impl_statesOk.tw.orc k (impl_stepOrder.tw.orc k noO))
def impl_AutomatonValid.fh : FH := ⟨fun i => match i with | 4 => some [(1, 0), (36, 0), (37, 0), (38, 0)] | _ => none, [], false⟩
noncomputable def impl_AutomatonValid.x0 (k : Nat) (x36 : List Stp) (x37 : Int) (x38 : Int) (y0_0 : Int) (y0_1 : List Int) (y0_2 : List Int) (y0_3 : List Stp) : Option Res := R.exec Try.prog xhn impl_AutomatonValid.O 0 Try.f89 impl_AutomatonValid.fh k (R.point Try.f89 4) ⟨[(1, .ptr 0 0), (36, .imm (.T x36)), (37, .int .i64 x37), (38, .int .i64 x38)], [(0, .box false [.int .i64 y0_0, .imm (.I .i64 y0_1), .imm (.I .i64 y0_2), .imm (.T y0_3)])], 3⟩
set_option maxRecDepth 100000 in
theorem impl_AutomatonValid.e0 (k : Nat) (x36 : List Stp) (x37 : Int) (x38 : Int) (y0_0 : Int) (y0_1 : List Int) (y0_2 : List Int) (y0_3 : List Stp) : impl_AutomatonValid.x0 (k + 1) x36 x37 x38 y0_0 y0_1 y0_2 y0_3 = (if x38 < x37 then (if 0 ≤ x38 then (if x38 < (x36.length : Int) then (if (rdT x36 x38).f0 < 0 then (some (impl_AutomatonValid.en false)) else (if (rdT x36 x38).f0 ≥ y0_0 then (some (impl_AutomatonValid.en false)) else (if (rdT x36 x38).f2 < 0 then (some (impl_AutomatonValid.en false)) else (if (rdT x36 x38).f2 ≥ y0_0 then (some (impl_AutomatonValid.en false)) else (if (rdT x36 x38).f1.toList = ([97] : List UInt8) then (if (rdT x36 x38).f3 < 0 then (some (impl_AutomatonValid.en false)) else (if (rdT x36 x38).f3 > 3 then (some (impl_AutomatonValid.en false)) else (if x38 > 0 then (if 0 ≤ (wr64 (x38 - 1)) then (if (wr64 (x38 - 1)) < (y0_3.length : Int) then ((impl_stepOrder.f k ((rdT y0_3 (wr64 (x38 - 1))).f0) ((rdT y0_3 (wr64 (x38 - 1))).f1) ((rdT y0_3 (wr64 (x38 - 1))).f2) ((rdT y0_3 (wr64 (x38 - 1))).f3) ((rdT x36 x38).f0) ((rdT x36 x38).f1) ((rdT x36 x38).f2) ((rdT x36 x38).f3)).bind fun t3 => (if t3 ≥ 0 then (some (impl_AutomatonValid.en false)) else (impl_AutomatonValid.x0 k x36 x37 (wr64 (x38 + 1)) y0_0 y0_1 y0_2 y0_3))) else none) else none) else (impl_AutomatonValid.x0 k x36 x37 (wr64 (x38 + 1)) y0_0 y0_1 y0_2 y0_3)))) else (if (rdT x36 x38).f1.toList = ([98] : List UInt8) then (if (rdT x36 x38).f3 < 0 then (some (impl_AutomatonValid.en false)) else (if (rdT x36 x38).f3 > 3 then (some (impl_AutomatonValid.en false)) else (if x38 > 0 then (if 0 ≤ (wr64 (x38 - 1)) then (if (wr64 (x38 - 1)) < (y0_3.length : Int) then ((impl_stepOrder.f k ((rdT y0_3 (wr64 (x38 - 1))).f0) ((rdT y0_3 (wr64 (x38 - 1))).f1) ((rdT y0_3 (wr64 (x38 - 1))).f2) ((rdT y0_3 (wr64 (x38 - 1))).f3) ((rdT x36 x38).f0) ((rdT x36 x38).f1) ((rdT x36 x38).f2) ((rdT x36 x38).f3)).bind fun t4 => (if t4 ≥ 0 then (some (impl_AutomatonValid.en false)) else (impl_AutomatonValid.x0 k x36 x37 (wr64 (x38 + 1)) y0_0 y0_1 y0_2 y0_3))) else none) else none) else (impl_AutomatonValid.x0 k x36 x37 (wr64 (x38 + 1)) y0_0 y0_1 y0_2 y0_3)))) else (some (impl_AutomatonValid.en false)))))))) else none) else none) else (some (impl_AutomatonValid.en true))) := by kernel_rfl
set_option maxRecDepth 100000 in
theorem impl_AutomatonValid.ef (k : Nat) (a0_0 : Int) (l0_1 : List Int) (l0_2 : List Int) (l0_3 : List Stp) : R.start Try.prog xhn impl_AutomatonValid.O 0 Try.f89 impl_AutomatonValid.fh k [.agg [.int .i64 a0_0, .imm (.I .i64 l0_1), .imm (.I .i64 l0_2), .imm (.T l0_3)]] [] = (if a0_0 < 1 then (some (impl_AutomatonValid.en false)) else (if a0_0 > 4 then (some (impl_AutomatonValid.en false)) else (if (l0_3.length : Int) > 24 then (some (impl_AutomatonValid.en false)) else ((impl_statesOk.f k l0_1 a0_0).bind fun t1 => (if t1 = true then ((impl_statesOk.f k l0_2 a0_0).bind fun t2 => (if t2 = true then (impl_AutomatonValid.x0 k l0_3 (l0_3.length : Int) 0 a0_0 l0_1 l0_2 l0_3) else (some (impl_AutomatonValid.en false)))) else (some (impl_AutomatonValid.en false))))))) := by kernel_rfl
theorem impl_AutomatonValid.link : ∀ k, (∀ (x36 : List Stp) (x37 : Int) (x38 : Int) (y0_0 : Int) (y0_1 : List Int) (y0_2 : List Int) (y0_3 : List Stp), impl_AutomatonValid.x0 k x36 x37 x38 y0_0 y0_1 y0_2 y0_3 = (impl_AutomatonValid.l0 k x36 x37 x38 y0_0 y0_1 y0_2 y0_3).map (impl_AutomatonValid.en))
  | 0 => fun _ _ _ _ _ _ _ => by simp only [impl_AutomatonValid.l0, R.map_none]; rfl
  | k + 1 => by
    have ih0 := impl_AutomatonValid.link k
    · intro x36 x37 x38 y0_0 y0_1 y0_2 y0_3
      rw [impl_AutomatonValid.e0]
      simp only [impl_AutomatonValid.l0, R.map_ite, R.map_bind, R.map_none, R.map_some, R.wr64_eq, ← ih0]
theorem impl_AutomatonValid.sf (k : Nat) (a0_0 : Int) (l0_1 : List Int) (l0_2 : List Int) (l0_3 : List Stp) : R.start Try.prog xhn impl_AutomatonValid.O 0 Try.f89 impl_AutomatonValid.fh k [.agg [.int .i64 a0_0, .imm (.I .i64 l0_1), .imm (.I .i64 l0_2), .imm (.T l0_3)]] [] = (impl_AutomatonValid.f k a0_0 l0_1 l0_2 l0_3).map (impl_AutomatonValid.en) := by
  have ih0 := impl_AutomatonValid.link k
  rw [impl_AutomatonValid.ef]
  simp only [impl_AutomatonValid.f, R.map_ite, R.map_bind, R.map_none, R.map_some, R.wr64_eq, ← ih0]
theorem impl_AutomatonValid.ok (k : Nat) : impl_AutomatonValid.tw.Ok Try.prog k := by
  intro a r h
  refine fn_ok (H := xhn) (fh := impl_AutomatonValid.fh) (O := impl_AutomatonValid.O) (k := k) Try.func89 (by kernel_rfl) (by kernel_rfl) (fun j _ => (Tw.orc_sound impl_statesOk.dok (impl_statesOk.ok j) (Tw.orc_sound impl_stepOrder.dok (impl_stepOrder.ok j) noO_sound))) (by kernel_rfl) (m := 0) rfl ?_
  refine (impl_AutomatonValid.sf k a.1 a.2.1 a.2.2.1 a.2.2.2).trans ?_
  exact congrArg (Option.map _) h
def impl_StepMatrix_1.f (a0 : Int) (a1 : Int) : Option (Int) := (some 1000000)
def impl_StepMatrix_1.en (r : Int) : Res := (.int .i64 r, [])
def impl_StepMatrix_1.dec : List AV → List R.Obj → Option (Int × Int)
  | [.int .i64 a0, .int .i64 a1], [] => some (a0, a1)
  | _, _ => none
def impl_StepMatrix_1.tw : Tw := ⟨111, Int × Int, Int, impl_StepMatrix_1.dec, fun a => [.int .i64 a.1, .int .i64 a.2], fun a => [], fun k a => impl_StepMatrix_1.f a.1 a.2, fun a r => impl_StepMatrix_1.en r⟩
theorem impl_StepMatrix_1.dok : impl_StepMatrix_1.tw.DecOk := by
  intro args hc a h
  have h : impl_StepMatrix_1.dec args hc = some a := h
  unfold impl_StepMatrix_1.dec at h
  split at h
  · cases h; exact ⟨rfl, rfl⟩
  · cases h
noncomputable def impl_StepMatrix_1.O (k : Nat) : Oracle := noO
def impl_StepMatrix_1.fh : FH := ⟨fun i => match i with | _ => none, [], false⟩
set_option maxRecDepth 100000 in
theorem impl_StepMatrix_1.ef (k : Nat) (a0 : Int) (a1 : Int) : R.start Try.prog xhn impl_StepMatrix_1.O 0 Try.f111 impl_StepMatrix_1.fh k [.int .i64 a0, .int .i64 a1] [] = (some (impl_StepMatrix_1.en 1000000)) := by kernel_rfl
theorem impl_StepMatrix_1.sf (k : Nat) (a0 : Int) (a1 : Int) : R.start Try.prog xhn impl_StepMatrix_1.O 0 Try.f111 impl_StepMatrix_1.fh k [.int .i64 a0, .int .i64 a1] [] = (impl_StepMatrix_1.f a0 a1).map (impl_StepMatrix_1.en) := by
  rw [impl_StepMatrix_1.ef]
  simp only [impl_StepMatrix_1.f, R.map_ite, R.map_bind, R.map_none, R.map_some, R.wr64_eq]
theorem impl_StepMatrix_1.ok (k : Nat) : impl_StepMatrix_1.tw.Ok Try.prog k := by
  intro a r h
  refine fn_ok (H := xhn) (fh := impl_StepMatrix_1.fh) (O := impl_StepMatrix_1.O) (k := k) Try.func111 (by kernel_rfl) (by kernel_rfl) (fun j _ => noO_sound) (by kernel_rfl) (m := 0) rfl ?_
  refine (impl_StepMatrix_1.sf k a.1 a.2).trans ?_
  exact congrArg (Option.map _) h
mutual
def impl_filled.l0 : Nat → Int → Int → Int → Int → (List Int) → Option (Int × (List Int))
  | 0, _, _, _, _, _ => none
  | k + 1, x0, x10, x11, y1_0, y3 => (if x11 < x10 then (impl_filled.l1 k x0 x11 x10 x11 x0 0 y1_0 y3) else (some (y1_0, y3)))
def impl_filled.l1 : Nat → Int → Int → Int → Int → Int → Int → Int → (List Int) → Option (Int × (List Int))
  | 0, _, _, _, _, _, _, _, _ => none
  | k + 1, x0, x6, x10, x11, x14, x15, y1_0, y3 => (if x15 < x14 then ((impl_StepMatrix_1.f x6 x15).bind fun t1 => (if y3.length < 17592186044416 then (impl_filled.l1 k x0 x6 x10 x11 x14 (wrap64 (x15 + 1)) y1_0 (y3 ++ [t1])) else none)) else (impl_filled.l0 k x0 x10 (wrap64 (x11 + 1)) y1_0 y3))
end
def impl_filled.f (k : Nat) (a0 : Int) : Option (Int × (List Int)) := (impl_filled.l0 k a0 a0 0 a0 ([] : List Int))
def impl_filled.en (r : Int × (List Int)) : Res := (.agg [.int .i64 r.1, .sl 0 0], [.arr 3 0 (.I .i64 r.2) false])
def impl_filled.dec : List AV → List R.Obj → Option (Int)
  | [.int .i64 a0, .clo 111 []], [] => some a0
  | _, _ => none
def impl_filled.tw : Tw := ⟨107, Int, Int × (List Int), impl_filled.dec, fun a => [.int .i64 a, .clo 111 []], fun a => [], fun k a => impl_filled.f k a, fun a r => impl_filled.en r⟩
theorem impl_filled.dok : impl_filled.tw.DecOk := by
  intro args hc a h
  have h : impl_filled.dec args hc = some a := h
  unfold impl_filled.dec at h
  split at h
  · cases h; exact ⟨rfl, rfl⟩
  · cases h
noncomputable def impl_filled.O (k : Nat) : Oracle := (impl_StepMatrix_1.tw.orc k noO)
def impl_filled.fh : FH := ⟨fun i => match i with | 3 => some [(0, 0), (1, 0), (4, 0), (5, 0), (10, 0), (11, 0)] | 6 => some [(0, 0), (1, 0), (4, 0), (5, 0), (6, 0), (10, 0), (11, 0), (14, 0), (15, 0)] | _ => none, [(true, 3)], false⟩
noncomputable def impl_filled.x0 (k : Nat) (x0 : Int) (x10 : Int) (x11 : Int) (y1_0 : Int) (y3 : List Int) : Option Res := R.exec Try.prog xhn impl_filled.O 0 Try.f107 impl_filled.fh k (R.point Try.f107 3) ⟨[(0, .int .i64 x0), (1, .clo 111 []), (4, .ptr 0 0), (5, .ptr 1 0), (10, .int .i64 x10), (11, .int .i64 x11)], [(0, .box false [.int .i64 0, .sl 2 0]), (1, .box false [.int .i64 y1_0, .sl 3 0]), (2, .arr 3 0 (.I .i64 ([] : List Int)) false), (3, .arr 3 0 (.I .i64 y3) false)], 6⟩
noncomputable def impl_filled.x1 (k : Nat) (x0 : Int) (x6 : Int) (x10 : Int) (x11 : Int) (x14 : Int) (x15 : Int) (y1_0 : Int) (y3 : List Int) : Option Res := R.exec Try.prog xhn impl_filled.O 0 Try.f107 impl_filled.fh k (R.point Try.f107 6) ⟨[(0, .int .i64 x0), (1, .clo 111 []), (4, .ptr 0 0), (5, .ptr 1 0), (6, .int .i64 x6), (10, .int .i64 x10), (11, .int .i64 x11), (14, .int .i64 x14), (15, .int .i64 x15)], [(0, .box false [.int .i64 0, .sl 2 0]), (1, .box false [.int .i64 y1_0, .sl 3 0]), (2, .arr 3 0 (.I .i64 ([] : List Int)) false), (3, .arr 3 0 (.I .i64 y3) false)], 6⟩
set_option maxRecDepth 100000 in
theorem impl_filled.e0 (k : Nat) (x0 : Int) (x10 : Int) (x11 : Int) (y1_0 : Int) (y3 : List Int) : impl_filled.x0 (k + 1) x0 x10 x11 y1_0 y3 = (if x11 < x10 then (impl_filled.x1 k x0 x11 x10 x11 x0 0 y1_0 y3) else (some (impl_filled.en (y1_0, y3)))) := by kernel_rfl
set_option maxRecDepth 100000 in
theorem impl_filled.e1 (k : Nat) (x0 : Int) (x6 : Int) (x10 : Int) (x11 : Int) (x14 : Int) (x15 : Int) (y1_0 : Int) (y3 : List Int) : impl_filled.x1 (k + 1) x0 x6 x10 x11 x14 x15 y1_0 y3 = (if x15 < x14 then ((impl_StepMatrix_1.f x6 x15).bind fun t1 => (if y3.length < 17592186044416 then (impl_filled.x1 k x0 x6 x10 x11 x14 (wr64 (x15 + 1)) y1_0 (y3 ++ [t1])) else none)) else (impl_filled.x0 k x0 x10 (wr64 (x11 + 1)) y1_0 y3)) := by kernel_rfl
set_option maxRecDepth 100000 in
theorem impl_filled.ef (k : Nat) (a0 : Int) : R.start Try.prog xhn impl_filled.O 0 Try.f107 impl_filled.fh k [.int .i64 a0, .clo 111 []] [] = (impl_filled.x0 k a0 a0 0 a0 ([] : List Int)) := by kernel_rfl
theorem impl_filled.link : ∀ k, (∀ (x0 : Int) (x10 : Int) (x11 : Int) (y1_0 : Int) (y3 : List Int), impl_filled.x0 k x0 x10 x11 y1_0 y3 = (impl_filled.l0 k x0 x10 x11 y1_0 y3).map (impl_filled.en)) ∧ (∀ (x0 : Int) (x6 : Int) (x10 : Int) (x11 : Int) (x14 : Int) (x15 : Int) (y1_0 : Int) (y3 : List Int), impl_filled.x1 k x0 x6 x10 x11 x14 x15 y1_0 y3 = (impl_filled.l1 k x0 x6 x10 x11 x14 x15 y1_0 y3).map (impl_filled.en))
  | 0 => ⟨fun _ _ _ _ _ => by simp only [impl_filled.l0, R.map_none]; rfl, fun _ _ _ _ _ _ _ _ => by simp only [impl_filled.l1, R.map_none]; rfl⟩
  | k + 1 => by
    obtain ⟨ih0, ih1⟩ := impl_filled.link k
    refine ⟨?_, ?_⟩
    · intro x0 x10 x11 y1_0 y3
      rw [impl_filled.e0]
      simp only [impl_filled.l0, R.map_ite, R.map_bind, R.map_none, R.map_some, R.wr64_eq, ← ih0, ← ih1]
    · intro x0 x6 x10 x11 x14 x15 y1_0 y3
      rw [impl_filled.e1]
      simp only [impl_filled.l1, R.map_ite, R.map_bind, R.map_none, R.map_some, R.wr64_eq, ← ih0, ← ih1]
theorem impl_filled.sf (k : Nat) (a0 : Int) : R.start Try.prog xhn impl_filled.O 0 Try.f107 impl_filled.fh k [.int .i64 a0, .clo 111 []] [] = (impl_filled.f k a0).map (impl_filled.en) := by
  obtain ⟨ih0, ih1⟩ := impl_filled.link k
  rw [impl_filled.ef]
  simp only [impl_filled.f, R.map_ite, R.map_bind, R.map_none, R.map_some, R.wr64_eq, ← ih0, ← ih1]
theorem impl_filled.ok (k : Nat) : impl_filled.tw.Ok Try.prog k := by
  intro a r h
  refine fn_ok (H := xhn) (fh := impl_filled.fh) (O := impl_filled.O) (k := k) Try.func107 (by kernel_rfl) (by kernel_rfl) (fun j _ => (Tw.orc_sound impl_StepMatrix_1.dok (impl_StepMatrix_1.ok j) noO_sound)) (by kernel_rfl) (m := 0) rfl ?_
  refine (impl_filled.sf k a).trans ?_
  exact congrArg (Option.map _) h
def impl_StepMatrix.l0 : Nat → ByteArray → (List Stp) → Int → Int → Int → (List Int) → Option (Int × (List Int) × Bool)
  | 0, _, _, _, _, _, _ => none
  | k + 1, x1, x25, x26, x27, y1_0, y3 => (if x27 < x26 then (if 0 ≤ x27 then (if x27 < (x25.length : Int) then (if (rdT x25 x27).f1.toList = x1.toList then (if 0 ≤ (wrap64 ((wrap64 ((rdT x25 x27).f0 * y1_0)) + (rdT x25 x27).f2)) then (if (wrap64 ((wrap64 ((rdT x25 x27).f0 * y1_0)) + (rdT x25 x27).f2)) < (y3.length : Int) then (impl_StepMatrix.l0 k x1 x25 x26 (wrap64 (x27 + 1)) y1_0 (y3.set (wrap64 ((wrap64 ((rdT x25 x27).f0 * y1_0)) + (rdT x25 x27).f2)).toNat (rdT x25 x27).f3)) else none) else none) else (impl_StepMatrix.l0 k x1 x25 x26 (wrap64 (x27 + 1)) y1_0 y3)) else none) else none) else (some (y1_0, y3, true)))
def impl_StepMatrix.f (k : Nat) (a0_0 : Int) (l0_1 : List Int) (l0_2 : List Int) (l0_3 : List Stp) (a1 : ByteArray) : Option (Int × (List Int) × Bool) := ((impl_AutomatonValid.f k a0_0 l0_1 l0_2 l0_3).bind fun t1 => (if t1 = true then (if a1.toList = ([97] : List UInt8) then ((impl_filled.f k a0_0).bind fun t2 => (impl_StepMatrix.l0 k a1 l0_3 (l0_3.length : Int) 0 t2.1 t2.2)) else (if a1.toList = ([98] : List UInt8) then ((impl_filled.f k a0_0).bind fun t3 => (impl_StepMatrix.l0 k a1 l0_3 (l0_3.length : Int) 0 t3.1 t3.2)) else (some (0, ([] : List Int), false)))) else (some (0, ([] : List Int), false))))
def impl_StepMatrix.en (r : Int × (List Int) × Bool) : Res := (.tup [.agg [.int .i64 r.1, .sl 0 0], .lit r.2.2], [.arr 3 0 (.I .i64 r.2.1) false])
def impl_StepMatrix.dec : List AV → List R.Obj → Option (Int × (List Int) × (List Int) × (List Stp) × ByteArray)
  | [.agg [.int .i64 a0_0, .imm (.I .i64 l0_1), .imm (.I .i64 l0_2), .imm (.T l0_3)], .str a1], [] => some (a0_0, l0_1, l0_2, l0_3, a1)
  | _, _ => none
def impl_StepMatrix.tw : Tw := ⟨43, Int × (List Int) × (List Int) × (List Stp) × ByteArray, Int × (List Int) × Bool, impl_StepMatrix.dec, fun a => [.agg [.int .i64 a.1, .imm (.I .i64 a.2.1), .imm (.I .i64 a.2.2.1), .imm (.T a.2.2.2.1)], .str a.2.2.2.2], fun a => [], fun k a => impl_StepMatrix.f k a.1 a.2.1 a.2.2.1 a.2.2.2.1 a.2.2.2.2, fun a r => impl_StepMatrix.en r⟩
theorem impl_StepMatrix.dok : impl_StepMatrix.tw.DecOk := by
  intro args hc a h
  have h : impl_StepMatrix.dec args hc = some a := h
  unfold impl_StepMatrix.dec at h
  split at h
  · cases h; exact ⟨rfl, rfl⟩
  · cases h
noncomputable def impl_StepMatrix.O (k : Nat) : Oracle := (impl_AutomatonValid.tw.orc k (impl_filled.tw.orc k noO))
def impl_StepMatrix.fh : FH := ⟨fun i => match i with | 5 => some [(1, 0), (4, 0), (6, 0), (25, 0), (26, 0), (27, 0)] | _ => none, [(true, 3)], false⟩
noncomputable def impl_StepMatrix.x0 (k : Nat) (x1 : ByteArray) (x25 : List Stp) (x26 : Int) (x27 : Int) (y1_0 : Int) (y3 : List Int) : Option Res := R.exec Try.prog xhn impl_StepMatrix.O 0 Try.f43 impl_StepMatrix.fh k (R.point Try.f43 5) ⟨[(1, .str x1), (4, .ptr 0 0), (6, .ptr 1 0), (25, .imm (.T x25)), (26, .int .i64 x26), (27, .int .i64 x27)], [(0, .box false [.int .i64 0, .sl 2 0]), (1, .box false [.int .i64 y1_0, .sl 3 0]), (2, .arr 3 0 (.I .i64 ([] : List Int)) false), (3, .arr 3 0 (.I .i64 y3) false)], 6⟩
set_option maxRecDepth 100000 in
theorem impl_StepMatrix.e0 (k : Nat) (x1 : ByteArray) (x25 : List Stp) (x26 : Int) (x27 : Int) (y1_0 : Int) (y3 : List Int) : impl_StepMatrix.x0 (k + 1) x1 x25 x26 x27 y1_0 y3 = (if x27 < x26 then (if 0 ≤ x27 then (if x27 < (x25.length : Int) then (if (rdT x25 x27).f1.toList = x1.toList then (if 0 ≤ (wr64 ((wr64 ((rdT x25 x27).f0 * y1_0)) + (rdT x25 x27).f2)) then (if (wr64 ((wr64 ((rdT x25 x27).f0 * y1_0)) + (rdT x25 x27).f2)) < (y3.length : Int) then (impl_StepMatrix.x0 k x1 x25 x26 (wr64 (x27 + 1)) y1_0 (y3.set (wr64 ((wr64 ((rdT x25 x27).f0 * y1_0)) + (rdT x25 x27).f2)).toNat (rdT x25 x27).f3)) else none) else none) else (impl_StepMatrix.x0 k x1 x25 x26 (wr64 (x27 + 1)) y1_0 y3)) else none) else none) else (some (impl_StepMatrix.en (y1_0, y3, true)))) := by kernel_rfl
set_option maxRecDepth 100000 in
theorem impl_StepMatrix.ef (k : Nat) (a0_0 : Int) (l0_1 : List Int) (l0_2 : List Int) (l0_3 : List Stp) (a1 : ByteArray) : R.start Try.prog xhn impl_StepMatrix.O 0 Try.f43 impl_StepMatrix.fh k [.agg [.int .i64 a0_0, .imm (.I .i64 l0_1), .imm (.I .i64 l0_2), .imm (.T l0_3)], .str a1] [] = ((impl_AutomatonValid.f k a0_0 l0_1 l0_2 l0_3).bind fun t1 => (if t1 = true then (if a1.toList = ([97] : List UInt8) then ((impl_filled.f k a0_0).bind fun t2 => (impl_StepMatrix.x0 k a1 l0_3 (l0_3.length : Int) 0 t2.1 t2.2)) else (if a1.toList = ([98] : List UInt8) then ((impl_filled.f k a0_0).bind fun t3 => (impl_StepMatrix.x0 k a1 l0_3 (l0_3.length : Int) 0 t3.1 t3.2)) else (some (impl_StepMatrix.en (0, ([] : List Int), false))))) else (some (impl_StepMatrix.en (0, ([] : List Int), false))))) := by kernel_rfl
theorem impl_StepMatrix.link : ∀ k, (∀ (x1 : ByteArray) (x25 : List Stp) (x26 : Int) (x27 : Int) (y1_0 : Int) (y3 : List Int), impl_StepMatrix.x0 k x1 x25 x26 x27 y1_0 y3 = (impl_StepMatrix.l0 k x1 x25 x26 x27 y1_0 y3).map (impl_StepMatrix.en))
  | 0 => fun _ _ _ _ _ _ => by simp only [impl_StepMatrix.l0, R.map_none]; rfl
  | k + 1 => by
    have ih0 := impl_StepMatrix.link k
    · intro x1 x25 x26 x27 y1_0 y3
      rw [impl_StepMatrix.e0]
      simp only [impl_StepMatrix.l0, R.map_ite, R.map_bind, R.map_none, R.map_some, R.wr64_eq, ← ih0]
theorem impl_StepMatrix.sf (k : Nat) (a0_0 : Int) (l0_1 : List Int) (l0_2 : List Int) (l0_3 : List Stp) (a1 : ByteArray) : R.start Try.prog xhn impl_StepMatrix.O 0 Try.f43 impl_StepMatrix.fh k [.agg [.int .i64 a0_0, .imm (.I .i64 l0_1), .imm (.I .i64 l0_2), .imm (.T l0_3)], .str a1] [] = (impl_StepMatrix.f k a0_0 l0_1 l0_2 l0_3 a1).map (impl_StepMatrix.en) := by
  have ih0 := impl_StepMatrix.link k
  rw [impl_StepMatrix.ef]
  simp only [impl_StepMatrix.f, R.map_ite, R.map_bind, R.map_none, R.map_some, R.wr64_eq, ← ih0]
theorem impl_StepMatrix.ok (k : Nat) : impl_StepMatrix.tw.Ok Try.prog k := by
  intro a r h
  refine fn_ok (H := xhn) (fh := impl_StepMatrix.fh) (O := impl_StepMatrix.O) (k := k) Try.func43 (by kernel_rfl) (by kernel_rfl) (fun j _ => (Tw.orc_sound impl_AutomatonValid.dok (impl_AutomatonValid.ok j) (Tw.orc_sound impl_filled.dok (impl_filled.ok j) noO_sound))) (by kernel_rfl) (m := 0) rfl ?_
  refine (impl_StepMatrix.sf k a.1 a.2.1 a.2.2.1 a.2.2.2.1 a.2.2.2.2).trans ?_
  exact congrArg (Option.map _) h
def impl_CostValid.f (a0 : Int) : Option (Bool) := (if a0 ≥ 0 then (some (decide (a0 ≤ 1000000))) else (some false))
def impl_CostValid.en (r : Bool) : Res := (.lit r, [])
def impl_CostValid.dec : List AV → List R.Obj → Option (Int)
  | [.int .i64 a0], [] => some a0
  | _, _ => none
def impl_CostValid.tw : Tw := ⟨139, Int, Bool, impl_CostValid.dec, fun a => [.int .i64 a], fun a => [], fun k a => impl_CostValid.f a, fun a r => impl_CostValid.en r⟩
theorem impl_CostValid.dok : impl_CostValid.tw.DecOk := by
  intro args hc a h
  have h : impl_CostValid.dec args hc = some a := h
  unfold impl_CostValid.dec at h
  split at h
  · cases h; exact ⟨rfl, rfl⟩
  · cases h
noncomputable def impl_CostValid.O (k : Nat) : Oracle := noO
def impl_CostValid.fh : FH := ⟨fun i => match i with | _ => none, [], false⟩
set_option maxRecDepth 100000 in
theorem impl_CostValid.ef (k : Nat) (a0 : Int) : R.start Try.prog xhn impl_CostValid.O 0 Try.f139 impl_CostValid.fh k [.int .i64 a0] [] = (if a0 ≥ 0 then (some (impl_CostValid.en (decide (a0 ≤ 1000000)))) else (some (impl_CostValid.en false))) := by kernel_rfl
theorem impl_CostValid.sf (k : Nat) (a0 : Int) : R.start Try.prog xhn impl_CostValid.O 0 Try.f139 impl_CostValid.fh k [.int .i64 a0] [] = (impl_CostValid.f a0).map (impl_CostValid.en) := by
  rw [impl_CostValid.ef]
  simp only [impl_CostValid.f, R.map_ite, R.map_bind, R.map_none, R.map_some, R.wr64_eq]
theorem impl_CostValid.ok (k : Nat) : impl_CostValid.tw.Ok Try.prog k := by
  intro a r h
  refine fn_ok (H := xhn) (fh := impl_CostValid.fh) (O := impl_CostValid.O) (k := k) Try.func139 (by kernel_rfl) (by kernel_rfl) (fun j _ => noO_sound) (by kernel_rfl) (m := 0) rfl ?_
  refine (impl_CostValid.sf k a).trans ?_
  exact congrArg (Option.map _) h
def impl_MatrixValid_1.f (a0 : Int) : Option (Bool) := ((impl_CostValid.f a0).bind fun t1 => (some (!decide (t1 = true))))
def impl_MatrixValid_1.en (r : Bool) : Res := (.lit r, [])
def impl_MatrixValid_1.dec : List AV → List R.Obj → Option (Int)
  | [.int .i64 a0], [] => some a0
  | _, _ => none
def impl_MatrixValid_1.tw : Tw := ⟨163, Int, Bool, impl_MatrixValid_1.dec, fun a => [.int .i64 a], fun a => [], fun k a => impl_MatrixValid_1.f a, fun a r => impl_MatrixValid_1.en r⟩
theorem impl_MatrixValid_1.dok : impl_MatrixValid_1.tw.DecOk := by
  intro args hc a h
  have h : impl_MatrixValid_1.dec args hc = some a := h
  unfold impl_MatrixValid_1.dec at h
  split at h
  · cases h; exact ⟨rfl, rfl⟩
  · cases h
noncomputable def impl_MatrixValid_1.O (k : Nat) : Oracle := (impl_CostValid.tw.orc k noO)
def impl_MatrixValid_1.fh : FH := ⟨fun i => match i with | _ => none, [], false⟩
set_option maxRecDepth 100000 in
theorem impl_MatrixValid_1.ef (k : Nat) (a0 : Int) : R.start Try.prog xhn impl_MatrixValid_1.O 0 Try.f163 impl_MatrixValid_1.fh k [.int .i64 a0] [] = ((impl_CostValid.f a0).bind fun t1 => (some (impl_MatrixValid_1.en (!decide (t1 = true))))) := by kernel_rfl
theorem impl_MatrixValid_1.sf (k : Nat) (a0 : Int) : R.start Try.prog xhn impl_MatrixValid_1.O 0 Try.f163 impl_MatrixValid_1.fh k [.int .i64 a0] [] = (impl_MatrixValid_1.f a0).map (impl_MatrixValid_1.en) := by
  rw [impl_MatrixValid_1.ef]
  simp only [impl_MatrixValid_1.f, R.map_ite, R.map_bind, R.map_none, R.map_some, R.wr64_eq]
theorem impl_MatrixValid_1.ok (k : Nat) : impl_MatrixValid_1.tw.Ok Try.prog k := by
  intro a r h
  refine fn_ok (H := xhn) (fh := impl_MatrixValid_1.fh) (O := impl_MatrixValid_1.O) (k := k) Try.func163 (by kernel_rfl) (by kernel_rfl) (fun j _ => (Tw.orc_sound impl_CostValid.dok (impl_CostValid.ok j) noO_sound)) (by kernel_rfl) (m := 0) rfl ?_
  refine (impl_MatrixValid_1.sf k a).trans ?_
  exact congrArg (Option.map _) h
def slices_IndexFunc_int_int.l0 : Nat → (List Int) → Int → Int → Option (Int)
  | 0, _, _, _ => none
  | k + 1, x0, x7, x8 => (if x8 < x7 then (if 0 ≤ x8 then (if x8 < (x0.length : Int) then ((impl_MatrixValid_1.f (rdI x0 x8)).bind fun t1 => (if t1 = true then (some x8) else (slices_IndexFunc_int_int.l0 k x0 x7 (wrap64 (x8 + 1))))) else none) else none) else (some (-1)))
def slices_IndexFunc_int_int.f (k : Nat) (l0 : List Int) : Option (Int) := (slices_IndexFunc_int_int.l0 k l0 (l0.length : Int) 0)
def slices_IndexFunc_int_int.en (r : Int) : Res := (.int .i64 r, [])
def slices_IndexFunc_int_int.dec : List AV → List R.Obj → Option (List Int)
  | [.imm (.I .i64 l0), .clo 163 []], [] => some l0
  | _, _ => none
def slices_IndexFunc_int_int.tw : Tw := ⟨164, List Int, Int, slices_IndexFunc_int_int.dec, fun a => [.imm (.I .i64 a), .clo 163 []], fun a => [], fun k a => slices_IndexFunc_int_int.f k a, fun a r => slices_IndexFunc_int_int.en r⟩
theorem slices_IndexFunc_int_int.dok : slices_IndexFunc_int_int.tw.DecOk := by
  intro args hc a h
  have h : slices_IndexFunc_int_int.dec args hc = some a := h
  unfold slices_IndexFunc_int_int.dec at h
  split at h
  · cases h; exact ⟨rfl, rfl⟩
  · cases h
noncomputable def slices_IndexFunc_int_int.O (k : Nat) : Oracle := (impl_MatrixValid_1.tw.orc k noO)
def slices_IndexFunc_int_int.fh : FH := ⟨fun i => match i with | 2 => some [(0, 0), (1, 0), (7, 0), (8, 0)] | _ => none, [], false⟩
noncomputable def slices_IndexFunc_int_int.x0 (k : Nat) (x0 : List Int) (x7 : Int) (x8 : Int) : Option Res := R.exec Try.prog xhn slices_IndexFunc_int_int.O 0 Try.f164 slices_IndexFunc_int_int.fh k (R.point Try.f164 2) ⟨[(0, .imm (.I .i64 x0)), (1, .clo 163 []), (7, .int .i64 x7), (8, .int .i64 x8)], [], 2⟩
set_option maxRecDepth 100000 in
theorem slices_IndexFunc_int_int.e0 (k : Nat) (x0 : List Int) (x7 : Int) (x8 : Int) : slices_IndexFunc_int_int.x0 (k + 1) x0 x7 x8 = (if x8 < x7 then (if 0 ≤ x8 then (if x8 < (x0.length : Int) then ((impl_MatrixValid_1.f (rdI x0 x8)).bind fun t1 => (if t1 = true then (some (slices_IndexFunc_int_int.en x8)) else (slices_IndexFunc_int_int.x0 k x0 x7 (wr64 (x8 + 1))))) else none) else none) else (some (slices_IndexFunc_int_int.en (-1)))) := by kernel_rfl
set_option maxRecDepth 100000 in
theorem slices_IndexFunc_int_int.ef (k : Nat) (l0 : List Int) : R.start Try.prog xhn slices_IndexFunc_int_int.O 0 Try.f164 slices_IndexFunc_int_int.fh k [.imm (.I .i64 l0), .clo 163 []] [] = (slices_IndexFunc_int_int.x0 k l0 (l0.length : Int) 0) := by kernel_rfl
theorem slices_IndexFunc_int_int.link : ∀ k, (∀ (x0 : List Int) (x7 : Int) (x8 : Int), slices_IndexFunc_int_int.x0 k x0 x7 x8 = (slices_IndexFunc_int_int.l0 k x0 x7 x8).map (slices_IndexFunc_int_int.en))
  | 0 => fun _ _ _ => by simp only [slices_IndexFunc_int_int.l0, R.map_none]; rfl
  | k + 1 => by
    have ih0 := slices_IndexFunc_int_int.link k
    · intro x0 x7 x8
      rw [slices_IndexFunc_int_int.e0]
      simp only [slices_IndexFunc_int_int.l0, R.map_ite, R.map_bind, R.map_none, R.map_some, R.wr64_eq, ← ih0]
theorem slices_IndexFunc_int_int.sf (k : Nat) (l0 : List Int) : R.start Try.prog xhn slices_IndexFunc_int_int.O 0 Try.f164 slices_IndexFunc_int_int.fh k [.imm (.I .i64 l0), .clo 163 []] [] = (slices_IndexFunc_int_int.f k l0).map (slices_IndexFunc_int_int.en) := by
  have ih0 := slices_IndexFunc_int_int.link k
  rw [slices_IndexFunc_int_int.ef]
  simp only [slices_IndexFunc_int_int.f, R.map_ite, R.map_bind, R.map_none, R.map_some, R.wr64_eq, ← ih0]
theorem slices_IndexFunc_int_int.ok (k : Nat) : slices_IndexFunc_int_int.tw.Ok Try.prog k := by
  intro a r h
  refine fn_ok (H := xhn) (fh := slices_IndexFunc_int_int.fh) (O := slices_IndexFunc_int_int.O) (k := k) Try.func164 (by kernel_rfl) (by kernel_rfl) (fun j _ => (Tw.orc_sound impl_MatrixValid_1.dok (impl_MatrixValid_1.ok j) noO_sound)) (by kernel_rfl) (m := 0) rfl ?_
  refine (slices_IndexFunc_int_int.sf k a).trans ?_
  exact congrArg (Option.map _) h
def slices_ContainsFunc_int_int.f (k : Nat) (l0 : List Int) : Option (Bool) := ((slices_IndexFunc_int_int.f k l0).bind fun t1 => (some (decide (t1 ≥ 0))))
def slices_ContainsFunc_int_int.en (r : Bool) : Res := (.lit r, [])
def slices_ContainsFunc_int_int.dec : List AV → List R.Obj → Option (List Int)
  | [.imm (.I .i64 l0), .clo 163 []], [] => some l0
  | _, _ => none
def slices_ContainsFunc_int_int.tw : Tw := ⟨113, List Int, Bool, slices_ContainsFunc_int_int.dec, fun a => [.imm (.I .i64 a), .clo 163 []], fun a => [], fun k a => slices_ContainsFunc_int_int.f k a, fun a r => slices_ContainsFunc_int_int.en r⟩
theorem slices_ContainsFunc_int_int.dok : slices_ContainsFunc_int_int.tw.DecOk := by
  intro args hc a h
  have h : slices_ContainsFunc_int_int.dec args hc = some a := h
  unfold slices_ContainsFunc_int_int.dec at h
  split at h
  · cases h; exact ⟨rfl, rfl⟩
  · cases h
noncomputable def slices_ContainsFunc_int_int.O (k : Nat) : Oracle := (slices_IndexFunc_int_int.tw.orc k noO)
def slices_ContainsFunc_int_int.fh : FH := ⟨fun i => match i with | _ => none, [], false⟩
set_option maxRecDepth 100000 in
theorem slices_ContainsFunc_int_int.ef (k : Nat) (l0 : List Int) : R.start Try.prog xhn slices_ContainsFunc_int_int.O 0 Try.f113 slices_ContainsFunc_int_int.fh k [.imm (.I .i64 l0), .clo 163 []] [] = ((slices_IndexFunc_int_int.f k l0).bind fun t1 => (some (slices_ContainsFunc_int_int.en (decide (t1 ≥ 0))))) := by kernel_rfl
theorem slices_ContainsFunc_int_int.sf (k : Nat) (l0 : List Int) : R.start Try.prog xhn slices_ContainsFunc_int_int.O 0 Try.f113 slices_ContainsFunc_int_int.fh k [.imm (.I .i64 l0), .clo 163 []] [] = (slices_ContainsFunc_int_int.f k l0).map (slices_ContainsFunc_int_int.en) := by
  rw [slices_ContainsFunc_int_int.ef]
  simp only [slices_ContainsFunc_int_int.f, R.map_ite, R.map_bind, R.map_none, R.map_some, R.wr64_eq]
theorem slices_ContainsFunc_int_int.ok (k : Nat) : slices_ContainsFunc_int_int.tw.Ok Try.prog k := by
  intro a r h
  refine fn_ok (H := xhn) (fh := slices_ContainsFunc_int_int.fh) (O := slices_ContainsFunc_int_int.O) (k := k) Try.func113 (by kernel_rfl) (by kernel_rfl) (fun j _ => (Tw.orc_sound slices_IndexFunc_int_int.dok (slices_IndexFunc_int_int.ok j) noO_sound)) (by kernel_rfl) (m := 0) rfl ?_
  refine (slices_ContainsFunc_int_int.sf k a).trans ?_
  exact congrArg (Option.map _) h
def impl_MatrixValid.f (k : Nat) (a0_0 : Int) (l0_1 : List Int) : Option (Bool) := (if a0_0 < 1 then (some false) else (if a0_0 > 4 then (some false) else (if (l0_1.length : Int) = (wrap64 (a0_0 * a0_0)) then ((slices_ContainsFunc_int_int.f k l0_1).bind fun t1 => (some (!decide (t1 = true)))) else (some false))))
def impl_MatrixValid.en (r : Bool) : Res := (.lit r, [])
def impl_MatrixValid.dec : List AV → List R.Obj → Option (Int × (List Int))
  | [.agg [.int .i64 a0_0, .imm (.I .i64 l0_1)]], [] => some (a0_0, l0_1)
  | _, _ => none
def impl_MatrixValid.tw : Tw := ⟨106, Int × (List Int), Bool, impl_MatrixValid.dec, fun a => [.agg [.int .i64 a.1, .imm (.I .i64 a.2)]], fun a => [], fun k a => impl_MatrixValid.f k a.1 a.2, fun a r => impl_MatrixValid.en r⟩
theorem impl_MatrixValid.dok : impl_MatrixValid.tw.DecOk := by
  intro args hc a h
  have h : impl_MatrixValid.dec args hc = some a := h
  unfold impl_MatrixValid.dec at h
  split at h
  · cases h; exact ⟨rfl, rfl⟩
  · cases h
noncomputable def impl_MatrixValid.O (k : Nat) : Oracle := (slices_ContainsFunc_int_int.tw.orc k noO)
def impl_MatrixValid.fh : FH := ⟨fun i => match i with | _ => none, [], false⟩
set_option maxRecDepth 100000 in
theorem impl_MatrixValid.ef (k : Nat) (a0_0 : Int) (l0_1 : List Int) : R.start Try.prog xhn impl_MatrixValid.O 0 Try.f106 impl_MatrixValid.fh k [.agg [.int .i64 a0_0, .imm (.I .i64 l0_1)]] [] = (if a0_0 < 1 then (some (impl_MatrixValid.en false)) else (if a0_0 > 4 then (some (impl_MatrixValid.en false)) else (if (l0_1.length : Int) = (wr64 (a0_0 * a0_0)) then ((slices_ContainsFunc_int_int.f k l0_1).bind fun t1 => (some (impl_MatrixValid.en (!decide (t1 = true))))) else (some (impl_MatrixValid.en false))))) := by kernel_rfl
theorem impl_MatrixValid.sf (k : Nat) (a0_0 : Int) (l0_1 : List Int) : R.start Try.prog xhn impl_MatrixValid.O 0 Try.f106 impl_MatrixValid.fh k [.agg [.int .i64 a0_0, .imm (.I .i64 l0_1)]] [] = (impl_MatrixValid.f k a0_0 l0_1).map (impl_MatrixValid.en) := by
  rw [impl_MatrixValid.ef]
  simp only [impl_MatrixValid.f, R.map_ite, R.map_bind, R.map_none, R.map_some, R.wr64_eq]
theorem impl_MatrixValid.ok (k : Nat) : impl_MatrixValid.tw.Ok Try.prog k := by
  intro a r h
  refine fn_ok (H := xhn) (fh := impl_MatrixValid.fh) (O := impl_MatrixValid.O) (k := k) Try.func106 (by kernel_rfl) (by kernel_rfl) (fun j _ => (Tw.orc_sound slices_ContainsFunc_int_int.dok (slices_ContainsFunc_int_int.ok j) noO_sound)) (by kernel_rfl) (m := 0) rfl ?_
  refine (impl_MatrixValid.sf k a.1 a.2).trans ?_
  exact congrArg (Option.map _) h
def impl_Matrix_at.f (a0_0 : Int) (l0_1 : List Int) (a1 : Int) (a2 : Int) : Option (Int) := (if 0 ≤ (wrap64 ((wrap64 (a1 * a0_0)) + a2)) then (if (wrap64 ((wrap64 (a1 * a0_0)) + a2)) < (l0_1.length : Int) then (some (rdI l0_1 (wrap64 ((wrap64 (a1 * a0_0)) + a2)))) else none) else none)
def impl_Matrix_at.en (r : Int) : Res := (.int .i64 r, [])
def impl_Matrix_at.dec : List AV → List R.Obj → Option (Int × (List Int) × Int × Int)
  | [.agg [.int .i64 a0_0, .imm (.I .i64 l0_1)], .int .i64 a1, .int .i64 a2], [] => some (a0_0, l0_1, a1, a2)
  | _, _ => none
def impl_Matrix_at.tw : Tw := ⟨109, Int × (List Int) × Int × Int, Int, impl_Matrix_at.dec, fun a => [.agg [.int .i64 a.1, .imm (.I .i64 a.2.1)], .int .i64 a.2.2.1, .int .i64 a.2.2.2], fun a => [], fun k a => impl_Matrix_at.f a.1 a.2.1 a.2.2.1 a.2.2.2, fun a r => impl_Matrix_at.en r⟩
theorem impl_Matrix_at.dok : impl_Matrix_at.tw.DecOk := by
  intro args hc a h
  have h : impl_Matrix_at.dec args hc = some a := h
  unfold impl_Matrix_at.dec at h
  split at h
  · cases h; exact ⟨rfl, rfl⟩
  · cases h
noncomputable def impl_Matrix_at.O (k : Nat) : Oracle := noO
def impl_Matrix_at.fh : FH := ⟨fun i => match i with | _ => none, [], false⟩
set_option maxRecDepth 100000 in
theorem impl_Matrix_at.ef (k : Nat) (a0_0 : Int) (l0_1 : List Int) (a1 : Int) (a2 : Int) : R.start Try.prog xhn impl_Matrix_at.O 0 Try.f109 impl_Matrix_at.fh k [.agg [.int .i64 a0_0, .imm (.I .i64 l0_1)], .int .i64 a1, .int .i64 a2] [] = (if 0 ≤ (wr64 ((wr64 (a1 * a0_0)) + a2)) then (if (wr64 ((wr64 (a1 * a0_0)) + a2)) < (l0_1.length : Int) then (some (impl_Matrix_at.en (rdI l0_1 (wr64 ((wr64 (a1 * a0_0)) + a2))))) else none) else none) := by kernel_rfl
theorem impl_Matrix_at.sf (k : Nat) (a0_0 : Int) (l0_1 : List Int) (a1 : Int) (a2 : Int) : R.start Try.prog xhn impl_Matrix_at.O 0 Try.f109 impl_Matrix_at.fh k [.agg [.int .i64 a0_0, .imm (.I .i64 l0_1)], .int .i64 a1, .int .i64 a2] [] = (impl_Matrix_at.f a0_0 l0_1 a1 a2).map (impl_Matrix_at.en) := by
  rw [impl_Matrix_at.ef]
  simp only [impl_Matrix_at.f, R.map_ite, R.map_bind, R.map_none, R.map_some, R.wr64_eq]
theorem impl_Matrix_at.ok (k : Nat) : impl_Matrix_at.tw.Ok Try.prog k := by
  intro a r h
  refine fn_ok (H := xhn) (fh := impl_Matrix_at.fh) (O := impl_Matrix_at.O) (k := k) Try.func109 (by kernel_rfl) (by kernel_rfl) (fun j _ => noO_sound) (by kernel_rfl) (m := 0) rfl ?_
  refine (impl_Matrix_at.sf k a.1 a.2.1 a.2.2.1 a.2.2.2).trans ?_
  exact congrArg (Option.map _) h
def impl_GradesOf_1.f (a0 : Int) (a1 : Int) (a3_0 : Int) (l3_1 : List Int) : Option (Int) := ((impl_Matrix_at.f a3_0 l3_1 a0 a1).bind fun t1 => (if t1 = 0 then (some 0) else (if t1 = 1000000 then (some 3) else (some 1))))
def impl_GradesOf_1.en (a3_0 : Int) (l3_1 : List Int) (r : Int) : Res := (.int .i64 r, [.box true [.int .i64 a3_0, .imm (.I .i64 l3_1)]])
def impl_GradesOf_1.dec : List AV → List R.Obj → Option (Int × Int × Int × (List Int))
  | [.int .i64 a0, .int .i64 a1, .ptr 0 0], [.box true [.int .i64 a3_0, .imm (.I .i64 l3_1)]] => some (a0, a1, a3_0, l3_1)
  | _, _ => none
def impl_GradesOf_1.tw : Tw := ⟨108, Int × Int × Int × (List Int), Int, impl_GradesOf_1.dec, fun a => [.int .i64 a.1, .int .i64 a.2.1, .ptr 0 0], fun a => [.box true [.int .i64 a.2.2.1, .imm (.I .i64 a.2.2.2)]], fun k a => impl_GradesOf_1.f a.1 a.2.1 a.2.2.1 a.2.2.2, fun a r => impl_GradesOf_1.en a.2.2.1 a.2.2.2 r⟩
theorem impl_GradesOf_1.dok : impl_GradesOf_1.tw.DecOk := by
  intro args hc a h
  have h : impl_GradesOf_1.dec args hc = some a := h
  unfold impl_GradesOf_1.dec at h
  split at h
  · cases h; exact ⟨rfl, rfl⟩
  · cases h
noncomputable def impl_GradesOf_1.O (k : Nat) : Oracle := (impl_Matrix_at.tw.orc k noO)
def impl_GradesOf_1.fh : FH := ⟨fun i => match i with | _ => none, [], false⟩
set_option maxRecDepth 100000 in
theorem impl_GradesOf_1.ef (k : Nat) (a0 : Int) (a1 : Int) (a3_0 : Int) (l3_1 : List Int) : R.start Try.prog xhn impl_GradesOf_1.O 1 Try.f108 impl_GradesOf_1.fh k [.int .i64 a0, .int .i64 a1, .ptr 0 0] [.box true [.int .i64 a3_0, .imm (.I .i64 l3_1)]] = ((impl_Matrix_at.f a3_0 l3_1 a0 a1).bind fun t1 => (if t1 = 0 then (some (impl_GradesOf_1.en a3_0 l3_1 0)) else (if t1 = 1000000 then (some (impl_GradesOf_1.en a3_0 l3_1 3)) else (some (impl_GradesOf_1.en a3_0 l3_1 1))))) := by kernel_rfl
theorem impl_GradesOf_1.sf (k : Nat) (a0 : Int) (a1 : Int) (a3_0 : Int) (l3_1 : List Int) : R.start Try.prog xhn impl_GradesOf_1.O 1 Try.f108 impl_GradesOf_1.fh k [.int .i64 a0, .int .i64 a1, .ptr 0 0] [.box true [.int .i64 a3_0, .imm (.I .i64 l3_1)]] = (impl_GradesOf_1.f a0 a1 a3_0 l3_1).map (impl_GradesOf_1.en a3_0 l3_1) := by
  rw [impl_GradesOf_1.ef]
  simp only [impl_GradesOf_1.f, R.map_ite, R.map_bind, R.map_none, R.map_some, R.wr64_eq]
theorem impl_GradesOf_1.ok (k : Nat) : impl_GradesOf_1.tw.Ok Try.prog k := by
  intro a r h
  refine fn_ok (H := xhn) (fh := impl_GradesOf_1.fh) (O := impl_GradesOf_1.O) (k := k) Try.func108 (by kernel_rfl) (by kernel_rfl) (fun j _ => (Tw.orc_sound impl_Matrix_at.dok (impl_Matrix_at.ok j) noO_sound)) (by kernel_rfl) (m := 1) rfl ?_
  refine (impl_GradesOf_1.sf k a.1 a.2.1 a.2.2.1 a.2.2.2).trans ?_
  exact congrArg (Option.map _) h
mutual
def impl_filled_b.l0 : Nat → Int → Int → Int → Int → (List Int) → Int → (List Int) → Option (Int × (List Int))
  | 0, _, _, _, _, _, _, _ => none
  | k + 1, x0, x10, x11, y0_0, y0_1, y2_0, y4 => (if x11 < x10 then (impl_filled_b.l1 k x0 x11 x10 x11 x0 0 y0_0 y0_1 y2_0 y4) else (some (y2_0, y4)))
def impl_filled_b.l1 : Nat → Int → Int → Int → Int → Int → Int → Int → (List Int) → Int → (List Int) → Option (Int × (List Int))
  | 0, _, _, _, _, _, _, _, _, _, _ => none
  | k + 1, x0, x6, x10, x11, x14, x15, y0_0, y0_1, y2_0, y4 => (if x15 < x14 then ((impl_GradesOf_1.f x6 x15 y0_0 y0_1).bind fun t1 => (if y4.length < 17592186044416 then (impl_filled_b.l1 k x0 x6 x10 x11 x14 (wrap64 (x15 + 1)) y0_0 y0_1 y2_0 (y4 ++ [t1])) else none)) else (impl_filled_b.l0 k x0 x10 (wrap64 (x11 + 1)) y0_0 y0_1 y2_0 y4))
end
def impl_filled_b.f (k : Nat) (a0 : Int) (a2_0 : Int) (l2_1 : List Int) : Option (Int × (List Int)) := (impl_filled_b.l0 k a0 a0 0 a2_0 l2_1 a0 ([] : List Int))
def impl_filled_b.en (a2_0 : Int) (l2_1 : List Int) (r : Int × (List Int)) : Res := (.agg [.int .i64 r.1, .sl 1 0], [.box true [.int .i64 a2_0, .imm (.I .i64 l2_1)], .arr 3 0 (.I .i64 r.2) false])
def impl_filled_b.dec : List AV → List R.Obj → Option (Int × Int × (List Int))
  | [.int .i64 a0, .clo 108 [.ptr 0 0]], [.box true [.int .i64 a2_0, .imm (.I .i64 l2_1)]] => some (a0, a2_0, l2_1)
  | _, _ => none
def impl_filled_b.tw : Tw := ⟨107, Int × Int × (List Int), Int × (List Int), impl_filled_b.dec, fun a => [.int .i64 a.1, .clo 108 [.ptr 0 0]], fun a => [.box true [.int .i64 a.2.1, .imm (.I .i64 a.2.2)]], fun k a => impl_filled_b.f k a.1 a.2.1 a.2.2, fun a r => impl_filled_b.en a.2.1 a.2.2 r⟩
theorem impl_filled_b.dok : impl_filled_b.tw.DecOk := by
  intro args hc a h
  have h : impl_filled_b.dec args hc = some a := h
  unfold impl_filled_b.dec at h
  split at h
  · cases h; exact ⟨rfl, rfl⟩
  · cases h
noncomputable def impl_filled_b.O (k : Nat) : Oracle := (impl_GradesOf_1.tw.orc k noO)
def impl_filled_b.fh : FH := ⟨fun i => match i with | 3 => some [(0, 0), (1, 0), (4, 0), (5, 0), (10, 0), (11, 0)] | 6 => some [(0, 0), (1, 0), (4, 0), (5, 0), (6, 0), (10, 0), (11, 0), (14, 0), (15, 0)] | _ => none, [(true, 3)], false⟩
noncomputable def impl_filled_b.x0 (k : Nat) (x0 : Int) (x10 : Int) (x11 : Int) (y0_0 : Int) (y0_1 : List Int) (y2_0 : Int) (y4 : List Int) : Option Res := R.exec Try.prog xhn impl_filled_b.O 1 Try.f107 impl_filled_b.fh k (R.point Try.f107 3) ⟨[(0, .int .i64 x0), (1, .clo 108 [.ptr 0 0]), (4, .ptr 1 0), (5, .ptr 2 0), (10, .int .i64 x10), (11, .int .i64 x11)], [(0, .box true [.int .i64 y0_0, .imm (.I .i64 y0_1)]), (1, .box false [.int .i64 0, .sl 3 0]), (2, .box false [.int .i64 y2_0, .sl 4 0]), (3, .arr 3 0 (.I .i64 ([] : List Int)) false), (4, .arr 3 0 (.I .i64 y4) false)], 7⟩
noncomputable def impl_filled_b.x1 (k : Nat) (x0 : Int) (x6 : Int) (x10 : Int) (x11 : Int) (x14 : Int) (x15 : Int) (y0_0 : Int) (y0_1 : List Int) (y2_0 : Int) (y4 : List Int) : Option Res := R.exec Try.prog xhn impl_filled_b.O 1 Try.f107 impl_filled_b.fh k (R.point Try.f107 6) ⟨[(0, .int .i64 x0), (1, .clo 108 [.ptr 0 0]), (4, .ptr 1 0), (5, .ptr 2 0), (6, .int .i64 x6), (10, .int .i64 x10), (11, .int .i64 x11), (14, .int .i64 x14), (15, .int .i64 x15)], [(0, .box true [.int .i64 y0_0, .imm (.I .i64 y0_1)]), (1, .box false [.int .i64 0, .sl 3 0]), (2, .box false [.int .i64 y2_0, .sl 4 0]), (3, .arr 3 0 (.I .i64 ([] : List Int)) false), (4, .arr 3 0 (.I .i64 y4) false)], 7⟩
set_option maxRecDepth 100000 in
theorem impl_filled_b.e0 (k : Nat) (x0 : Int) (x10 : Int) (x11 : Int) (y0_0 : Int) (y0_1 : List Int) (y2_0 : Int) (y4 : List Int) : impl_filled_b.x0 (k + 1) x0 x10 x11 y0_0 y0_1 y2_0 y4 = (if x11 < x10 then (impl_filled_b.x1 k x0 x11 x10 x11 x0 0 y0_0 y0_1 y2_0 y4) else (some (impl_filled_b.en y0_0 y0_1 (y2_0, y4)))) := by kernel_rfl
set_option maxRecDepth 100000 in
theorem impl_filled_b.e1 (k : Nat) (x0 : Int) (x6 : Int) (x10 : Int) (x11 : Int) (x14 : Int) (x15 : Int) (y0_0 : Int) (y0_1 : List Int) (y2_0 : Int) (y4 : List Int) : impl_filled_b.x1 (k + 1) x0 x6 x10 x11 x14 x15 y0_0 y0_1 y2_0 y4 = (if x15 < x14 then ((impl_GradesOf_1.f x6 x15 y0_0 y0_1).bind fun t1 => (if y4.length < 17592186044416 then (impl_filled_b.x1 k x0 x6 x10 x11 x14 (wr64 (x15 + 1)) y0_0 y0_1 y2_0 (y4 ++ [t1])) else none)) else (impl_filled_b.x0 k x0 x10 (wr64 (x11 + 1)) y0_0 y0_1 y2_0 y4)) := by kernel_rfl
set_option maxRecDepth 100000 in
theorem impl_filled_b.ef (k : Nat) (a0 : Int) (a2_0 : Int) (l2_1 : List Int) : R.start Try.prog xhn impl_filled_b.O 1 Try.f107 impl_filled_b.fh k [.int .i64 a0, .clo 108 [.ptr 0 0]] [.box true [.int .i64 a2_0, .imm (.I .i64 l2_1)]] = (impl_filled_b.x0 k a0 a0 0 a2_0 l2_1 a0 ([] : List Int)) := by kernel_rfl
theorem impl_filled_b.link : ∀ k, (∀ (x0 : Int) (x10 : Int) (x11 : Int) (y0_0 : Int) (y0_1 : List Int) (y2_0 : Int) (y4 : List Int), impl_filled_b.x0 k x0 x10 x11 y0_0 y0_1 y2_0 y4 = (impl_filled_b.l0 k x0 x10 x11 y0_0 y0_1 y2_0 y4).map (impl_filled_b.en y0_0 y0_1)) ∧ (∀ (x0 : Int) (x6 : Int) (x10 : Int) (x11 : Int) (x14 : Int) (x15 : Int) (y0_0 : Int) (y0_1 : List Int) (y2_0 : Int) (y4 : List Int), impl_filled_b.x1 k x0 x6 x10 x11 x14 x15 y0_0 y0_1 y2_0 y4 = (impl_filled_b.l1 k x0 x6 x10 x11 x14 x15 y0_0 y0_1 y2_0 y4).map (impl_filled_b.en y0_0 y0_1))
  | 0 => ⟨fun _ _ _ _ _ _ _ => by simp only [impl_filled_b.l0, R.map_none]; rfl, fun _ _ _ _ _ _ _ _ _ _ => by simp only [impl_filled_b.l1, R.map_none]; rfl⟩
  | k + 1 => by
    obtain ⟨ih0, ih1⟩ := impl_filled_b.link k
    refine ⟨?_, ?_⟩
    · intro x0 x10 x11 y0_0 y0_1 y2_0 y4
      rw [impl_filled_b.e0]
      simp only [impl_filled_b.l0, R.map_ite, R.map_bind, R.map_none, R.map_some, R.wr64_eq, ← ih0, ← ih1]
    · intro x0 x6 x10 x11 x14 x15 y0_0 y0_1 y2_0 y4
      rw [impl_filled_b.e1]
      simp only [impl_filled_b.l1, R.map_ite, R.map_bind, R.map_none, R.map_some, R.wr64_eq, ← ih0, ← ih1]
theorem impl_filled_b.sf (k : Nat) (a0 : Int) (a2_0 : Int) (l2_1 : List Int) : R.start Try.prog xhn impl_filled_b.O 1 Try.f107 impl_filled_b.fh k [.int .i64 a0, .clo 108 [.ptr 0 0]] [.box true [.int .i64 a2_0, .imm (.I .i64 l2_1)]] = (impl_filled_b.f k a0 a2_0 l2_1).map (impl_filled_b.en a2_0 l2_1) := by
  obtain ⟨ih0, ih1⟩ := impl_filled_b.link k
  rw [impl_filled_b.ef]
  simp only [impl_filled_b.f, R.map_ite, R.map_bind, R.map_none, R.map_some, R.wr64_eq, ← ih0, ← ih1]
theorem impl_filled_b.ok (k : Nat) : impl_filled_b.tw.Ok Try.prog k := by
  intro a r h
  refine fn_ok (H := xhn) (fh := impl_filled_b.fh) (O := impl_filled_b.O) (k := k) Try.func107 (by kernel_rfl) (by kernel_rfl) (fun j _ => (Tw.orc_sound impl_GradesOf_1.dok (impl_GradesOf_1.ok j) noO_sound)) (by kernel_rfl) (m := 1) rfl ?_
  refine (impl_filled_b.sf k a.1 a.2.1 a.2.2).trans ?_
  exact congrArg (Option.map _) h
def impl_GradesOf.f (k : Nat) (a0_0 : Int) (l0_1 : List Int) : Option (Int × (List Int) × Bool) := ((impl_MatrixValid.f k a0_0 l0_1).bind fun t1 => (if t1 = true then ((impl_filled_b.f k a0_0 a0_0 l0_1).bind fun t2 => (some (t2.1, t2.2, true))) else (some (0, ([] : List Int), false))))
def impl_GradesOf.en (r : Int × (List Int) × Bool) : Res := (.tup [.agg [.int .i64 r.1, .sl 0 0], .lit r.2.2], [.arr 3 0 (.I .i64 r.2.1) false])
def impl_GradesOf.dec : List AV → List R.Obj → Option (Int × (List Int))
  | [.agg [.int .i64 a0_0, .imm (.I .i64 l0_1)]], [] => some (a0_0, l0_1)
  | _, _ => none
def impl_GradesOf.tw : Tw := ⟨41, Int × (List Int), Int × (List Int) × Bool, impl_GradesOf.dec, fun a => [.agg [.int .i64 a.1, .imm (.I .i64 a.2)]], fun a => [], fun k a => impl_GradesOf.f k a.1 a.2, fun a r => impl_GradesOf.en r⟩
theorem impl_GradesOf.dok : impl_GradesOf.tw.DecOk := by
  intro args hc a h
  have h : impl_GradesOf.dec args hc = some a := h
  unfold impl_GradesOf.dec at h
  split at h
  · cases h; exact ⟨rfl, rfl⟩
  · cases h
noncomputable def impl_GradesOf.O (k : Nat) : Oracle := (impl_MatrixValid.tw.orc k (impl_filled_b.tw.orc k noO))
def impl_GradesOf.fh : FH := ⟨fun i => match i with | _ => none, [(true, 3)], false⟩
set_option maxRecDepth 100000 in
theorem impl_GradesOf.ef (k : Nat) (a0_0 : Int) (l0_1 : List Int) : R.start Try.prog xhn impl_GradesOf.O 0 Try.f41 impl_GradesOf.fh k [.agg [.int .i64 a0_0, .imm (.I .i64 l0_1)]] [] = ((impl_MatrixValid.f k a0_0 l0_1).bind fun t1 => (if t1 = true then ((impl_filled_b.f k a0_0 a0_0 l0_1).bind fun t2 => (some (impl_GradesOf.en (t2.1, t2.2, true)))) else (some (impl_GradesOf.en (0, ([] : List Int), false))))) := by kernel_rfl
theorem impl_GradesOf.sf (k : Nat) (a0_0 : Int) (l0_1 : List Int) : R.start Try.prog xhn impl_GradesOf.O 0 Try.f41 impl_GradesOf.fh k [.agg [.int .i64 a0_0, .imm (.I .i64 l0_1)]] [] = (impl_GradesOf.f k a0_0 l0_1).map (impl_GradesOf.en) := by
  rw [impl_GradesOf.ef]
  simp only [impl_GradesOf.f, R.map_ite, R.map_bind, R.map_none, R.map_some, R.wr64_eq]
theorem impl_GradesOf.ok (k : Nat) : impl_GradesOf.tw.Ok Try.prog k := by
  intro a r h
  refine fn_ok (H := xhn) (fh := impl_GradesOf.fh) (O := impl_GradesOf.O) (k := k) Try.func41 (by kernel_rfl) (by kernel_rfl) (fun j _ => (Tw.orc_sound impl_MatrixValid.dok (impl_MatrixValid.ok j) (Tw.orc_sound impl_filled_b.dok (impl_filled_b.ok j) noO_sound))) (by kernel_rfl) (m := 0) rfl ?_
  refine (impl_GradesOf.sf k a.1 a.2).trans ?_
  exact congrArg (Option.map _) h
def impl_GradesValid_1.f (a0 : Int) : Option (Bool) := (some (decide (a0 > 3)))
def impl_GradesValid_1.en (r : Bool) : Res := (.lit r, [])
def impl_GradesValid_1.dec : List AV → List R.Obj → Option (Int)
  | [.int .i64 a0], [] => some a0
  | _, _ => none
def impl_GradesValid_1.tw : Tw := ⟨114, Int, Bool, impl_GradesValid_1.dec, fun a => [.int .i64 a], fun a => [], fun k a => impl_GradesValid_1.f a, fun a r => impl_GradesValid_1.en r⟩
theorem impl_GradesValid_1.dok : impl_GradesValid_1.tw.DecOk := by
  intro args hc a h
  have h : impl_GradesValid_1.dec args hc = some a := h
  unfold impl_GradesValid_1.dec at h
  split at h
  · cases h; exact ⟨rfl, rfl⟩
  · cases h
noncomputable def impl_GradesValid_1.O (k : Nat) : Oracle := noO
def impl_GradesValid_1.fh : FH := ⟨fun i => match i with | _ => none, [], false⟩
set_option maxRecDepth 100000 in
theorem impl_GradesValid_1.ef (k : Nat) (a0 : Int) : R.start Try.prog xhn impl_GradesValid_1.O 0 Try.f114 impl_GradesValid_1.fh k [.int .i64 a0] [] = (some (impl_GradesValid_1.en (decide (a0 > 3)))) := by kernel_rfl
theorem impl_GradesValid_1.sf (k : Nat) (a0 : Int) : R.start Try.prog xhn impl_GradesValid_1.O 0 Try.f114 impl_GradesValid_1.fh k [.int .i64 a0] [] = (impl_GradesValid_1.f a0).map (impl_GradesValid_1.en) := by
  rw [impl_GradesValid_1.ef]
  simp only [impl_GradesValid_1.f, R.map_ite, R.map_bind, R.map_none, R.map_some, R.wr64_eq]
theorem impl_GradesValid_1.ok (k : Nat) : impl_GradesValid_1.tw.Ok Try.prog k := by
  intro a r h
  refine fn_ok (H := xhn) (fh := impl_GradesValid_1.fh) (O := impl_GradesValid_1.O) (k := k) Try.func114 (by kernel_rfl) (by kernel_rfl) (fun j _ => noO_sound) (by kernel_rfl) (m := 0) rfl ?_
  refine (impl_GradesValid_1.sf k a).trans ?_
  exact congrArg (Option.map _) h
def slices_IndexFunc_int_int_b.l0 : Nat → (List Int) → Int → Int → Option (Int)
  | 0, _, _, _ => none
  | k + 1, x0, x7, x8 => (if x8 < x7 then (if 0 ≤ x8 then (if x8 < (x0.length : Int) then ((impl_GradesValid_1.f (rdI x0 x8)).bind fun t1 => (if t1 = true then (some x8) else (slices_IndexFunc_int_int_b.l0 k x0 x7 (wrap64 (x8 + 1))))) else none) else none) else (some (-1)))
def slices_IndexFunc_int_int_b.f (k : Nat) (l0 : List Int) : Option (Int) := (slices_IndexFunc_int_int_b.l0 k l0 (l0.length : Int) 0)
def slices_IndexFunc_int_int_b.en (r : Int) : Res := (.int .i64 r, [])
def slices_IndexFunc_int_int_b.dec : List AV → List R.Obj → Option (List Int)
  | [.imm (.I .i64 l0), .clo 114 []], [] => some l0
  | _, _ => none
def slices_IndexFunc_int_int_b.tw : Tw := ⟨164, List Int, Int, slices_IndexFunc_int_int_b.dec, fun a => [.imm (.I .i64 a), .clo 114 []], fun a => [], fun k a => slices_IndexFunc_int_int_b.f k a, fun a r => slices_IndexFunc_int_int_b.en r⟩
theorem slices_IndexFunc_int_int_b.dok : slices_IndexFunc_int_int_b.tw.DecOk := by
  intro args hc a h
  have h : slices_IndexFunc_int_int_b.dec args hc = some a := h
  unfold slices_IndexFunc_int_int_b.dec at h
  split at h
  · cases h; exact ⟨rfl, rfl⟩
  · cases h
noncomputable def slices_IndexFunc_int_int_b.O (k : Nat) : Oracle := (impl_GradesValid_1.tw.orc k noO)
def slices_IndexFunc_int_int_b.fh : FH := ⟨fun i => match i with | 2 => some [(0, 0), (1, 0), (7, 0), (8, 0)] | _ => none, [], false⟩
noncomputable def slices_IndexFunc_int_int_b.x0 (k : Nat) (x0 : List Int) (x7 : Int) (x8 : Int) : Option Res := R.exec Try.prog xhn slices_IndexFunc_int_int_b.O 0 Try.f164 slices_IndexFunc_int_int_b.fh k (R.point Try.f164 2) ⟨[(0, .imm (.I .i64 x0)), (1, .clo 114 []), (7, .int .i64 x7), (8, .int .i64 x8)], [], 2⟩
set_option maxRecDepth 100000 in
theorem slices_IndexFunc_int_int_b.e0 (k : Nat) (x0 : List Int) (x7 : Int) (x8 : Int) : slices_IndexFunc_int_int_b.x0 (k + 1) x0 x7 x8 = (if x8 < x7 then (if 0 ≤ x8 then (if x8 < (x0.length : Int) then ((impl_GradesValid_1.f (rdI x0 x8)).bind fun t1 => (if t1 = true then (some (slices_IndexFunc_int_int_b.en x8)) else (slices_IndexFunc_int_int_b.x0 k x0 x7 (wr64 (x8 + 1))))) else none) else none) else (some (slices_IndexFunc_int_int_b.en (-1)))) := by kernel_rfl
set_option maxRecDepth 100000 in
theorem slices_IndexFunc_int_int_b.ef (k : Nat) (l0 : List Int) : R.start Try.prog xhn slices_IndexFunc_int_int_b.O 0 Try.f164 slices_IndexFunc_int_int_b.fh k [.imm (.I .i64 l0), .clo 114 []] [] = (slices_IndexFunc_int_int_b.x0 k l0 (l0.length : Int) 0) := by kernel_rfl
theorem slices_IndexFunc_int_int_b.link : ∀ k, (∀ (x0 : List Int) (x7 : Int) (x8 : Int), slices_IndexFunc_int_int_b.x0 k x0 x7 x8 = (slices_IndexFunc_int_int_b.l0 k x0 x7 x8).map (slices_IndexFunc_int_int_b.en))
  | 0 => fun _ _ _ => by simp only [slices_IndexFunc_int_int_b.l0, R.map_none]; rfl
  | k + 1 => by
    have ih0 := slices_IndexFunc_int_int_b.link k
    · intro x0 x7 x8
      rw [slices_IndexFunc_int_int_b.e0]
      simp only [slices_IndexFunc_int_int_b.l0, R.map_ite, R.map_bind, R.map_none, R.map_some, R.wr64_eq, ← ih0]
theorem slices_IndexFunc_int_int_b.sf (k : Nat) (l0 : List Int) : R.start Try.prog xhn slices_IndexFunc_int_int_b.O 0 Try.f164 slices_IndexFunc_int_int_b.fh k [.imm (.I .i64 l0), .clo 114 []] [] = (slices_IndexFunc_int_int_b.f k l0).map (slices_IndexFunc_int_int_b.en) := by
  have ih0 := slices_IndexFunc_int_int_b.link k
  rw [slices_IndexFunc_int_int_b.ef]
  simp only [slices_IndexFunc_int_int_b.f, R.map_ite, R.map_bind, R.map_none, R.map_some, R.wr64_eq, ← ih0]
theorem slices_IndexFunc_int_int_b.ok (k : Nat) : slices_IndexFunc_int_int_b.tw.Ok Try.prog k := by
  intro a r h
  refine fn_ok (H := xhn) (fh := slices_IndexFunc_int_int_b.fh) (O := slices_IndexFunc_int_int_b.O) (k := k) Try.func164 (by kernel_rfl) (by kernel_rfl) (fun j _ => (Tw.orc_sound impl_GradesValid_1.dok (impl_GradesValid_1.ok j) noO_sound)) (by kernel_rfl) (m := 0) rfl ?_
  refine (slices_IndexFunc_int_int_b.sf k a).trans ?_
  exact congrArg (Option.map _) h
def slices_ContainsFunc_int_int_b.f (k : Nat) (l0 : List Int) : Option (Bool) := ((slices_IndexFunc_int_int_b.f k l0).bind fun t1 => (some (decide (t1 ≥ 0))))
def slices_ContainsFunc_int_int_b.en (r : Bool) : Res := (.lit r, [])
def slices_ContainsFunc_int_int_b.dec : List AV → List R.Obj → Option (List Int)
  | [.imm (.I .i64 l0), .clo 114 []], [] => some l0
  | _, _ => none
def slices_ContainsFunc_int_int_b.tw : Tw := ⟨113, List Int, Bool, slices_ContainsFunc_int_int_b.dec, fun a => [.imm (.I .i64 a), .clo 114 []], fun a => [], fun k a => slices_ContainsFunc_int_int_b.f k a, fun a r => slices_ContainsFunc_int_int_b.en r⟩
theorem slices_ContainsFunc_int_int_b.dok : slices_ContainsFunc_int_int_b.tw.DecOk := by
  intro args hc a h
  have h : slices_ContainsFunc_int_int_b.dec args hc = some a := h
  unfold slices_ContainsFunc_int_int_b.dec at h
  split at h
  · cases h; exact ⟨rfl, rfl⟩
  · cases h
noncomputable def slices_ContainsFunc_int_int_b.O (k : Nat) : Oracle := (slices_IndexFunc_int_int_b.tw.orc k noO)
def slices_ContainsFunc_int_int_b.fh : FH := ⟨fun i => match i with | _ => none, [], false⟩
set_option maxRecDepth 100000 in
theorem slices_ContainsFunc_int_int_b.ef (k : Nat) (l0 : List Int) : R.start Try.prog xhn slices_ContainsFunc_int_int_b.O 0 Try.f113 slices_ContainsFunc_int_int_b.fh k [.imm (.I .i64 l0), .clo 114 []] [] = ((slices_IndexFunc_int_int_b.f k l0).bind fun t1 => (some (slices_ContainsFunc_int_int_b.en (decide (t1 ≥ 0))))) := by kernel_rfl
theorem slices_ContainsFunc_int_int_b.sf (k : Nat) (l0 : List Int) : R.start Try.prog xhn slices_ContainsFunc_int_int_b.O 0 Try.f113 slices_ContainsFunc_int_int_b.fh k [.imm (.I .i64 l0), .clo 114 []] [] = (slices_ContainsFunc_int_int_b.f k l0).map (slices_ContainsFunc_int_int_b.en) := by
  rw [slices_ContainsFunc_int_int_b.ef]
  simp only [slices_ContainsFunc_int_int_b.f, R.map_ite, R.map_bind, R.map_none, R.map_some, R.wr64_eq]
theorem slices_ContainsFunc_int_int_b.ok (k : Nat) : slices_ContainsFunc_int_int_b.tw.Ok Try.prog k := by
  intro a r h
  refine fn_ok (H := xhn) (fh := slices_ContainsFunc_int_int_b.fh) (O := slices_ContainsFunc_int_int_b.O) (k := k) Try.func113 (by kernel_rfl) (by kernel_rfl) (fun j _ => (Tw.orc_sound slices_IndexFunc_int_int_b.dok (slices_IndexFunc_int_int_b.ok j) noO_sound)) (by kernel_rfl) (m := 0) rfl ?_
  refine (slices_ContainsFunc_int_int_b.sf k a).trans ?_
  exact congrArg (Option.map _) h
def impl_GradesValid.f (k : Nat) (a0_0 : Int) (l0_1 : List Int) : Option (Bool) := ((impl_MatrixValid.f k a0_0 l0_1).bind fun t1 => (if t1 = true then ((slices_ContainsFunc_int_int_b.f k l0_1).bind fun t2 => (some (!decide (t2 = true)))) else (some false)))
def impl_GradesValid.en (r : Bool) : Res := (.lit r, [])
def impl_GradesValid.dec : List AV → List R.Obj → Option (Int × (List Int))
  | [.agg [.int .i64 a0_0, .imm (.I .i64 l0_1)]], [] => some (a0_0, l0_1)
  | _, _ => none
def impl_GradesValid.tw : Tw := ⟨46, Int × (List Int), Bool, impl_GradesValid.dec, fun a => [.agg [.int .i64 a.1, .imm (.I .i64 a.2)]], fun a => [], fun k a => impl_GradesValid.f k a.1 a.2, fun a r => impl_GradesValid.en r⟩
theorem impl_GradesValid.dok : impl_GradesValid.tw.DecOk := by
  intro args hc a h
  have h : impl_GradesValid.dec args hc = some a := h
  unfold impl_GradesValid.dec at h
  split at h
  · cases h; exact ⟨rfl, rfl⟩
  · cases h
noncomputable def impl_GradesValid.O (k : Nat) : Oracle := (impl_MatrixValid.tw.orc k (slices_ContainsFunc_int_int_b.tw.orc k noO))
def impl_GradesValid.fh : FH := ⟨fun i => match i with | _ => none, [], false⟩
set_option maxRecDepth 100000 in
theorem impl_GradesValid.ef (k : Nat) (a0_0 : Int) (l0_1 : List Int) : R.start Try.prog xhn impl_GradesValid.O 0 Try.f46 impl_GradesValid.fh k [.agg [.int .i64 a0_0, .imm (.I .i64 l0_1)]] [] = ((impl_MatrixValid.f k a0_0 l0_1).bind fun t1 => (if t1 = true then ((slices_ContainsFunc_int_int_b.f k l0_1).bind fun t2 => (some (impl_GradesValid.en (!decide (t2 = true))))) else (some (impl_GradesValid.en false)))) := by kernel_rfl
theorem impl_GradesValid.sf (k : Nat) (a0_0 : Int) (l0_1 : List Int) : R.start Try.prog xhn impl_GradesValid.O 0 Try.f46 impl_GradesValid.fh k [.agg [.int .i64 a0_0, .imm (.I .i64 l0_1)]] [] = (impl_GradesValid.f k a0_0 l0_1).map (impl_GradesValid.en) := by
  rw [impl_GradesValid.ef]
  simp only [impl_GradesValid.f, R.map_ite, R.map_bind, R.map_none, R.map_some, R.wr64_eq]
theorem impl_GradesValid.ok (k : Nat) : impl_GradesValid.tw.Ok Try.prog k := by
  intro a r h
  refine fn_ok (H := xhn) (fh := impl_GradesValid.fh) (O := impl_GradesValid.O) (k := k) Try.func46 (by kernel_rfl) (by kernel_rfl) (fun j _ => (Tw.orc_sound impl_MatrixValid.dok (impl_MatrixValid.ok j) (Tw.orc_sound slices_ContainsFunc_int_int_b.dok (slices_ContainsFunc_int_int_b.ok j) noO_sound))) (by kernel_rfl) (m := 0) rfl ?_
  refine (impl_GradesValid.sf k a.1 a.2).trans ?_
  exact congrArg (Option.map _) h
def impl_MulGrades_1.l0 : Nat → Int → Int → Int → Int → Int → Int → (List Int) → Int → (List Int) → Option (Int)
  | 0, _, _, _, _, _, _, _, _, _ => none
  | k + 1, x0, x1, x7, x10, x11, y0_0, y0_1, y1_0, y1_1 => (if x11 < x10 then ((impl_Matrix_at.f y0_0 y0_1 x0 x11).bind fun t1 => ((impl_Matrix_at.f y1_0 y1_1 x11 x1).bind fun t2 => (impl_MulGrades_1.l0 k x0 x1 (mn x7 (mx t1 t2)) x10 (wrap64 (x11 + 1)) y0_0 y0_1 y1_0 y1_1))) else (some x7))
def impl_MulGrades_1.f (k : Nat) (a0 : Int) (a1 : Int) (a4_0 : Int) (l4_1 : List Int) (a5_0 : Int) (l5_1 : List Int) : Option (Int) := (impl_MulGrades_1.l0 k a0 a1 3 a4_0 0 a4_0 l4_1 a5_0 l5_1)
def impl_MulGrades_1.en (a4_0 : Int) (l4_1 : List Int) (a5_0 : Int) (l5_1 : List Int) (r : Int) : Res := (.int .i64 r, [.box true [.int .i64 a4_0, .imm (.I .i64 l4_1)], .box true [.int .i64 a5_0, .imm (.I .i64 l5_1)]])
def impl_MulGrades_1.dec : List AV → List R.Obj → Option (Int × Int × Int × (List Int) × Int × (List Int))
  | [.int .i64 a0, .int .i64 a1, .ptr 0 0, .ptr 1 0], [.box true [.int .i64 a4_0, .imm (.I .i64 l4_1)], .box true [.int .i64 a5_0, .imm (.I .i64 l5_1)]] => some (a0, a1, a4_0, l4_1, a5_0, l5_1)
  | _, _ => none
def impl_MulGrades_1.tw : Tw := ⟨112, Int × Int × Int × (List Int) × Int × (List Int), Int, impl_MulGrades_1.dec, fun a => [.int .i64 a.1, .int .i64 a.2.1, .ptr 0 0, .ptr 1 0], fun a => [.box true [.int .i64 a.2.2.1, .imm (.I .i64 a.2.2.2.1)], .box true [.int .i64 a.2.2.2.2.1, .imm (.I .i64 a.2.2.2.2.2)]], fun k a => impl_MulGrades_1.f k a.1 a.2.1 a.2.2.1 a.2.2.2.1 a.2.2.2.2.1 a.2.2.2.2.2, fun a r => impl_MulGrades_1.en a.2.2.1 a.2.2.2.1 a.2.2.2.2.1 a.2.2.2.2.2 r⟩
theorem impl_MulGrades_1.dok : impl_MulGrades_1.tw.DecOk := by
  intro args hc a h
  have h : impl_MulGrades_1.dec args hc = some a := h
  unfold impl_MulGrades_1.dec at h
  split at h
  · cases h; exact ⟨rfl, rfl⟩
  · cases h
noncomputable def impl_MulGrades_1.O (k : Nat) : Oracle := (impl_Matrix_at.tw.orc k noO)
def impl_MulGrades_1.fh : FH := ⟨fun i => match i with | 3 => some [(0, 0), (1, 0), (2, 0), (3, 0), (7, 0), (10, 0), (11, 0)] | _ => none, [], false⟩
noncomputable def impl_MulGrades_1.x0 (k : Nat) (x0 : Int) (x1 : Int) (x7 : Int) (x10 : Int) (x11 : Int) (y0_0 : Int) (y0_1 : List Int) (y1_0 : Int) (y1_1 : List Int) : Option Res := R.exec Try.prog xhn impl_MulGrades_1.O 2 Try.f112 impl_MulGrades_1.fh k (R.point Try.f112 3) ⟨[(0, .int .i64 x0), (1, .int .i64 x1), (2, .ptr 0 0), (3, .ptr 1 0), (7, .int .i64 x7), (10, .int .i64 x10), (11, .int .i64 x11)], [(0, .box true [.int .i64 y0_0, .imm (.I .i64 y0_1)]), (1, .box true [.int .i64 y1_0, .imm (.I .i64 y1_1)])], 4⟩
set_option maxRecDepth 100000 in
theorem impl_MulGrades_1.e0 (k : Nat) (x0 : Int) (x1 : Int) (x7 : Int) (x10 : Int) (x11 : Int) (y0_0 : Int) (y0_1 : List Int) (y1_0 : Int) (y1_1 : List Int) : impl_MulGrades_1.x0 (k + 1) x0 x1 x7 x10 x11 y0_0 y0_1 y1_0 y1_1 = (if x11 < x10 then ((impl_Matrix_at.f y0_0 y0_1 x0 x11).bind fun t1 => ((impl_Matrix_at.f y1_0 y1_1 x11 x1).bind fun t2 => (impl_MulGrades_1.x0 k x0 x1 (mn x7 (mx t1 t2)) x10 (wr64 (x11 + 1)) y0_0 y0_1 y1_0 y1_1))) else (some (impl_MulGrades_1.en y0_0 y0_1 y1_0 y1_1 x7))) := by kernel_rfl
set_option maxRecDepth 100000 in
theorem impl_MulGrades_1.ef (k : Nat) (a0 : Int) (a1 : Int) (a4_0 : Int) (l4_1 : List Int) (a5_0 : Int) (l5_1 : List Int) : R.start Try.prog xhn impl_MulGrades_1.O 2 Try.f112 impl_MulGrades_1.fh k [.int .i64 a0, .int .i64 a1, .ptr 0 0, .ptr 1 0] [.box true [.int .i64 a4_0, .imm (.I .i64 l4_1)], .box true [.int .i64 a5_0, .imm (.I .i64 l5_1)]] = (impl_MulGrades_1.x0 k a0 a1 3 a4_0 0 a4_0 l4_1 a5_0 l5_1) := by kernel_rfl
theorem impl_MulGrades_1.link : ∀ k, (∀ (x0 : Int) (x1 : Int) (x7 : Int) (x10 : Int) (x11 : Int) (y0_0 : Int) (y0_1 : List Int) (y1_0 : Int) (y1_1 : List Int), impl_MulGrades_1.x0 k x0 x1 x7 x10 x11 y0_0 y0_1 y1_0 y1_1 = (impl_MulGrades_1.l0 k x0 x1 x7 x10 x11 y0_0 y0_1 y1_0 y1_1).map (impl_MulGrades_1.en y0_0 y0_1 y1_0 y1_1))
  | 0 => fun _ _ _ _ _ _ _ _ _ => by simp only [impl_MulGrades_1.l0, R.map_none]; rfl
  | k + 1 => by
    have ih0 := impl_MulGrades_1.link k
    · intro x0 x1 x7 x10 x11 y0_0 y0_1 y1_0 y1_1
      rw [impl_MulGrades_1.e0]
      simp only [impl_MulGrades_1.l0, R.map_ite, R.map_bind, R.map_none, R.map_some, R.wr64_eq, ← ih0]
theorem impl_MulGrades_1.sf (k : Nat) (a0 : Int) (a1 : Int) (a4_0 : Int) (l4_1 : List Int) (a5_0 : Int) (l5_1 : List Int) : R.start Try.prog xhn impl_MulGrades_1.O 2 Try.f112 impl_MulGrades_1.fh k [.int .i64 a0, .int .i64 a1, .ptr 0 0, .ptr 1 0] [.box true [.int .i64 a4_0, .imm (.I .i64 l4_1)], .box true [.int .i64 a5_0, .imm (.I .i64 l5_1)]] = (impl_MulGrades_1.f k a0 a1 a4_0 l4_1 a5_0 l5_1).map (impl_MulGrades_1.en a4_0 l4_1 a5_0 l5_1) := by
  have ih0 := impl_MulGrades_1.link k
  rw [impl_MulGrades_1.ef]
  simp only [impl_MulGrades_1.f, R.map_ite, R.map_bind, R.map_none, R.map_some, R.wr64_eq, ← ih0]
theorem impl_MulGrades_1.ok (k : Nat) : impl_MulGrades_1.tw.Ok Try.prog k := by
  intro a r h
  refine fn_ok (H := xhn) (fh := impl_MulGrades_1.fh) (O := impl_MulGrades_1.O) (k := k) Try.func112 (by kernel_rfl) (by kernel_rfl) (fun j _ => (Tw.orc_sound impl_Matrix_at.dok (impl_Matrix_at.ok j) noO_sound)) (by kernel_rfl) (m := 2) rfl ?_
  refine (impl_MulGrades_1.sf k a.1 a.2.1 a.2.2.1 a.2.2.2.1 a.2.2.2.2.1 a.2.2.2.2.2).trans ?_
  exact congrArg (Option.map _) h
mutual
def impl_filled_c.l0 : Nat → Int → Int → Int → Int → (List Int) → Int → (List Int) → Int → (List Int) → Option (Int × (List Int))
  | 0, _, _, _, _, _, _, _, _, _ => none
  | k + 1, x0, x10, x11, y0_0, y0_1, y1_0, y1_1, y3_0, y5 => (if x11 < x10 then (impl_filled_c.l1 k x0 x11 x10 x11 x0 0 y0_0 y0_1 y1_0 y1_1 y3_0 y5) else (some (y3_0, y5)))
def impl_filled_c.l1 : Nat → Int → Int → Int → Int → Int → Int → Int → (List Int) → Int → (List Int) → Int → (List Int) → Option (Int × (List Int))
  | 0, _, _, _, _, _, _, _, _, _, _, _, _ => none
  | k + 1, x0, x6, x10, x11, x14, x15, y0_0, y0_1, y1_0, y1_1, y3_0, y5 => (if x15 < x14 then ((impl_MulGrades_1.f k x6 x15 y0_0 y0_1 y1_0 y1_1).bind fun t1 => (if y5.length < 17592186044416 then (impl_filled_c.l1 k x0 x6 x10 x11 x14 (wrap64 (x15 + 1)) y0_0 y0_1 y1_0 y1_1 y3_0 (y5 ++ [t1])) else none)) else (impl_filled_c.l0 k x0 x10 (wrap64 (x11 + 1)) y0_0 y0_1 y1_0 y1_1 y3_0 y5))
end
def impl_filled_c.f (k : Nat) (a0 : Int) (a2_0 : Int) (l2_1 : List Int) (a3_0 : Int) (l3_1 : List Int) : Option (Int × (List Int)) := (impl_filled_c.l0 k a0 a0 0 a2_0 l2_1 a3_0 l3_1 a0 ([] : List Int))
def impl_filled_c.en (a2_0 : Int) (l2_1 : List Int) (a3_0 : Int) (l3_1 : List Int) (r : Int × (List Int)) : Res := (.agg [.int .i64 r.1, .sl 2 0], [.box true [.int .i64 a2_0, .imm (.I .i64 l2_1)], .box true [.int .i64 a3_0, .imm (.I .i64 l3_1)], .arr 3 0 (.I .i64 r.2) false])
def impl_filled_c.dec : List AV → List R.Obj → Option (Int × Int × (List Int) × Int × (List Int))
  | [.int .i64 a0, .clo 112 [.ptr 0 0, .ptr 1 0]], [.box true [.int .i64 a2_0, .imm (.I .i64 l2_1)], .box true [.int .i64 a3_0, .imm (.I .i64 l3_1)]] => some (a0, a2_0, l2_1, a3_0, l3_1)
  | _, _ => none
def impl_filled_c.tw : Tw := ⟨107, Int × Int × (List Int) × Int × (List Int), Int × (List Int), impl_filled_c.dec, fun a => [.int .i64 a.1, .clo 112 [.ptr 0 0, .ptr 1 0]], fun a => [.box true [.int .i64 a.2.1, .imm (.I .i64 a.2.2.1)], .box true [.int .i64 a.2.2.2.1, .imm (.I .i64 a.2.2.2.2)]], fun k a => impl_filled_c.f k a.1 a.2.1 a.2.2.1 a.2.2.2.1 a.2.2.2.2, fun a r => impl_filled_c.en a.2.1 a.2.2.1 a.2.2.2.1 a.2.2.2.2 r⟩
theorem impl_filled_c.dok : impl_filled_c.tw.DecOk := by
  intro args hc a h
  have h : impl_filled_c.dec args hc = some a := h
  unfold impl_filled_c.dec at h
  split at h
  · cases h; exact ⟨rfl, rfl⟩
  · cases h
noncomputable def impl_filled_c.O (k : Nat) : Oracle := (impl_MulGrades_1.tw.orc k noO)
def impl_filled_c.fh : FH := ⟨fun i => match i with | 3 => some [(0, 0), (1, 0), (4, 0), (5, 0), (10, 0), (11, 0)] | 6 => some [(0, 0), (1, 0), (4, 0), (5, 0), (6, 0), (10, 0), (11, 0), (14, 0), (15, 0)] | _ => none, [(true, 3)], false⟩
noncomputable def impl_filled_c.x0 (k : Nat) (x0 : Int) (x10 : Int) (x11 : Int) (y0_0 : Int) (y0_1 : List Int) (y1_0 : Int) (y1_1 : List Int) (y3_0 : Int) (y5 : List Int) : Option Res := R.exec Try.prog xhn impl_filled_c.O 2 Try.f107 impl_filled_c.fh k (R.point Try.f107 3) ⟨[(0, .int .i64 x0), (1, .clo 112 [.ptr 0 0, .ptr 1 0]), (4, .ptr 2 0), (5, .ptr 3 0), (10, .int .i64 x10), (11, .int .i64 x11)], [(0, .box true [.int .i64 y0_0, .imm (.I .i64 y0_1)]), (1, .box true [.int .i64 y1_0, .imm (.I .i64 y1_1)]), (2, .box false [.int .i64 0, .sl 4 0]), (3, .box false [.int .i64 y3_0, .sl 5 0]), (4, .arr 3 0 (.I .i64 ([] : List Int)) false), (5, .arr 3 0 (.I .i64 y5) false)], 8⟩
noncomputable def impl_filled_c.x1 (k : Nat) (x0 : Int) (x6 : Int) (x10 : Int) (x11 : Int) (x14 : Int) (x15 : Int) (y0_0 : Int) (y0_1 : List Int) (y1_0 : Int) (y1_1 : List Int) (y3_0 : Int) (y5 : List Int) : Option Res := R.exec Try.prog xhn impl_filled_c.O 2 Try.f107 impl_filled_c.fh k (R.point Try.f107 6) ⟨[(0, .int .i64 x0), (1, .clo 112 [.ptr 0 0, .ptr 1 0]), (4, .ptr 2 0), (5, .ptr 3 0), (6, .int .i64 x6), (10, .int .i64 x10), (11, .int .i64 x11), (14, .int .i64 x14), (15, .int .i64 x15)], [(0, .box true [.int .i64 y0_0, .imm (.I .i64 y0_1)]), (1, .box true [.int .i64 y1_0, .imm (.I .i64 y1_1)]), (2, .box false [.int .i64 0, .sl 4 0]), (3, .box false [.int .i64 y3_0, .sl 5 0]), (4, .arr 3 0 (.I .i64 ([] : List Int)) false), (5, .arr 3 0 (.I .i64 y5) false)], 8⟩
set_option maxRecDepth 100000 in
theorem impl_filled_c.e0 (k : Nat) (x0 : Int) (x10 : Int) (x11 : Int) (y0_0 : Int) (y0_1 : List Int) (y1_0 : Int) (y1_1 : List Int) (y3_0 : Int) (y5 : List Int) : impl_filled_c.x0 (k + 1) x0 x10 x11 y0_0 y0_1 y1_0 y1_1 y3_0 y5 = (if x11 < x10 then (impl_filled_c.x1 k x0 x11 x10 x11 x0 0 y0_0 y0_1 y1_0 y1_1 y3_0 y5) else (some (impl_filled_c.en y0_0 y0_1 y1_0 y1_1 (y3_0, y5)))) := by kernel_rfl
set_option maxRecDepth 100000 in
theorem impl_filled_c.e1 (k : Nat) (x0 : Int) (x6 : Int) (x10 : Int) (x11 : Int) (x14 : Int) (x15 : Int) (y0_0 : Int) (y0_1 : List Int) (y1_0 : Int) (y1_1 : List Int) (y3_0 : Int) (y5 : List Int) : impl_filled_c.x1 (k + 1) x0 x6 x10 x11 x14 x15 y0_0 y0_1 y1_0 y1_1 y3_0 y5 = (if x15 < x14 then ((impl_MulGrades_1.f k x6 x15 y0_0 y0_1 y1_0 y1_1).bind fun t1 => (if y5.length < 17592186044416 then (impl_filled_c.x1 k x0 x6 x10 x11 x14 (wr64 (x15 + 1)) y0_0 y0_1 y1_0 y1_1 y3_0 (y5 ++ [t1])) else none)) else (impl_filled_c.x0 k x0 x10 (wr64 (x11 + 1)) y0_0 y0_1 y1_0 y1_1 y3_0 y5)) := by kernel_rfl
set_option maxRecDepth 100000 in
theorem impl_filled_c.ef (k : Nat) (a0 : Int) (a2_0 : Int) (l2_1 : List Int) (a3_0 : Int) (l3_1 : List Int) : R.start Try.prog xhn impl_filled_c.O 2 Try.f107 impl_filled_c.fh k [.int .i64 a0, .clo 112 [.ptr 0 0, .ptr 1 0]] [.box true [.int .i64 a2_0, .imm (.I .i64 l2_1)], .box true [.int .i64 a3_0, .imm (.I .i64 l3_1)]] = (impl_filled_c.x0 k a0 a0 0 a2_0 l2_1 a3_0 l3_1 a0 ([] : List Int)) := by kernel_rfl
theorem impl_filled_c.link : ∀ k, (∀ (x0 : Int) (x10 : Int) (x11 : Int) (y0_0 : Int) (y0_1 : List Int) (y1_0 : Int) (y1_1 : List Int) (y3_0 : Int) (y5 : List Int), impl_filled_c.x0 k x0 x10 x11 y0_0 y0_1 y1_0 y1_1 y3_0 y5 = (impl_filled_c.l0 k x0 x10 x11 y0_0 y0_1 y1_0 y1_1 y3_0 y5).map (impl_filled_c.en y0_0 y0_1 y1_0 y1_1)) ∧ (∀ (x0 : Int) (x6 : Int) (x10 : Int) (x11 : Int) (x14 : Int) (x15 : Int) (y0_0 : Int) (y0_1 : List Int) (y1_0 : Int) (y1_1 : List Int) (y3_0 : Int) (y5 : List Int), impl_filled_c.x1 k x0 x6 x10 x11 x14 x15 y0_0 y0_1 y1_0 y1_1 y3_0 y5 = (impl_filled_c.l1 k x0 x6 x10 x11 x14 x15 y0_0 y0_1 y1_0 y1_1 y3_0 y5).map (impl_filled_c.en y0_0 y0_1 y1_0 y1_1))
  | 0 => ⟨fun _ _ _ _ _ _ _ _ _ => by simp only [impl_filled_c.l0, R.map_none]; rfl, fun _ _ _ _ _ _ _ _ _ _ _ _ => by simp only [impl_filled_c.l1, R.map_none]; rfl⟩
  | k + 1 => by
    obtain ⟨ih0, ih1⟩ := impl_filled_c.link k
    refine ⟨?_, ?_⟩
    · intro x0 x10 x11 y0_0 y0_1 y1_0 y1_1 y3_0 y5
      rw [impl_filled_c.e0]
      simp only [impl_filled_c.l0, R.map_ite, R.map_bind, R.map_none, R.map_some, R.wr64_eq, ← ih0, ← ih1]
    · intro x0 x6 x10 x11 x14 x15 y0_0 y0_1 y1_0 y1_1 y3_0 y5
      rw [impl_filled_c.e1]
      simp only [impl_filled_c.l1, R.map_ite, R.map_bind, R.map_none, R.map_some, R.wr64_eq, ← ih0, ← ih1]
theorem impl_filled_c.sf (k : Nat) (a0 : Int) (a2_0 : Int) (l2_1 : List Int) (a3_0 : Int) (l3_1 : List Int) : R.start Try.prog xhn impl_filled_c.O 2 Try.f107 impl_filled_c.fh k [.int .i64 a0, .clo 112 [.ptr 0 0, .ptr 1 0]] [.box true [.int .i64 a2_0, .imm (.I .i64 l2_1)], .box true [.int .i64 a3_0, .imm (.I .i64 l3_1)]] = (impl_filled_c.f k a0 a2_0 l2_1 a3_0 l3_1).map (impl_filled_c.en a2_0 l2_1 a3_0 l3_1) := by
  obtain ⟨ih0, ih1⟩ := impl_filled_c.link k
  rw [impl_filled_c.ef]
  simp only [impl_filled_c.f, R.map_ite, R.map_bind, R.map_none, R.map_some, R.wr64_eq, ← ih0, ← ih1]
theorem impl_filled_c.ok (k : Nat) : impl_filled_c.tw.Ok Try.prog k := by
  intro a r h
  refine fn_ok (H := xhn) (fh := impl_filled_c.fh) (O := impl_filled_c.O) (k := k) Try.func107 (by kernel_rfl) (by kernel_rfl) (fun j _ => (Tw.orc_sound impl_MulGrades_1.dok (impl_MulGrades_1.ok j) noO_sound)) (by kernel_rfl) (m := 2) rfl ?_
  refine (impl_filled_c.sf k a.1 a.2.1 a.2.2.1 a.2.2.2.1 a.2.2.2.2).trans ?_
  exact congrArg (Option.map _) h
def impl_MulGrades.f (k : Nat) (a0_0 : Int) (l0_1 : List Int) (a1_0 : Int) (l1_1 : List Int) : Option (Int × (List Int) × Bool) := ((impl_GradesValid.f k a0_0 l0_1).bind fun t1 => (if t1 = true then ((impl_GradesValid.f k a1_0 l1_1).bind fun t2 => (if t2 = true then (if a0_0 = a1_0 then ((impl_filled_c.f k a0_0 a0_0 l0_1 a1_0 l1_1).bind fun t3 => (some (t3.1, t3.2, true))) else (some (0, ([] : List Int), false))) else (some (0, ([] : List Int), false)))) else (some (0, ([] : List Int), false))))
def impl_MulGrades.en (r : Int × (List Int) × Bool) : Res := (.tup [.agg [.int .i64 r.1, .sl 0 0], .lit r.2.2], [.arr 3 0 (.I .i64 r.2.1) false])
def impl_MulGrades.dec : List AV → List R.Obj → Option (Int × (List Int) × Int × (List Int))
  | [.agg [.int .i64 a0_0, .imm (.I .i64 l0_1)], .agg [.int .i64 a1_0, .imm (.I .i64 l1_1)]], [] => some (a0_0, l0_1, a1_0, l1_1)
  | _, _ => none
def impl_MulGrades.tw : Tw := ⟨44, Int × (List Int) × Int × (List Int), Int × (List Int) × Bool, impl_MulGrades.dec, fun a => [.agg [.int .i64 a.1, .imm (.I .i64 a.2.1)], .agg [.int .i64 a.2.2.1, .imm (.I .i64 a.2.2.2)]], fun a => [], fun k a => impl_MulGrades.f k a.1 a.2.1 a.2.2.1 a.2.2.2, fun a r => impl_MulGrades.en r⟩
theorem impl_MulGrades.dok : impl_MulGrades.tw.DecOk := by
  intro args hc a h
  have h : impl_MulGrades.dec args hc = some a := h
  unfold impl_MulGrades.dec at h
  split at h
  · cases h; exact ⟨rfl, rfl⟩
  · cases h
noncomputable def impl_MulGrades.O (k : Nat) : Oracle := (impl_GradesValid.tw.orc k (impl_filled_c.tw.orc k noO))
def impl_MulGrades.fh : FH := ⟨fun i => match i with | _ => none, [(true, 3)], false⟩
set_option maxRecDepth 100000 in
theorem impl_MulGrades.ef (k : Nat) (a0_0 : Int) (l0_1 : List Int) (a1_0 : Int) (l1_1 : List Int) : R.start Try.prog xhn impl_MulGrades.O 0 Try.f44 impl_MulGrades.fh k [.agg [.int .i64 a0_0, .imm (.I .i64 l0_1)], .agg [.int .i64 a1_0, .imm (.I .i64 l1_1)]] [] = ((impl_GradesValid.f k a0_0 l0_1).bind fun t1 => (if t1 = true then ((impl_GradesValid.f k a1_0 l1_1).bind fun t2 => (if t2 = true then (if a0_0 = a1_0 then ((impl_filled_c.f k a0_0 a0_0 l0_1 a1_0 l1_1).bind fun t3 => (some (impl_MulGrades.en (t3.1, t3.2, true)))) else (some (impl_MulGrades.en (0, ([] : List Int), false)))) else (some (impl_MulGrades.en (0, ([] : List Int), false))))) else (some (impl_MulGrades.en (0, ([] : List Int), false))))) := by kernel_rfl
theorem impl_MulGrades.sf (k : Nat) (a0_0 : Int) (l0_1 : List Int) (a1_0 : Int) (l1_1 : List Int) : R.start Try.prog xhn impl_MulGrades.O 0 Try.f44 impl_MulGrades.fh k [.agg [.int .i64 a0_0, .imm (.I .i64 l0_1)], .agg [.int .i64 a1_0, .imm (.I .i64 l1_1)]] [] = (impl_MulGrades.f k a0_0 l0_1 a1_0 l1_1).map (impl_MulGrades.en) := by
  rw [impl_MulGrades.ef]
  simp only [impl_MulGrades.f, R.map_ite, R.map_bind, R.map_none, R.map_some, R.wr64_eq]
theorem impl_MulGrades.ok (k : Nat) : impl_MulGrades.tw.Ok Try.prog k := by
  intro a r h
  refine fn_ok (H := xhn) (fh := impl_MulGrades.fh) (O := impl_MulGrades.O) (k := k) Try.func44 (by kernel_rfl) (by kernel_rfl) (fun j _ => (Tw.orc_sound impl_GradesValid.dok (impl_GradesValid.ok j) (Tw.orc_sound impl_filled_c.dok (impl_filled_c.ok j) noO_sound))) (by kernel_rfl) (m := 0) rfl ?_
  refine (impl_MulGrades.sf k a.1 a.2.1 a.2.2.1 a.2.2.2).trans ?_
  exact congrArg (Option.map _) h
def slices_Equal_int_int.l0 : Nat → (List Int) → (List Int) → Int → Int → Option (Bool)
  | 0, _, _, _, _ => none
  | k + 1, x0, x1, x12, x13 => (if x13 < x12 then (if 0 ≤ x13 then (if x13 < (x0.length : Int) then (if x13 < (x1.length : Int) then (if (rdI x0 x13) = (rdI x1 x13) then (slices_Equal_int_int.l0 k x0 x1 x12 (wrap64 (x13 + 1))) else (some false)) else none) else none) else none) else (some true))
def slices_Equal_int_int.f (k : Nat) (l0 : List Int) (l1 : List Int) : Option (Bool) := (if (l0.length : Int) = (l1.length : Int) then (slices_Equal_int_int.l0 k l0 l1 (l0.length : Int) 0) else (some false))
def slices_Equal_int_int.en (r : Bool) : Res := (.lit r, [])
def slices_Equal_int_int.dec : List AV → List R.Obj → Option ((List Int) × (List Int))
  | [.imm (.I .i64 l0), .imm (.I .i64 l1)], [] => some (l0, l1)
  | _, _ => none
def slices_Equal_int_int.tw : Tw := ⟨165, (List Int) × (List Int), Bool, slices_Equal_int_int.dec, fun a => [.imm (.I .i64 a.1), .imm (.I .i64 a.2)], fun a => [], fun k a => slices_Equal_int_int.f k a.1 a.2, fun a r => slices_Equal_int_int.en r⟩
theorem slices_Equal_int_int.dok : slices_Equal_int_int.tw.DecOk := by
  intro args hc a h
  have h : slices_Equal_int_int.dec args hc = some a := h
  unfold slices_Equal_int_int.dec at h
  split at h
  · cases h; exact ⟨rfl, rfl⟩
  · cases h
noncomputable def slices_Equal_int_int.O (k : Nat) : Oracle := noO
def slices_Equal_int_int.fh : FH := ⟨fun i => match i with | 4 => some [(0, 0), (1, 0), (12, 0), (13, 0)] | _ => none, [], false⟩
noncomputable def slices_Equal_int_int.x0 (k : Nat) (x0 : List Int) (x1 : List Int) (x12 : Int) (x13 : Int) : Option Res := R.exec Try.prog xhn slices_Equal_int_int.O 0 Try.f165 slices_Equal_int_int.fh k (R.point Try.f165 4) ⟨[(0, .imm (.I .i64 x0)), (1, .imm (.I .i64 x1)), (12, .int .i64 x12), (13, .int .i64 x13)], [], 2⟩
set_option maxRecDepth 100000 in
theorem slices_Equal_int_int.e0 (k : Nat) (x0 : List Int) (x1 : List Int) (x12 : Int) (x13 : Int) : slices_Equal_int_int.x0 (k + 1) x0 x1 x12 x13 = (if x13 < x12 then (if 0 ≤ x13 then (if x13 < (x0.length : Int) then (if x13 < (x1.length : Int) then (if (rdI x0 x13) = (rdI x1 x13) then (slices_Equal_int_int.x0 k x0 x1 x12 (wr64 (x13 + 1))) else (some (slices_Equal_int_int.en false))) else none) else none) else none) else (some (slices_Equal_int_int.en true))) := by
  refine Eq.trans ?_ (R.icong (fun h0 => (R.icong (fun h1 => (R.icong (fun h2 => (R.idropT (p := 0 ≤ x13) (z := none) h1 rfl)) (fun h2 => rfl))) (fun h1 => rfl))) (fun h0 => rfl))
  kernel_rfl
set_option maxRecDepth 100000 in
theorem slices_Equal_int_int.ef (k : Nat) (l0 : List Int) (l1 : List Int) : R.start Try.prog xhn slices_Equal_int_int.O 0 Try.f165 slices_Equal_int_int.fh k [.imm (.I .i64 l0), .imm (.I .i64 l1)] [] = (if (l0.length : Int) = (l1.length : Int) then (slices_Equal_int_int.x0 k l0 l1 (l0.length : Int) 0) else (some (slices_Equal_int_int.en false))) := by kernel_rfl
theorem slices_Equal_int_int.link : ∀ k, (∀ (x0 : List Int) (x1 : List Int) (x12 : Int) (x13 : Int), slices_Equal_int_int.x0 k x0 x1 x12 x13 = (slices_Equal_int_int.l0 k x0 x1 x12 x13).map (slices_Equal_int_int.en))
  | 0 => fun _ _ _ _ => by simp only [slices_Equal_int_int.l0, R.map_none]; rfl
  | k + 1 => by
    have ih0 := slices_Equal_int_int.link k
    · intro x0 x1 x12 x13
      rw [slices_Equal_int_int.e0]
      simp only [slices_Equal_int_int.l0, R.map_ite, R.map_bind, R.map_none, R.map_some, R.wr64_eq, ← ih0]
theorem slices_Equal_int_int.sf (k : Nat) (l0 : List Int) (l1 : List Int) : R.start Try.prog xhn slices_Equal_int_int.O 0 Try.f165 slices_Equal_int_int.fh k [.imm (.I .i64 l0), .imm (.I .i64 l1)] [] = (slices_Equal_int_int.f k l0 l1).map (slices_Equal_int_int.en) := by
  have ih0 := slices_Equal_int_int.link k
  rw [slices_Equal_int_int.ef]
  simp only [slices_Equal_int_int.f, R.map_ite, R.map_bind, R.map_none, R.map_some, R.wr64_eq, ← ih0]
theorem slices_Equal_int_int.ok (k : Nat) : slices_Equal_int_int.tw.Ok Try.prog k := by
  intro a r h
  refine fn_ok (H := xhn) (fh := slices_Equal_int_int.fh) (O := slices_Equal_int_int.O) (k := k) Try.func165 (by kernel_rfl) (by kernel_rfl) (fun j _ => noO_sound) (by kernel_rfl) (m := 0) rfl ?_
  refine (slices_Equal_int_int.sf k a.1 a.2).trans ?_
  exact congrArg (Option.map _) h
def impl_SameMatrix.f (k : Nat) (a0_0 : Int) (l0_1 : List Int) (a1_0 : Int) (l1_1 : List Int) : Option (Bool) := (if a0_0 = a1_0 then ((slices_Equal_int_int.f k l0_1 l1_1).bind fun t1 => (some t1)) else (some false))
def impl_SameMatrix.en (r : Bool) : Res := (.lit r, [])
def impl_SameMatrix.dec : List AV → List R.Obj → Option (Int × (List Int) × Int × (List Int))
  | [.agg [.int .i64 a0_0, .imm (.I .i64 l0_1)], .agg [.int .i64 a1_0, .imm (.I .i64 l1_1)]], [] => some (a0_0, l0_1, a1_0, l1_1)
  | _, _ => none
def impl_SameMatrix.tw : Tw := ⟨116, Int × (List Int) × Int × (List Int), Bool, impl_SameMatrix.dec, fun a => [.agg [.int .i64 a.1, .imm (.I .i64 a.2.1)], .agg [.int .i64 a.2.2.1, .imm (.I .i64 a.2.2.2)]], fun a => [], fun k a => impl_SameMatrix.f k a.1 a.2.1 a.2.2.1 a.2.2.2, fun a r => impl_SameMatrix.en r⟩
theorem impl_SameMatrix.dok : impl_SameMatrix.tw.DecOk := by
  intro args hc a h
  have h : impl_SameMatrix.dec args hc = some a := h
  unfold impl_SameMatrix.dec at h
  split at h
  · cases h; exact ⟨rfl, rfl⟩
  · cases h
noncomputable def impl_SameMatrix.O (k : Nat) : Oracle := (slices_Equal_int_int.tw.orc k noO)
def impl_SameMatrix.fh : FH := ⟨fun i => match i with | _ => none, [], false⟩
set_option maxRecDepth 100000 in
theorem impl_SameMatrix.ef (k : Nat) (a0_0 : Int) (l0_1 : List Int) (a1_0 : Int) (l1_1 : List Int) : R.start Try.prog xhn impl_SameMatrix.O 0 Try.f116 impl_SameMatrix.fh k [.agg [.int .i64 a0_0, .imm (.I .i64 l0_1)], .agg [.int .i64 a1_0, .imm (.I .i64 l1_1)]] [] = (if a0_0 = a1_0 then ((slices_Equal_int_int.f k l0_1 l1_1).bind fun t1 => (some (impl_SameMatrix.en t1))) else (some (impl_SameMatrix.en false))) := by kernel_rfl
theorem impl_SameMatrix.sf (k : Nat) (a0_0 : Int) (l0_1 : List Int) (a1_0 : Int) (l1_1 : List Int) : R.start Try.prog xhn impl_SameMatrix.O 0 Try.f116 impl_SameMatrix.fh k [.agg [.int .i64 a0_0, .imm (.I .i64 l0_1)], .agg [.int .i64 a1_0, .imm (.I .i64 l1_1)]] [] = (impl_SameMatrix.f k a0_0 l0_1 a1_0 l1_1).map (impl_SameMatrix.en) := by
  rw [impl_SameMatrix.ef]
  simp only [impl_SameMatrix.f, R.map_ite, R.map_bind, R.map_none, R.map_some, R.wr64_eq]
theorem impl_SameMatrix.ok (k : Nat) : impl_SameMatrix.tw.Ok Try.prog k := by
  intro a r h
  refine fn_ok (H := xhn) (fh := impl_SameMatrix.fh) (O := impl_SameMatrix.O) (k := k) Try.func116 (by kernel_rfl) (by kernel_rfl) (fun j _ => (Tw.orc_sound slices_Equal_int_int.dok (slices_Equal_int_int.ok j) noO_sound)) (by kernel_rfl) (m := 0) rfl ?_
  refine (impl_SameMatrix.sf k a.1 a.2.1 a.2.2.1 a.2.2.2).trans ?_
  exact congrArg (Option.map _) h
def impl_IsIdempotent.f (k : Nat) (a0_0 : Int) (l0_1 : List Int) : Option (Bool) := ((impl_MulGrades.f k a0_0 l0_1 a0_0 l0_1).bind fun t1 => (if t1.2.2 = true then ((impl_SameMatrix.f k t1.1 t1.2.1 a0_0 l0_1).bind fun t2 => (some t2)) else (some false)))
def impl_IsIdempotent.en (r : Bool) : Res := (.lit r, [])
def impl_IsIdempotent.dec : List AV → List R.Obj → Option (Int × (List Int))
  | [.agg [.int .i64 a0_0, .imm (.I .i64 l0_1)]], [] => some (a0_0, l0_1)
  | _, _ => none
def impl_IsIdempotent.tw : Tw := ⟨132, Int × (List Int), Bool, impl_IsIdempotent.dec, fun a => [.agg [.int .i64 a.1, .imm (.I .i64 a.2)]], fun a => [], fun k a => impl_IsIdempotent.f k a.1 a.2, fun a r => impl_IsIdempotent.en r⟩
theorem impl_IsIdempotent.dok : impl_IsIdempotent.tw.DecOk := by
  intro args hc a h
  have h : impl_IsIdempotent.dec args hc = some a := h
  unfold impl_IsIdempotent.dec at h
  split at h
  · cases h; exact ⟨rfl, rfl⟩
  · cases h
noncomputable def impl_IsIdempotent.O (k : Nat) : Oracle := (impl_MulGrades.tw.orc k (impl_SameMatrix.tw.orc k noO))
def impl_IsIdempotent.fh : FH := ⟨fun i => match i with | _ => none, [], false⟩
set_option maxRecDepth 100000 in
theorem impl_IsIdempotent.ef (k : Nat) (a0_0 : Int) (l0_1 : List Int) : R.start Try.prog xhn impl_IsIdempotent.O 0 Try.f132 impl_IsIdempotent.fh k [.agg [.int .i64 a0_0, .imm (.I .i64 l0_1)]] [] = ((impl_MulGrades.f k a0_0 l0_1 a0_0 l0_1).bind fun t1 => (if t1.2.2 = true then ((impl_SameMatrix.f k t1.1 t1.2.1 a0_0 l0_1).bind fun t2 => (some (impl_IsIdempotent.en t2))) else (some (impl_IsIdempotent.en false)))) := by kernel_rfl
theorem impl_IsIdempotent.sf (k : Nat) (a0_0 : Int) (l0_1 : List Int) : R.start Try.prog xhn impl_IsIdempotent.O 0 Try.f132 impl_IsIdempotent.fh k [.agg [.int .i64 a0_0, .imm (.I .i64 l0_1)]] [] = (impl_IsIdempotent.f k a0_0 l0_1).map (impl_IsIdempotent.en) := by
  rw [impl_IsIdempotent.ef]
  simp only [impl_IsIdempotent.f, R.map_ite, R.map_bind, R.map_none, R.map_some, R.wr64_eq]
theorem impl_IsIdempotent.ok (k : Nat) : impl_IsIdempotent.tw.Ok Try.prog k := by
  intro a r h
  refine fn_ok (H := xhn) (fh := impl_IsIdempotent.fh) (O := impl_IsIdempotent.O) (k := k) Try.func132 (by kernel_rfl) (by kernel_rfl) (fun j _ => (Tw.orc_sound impl_MulGrades.dok (impl_MulGrades.ok j) (Tw.orc_sound impl_SameMatrix.dok (impl_SameMatrix.ok j) noO_sound))) (by kernel_rfl) (m := 0) rfl ?_
  refine (impl_IsIdempotent.sf k a.1 a.2).trans ?_
  exact congrArg (Option.map _) h
def impl_Stabilise_1.l0 : Nat → Int → Int → Int → Int → Int → Int → (List Int) → Option (Int)
  | 0, _, _, _, _, _, _, _ => none
  | k + 1, x0, x1, x6, x10, x11, y0_0, y0_1 => (if x11 < x10 then ((impl_Matrix_at.f y0_0 y0_1 x11 x11).bind fun t1 => (if t1 = 1 then ((impl_Matrix_at.f y0_0 y0_1 x0 x11).bind fun t2 => ((impl_Matrix_at.f y0_0 y0_1 x11 x1).bind fun t3 => (impl_Stabilise_1.l0 k x0 x1 (mn x6 (mx (mx t2 2) t3)) x10 (wrap64 (x11 + 1)) y0_0 y0_1))) else ((impl_Matrix_at.f y0_0 y0_1 x0 x11).bind fun t4 => ((impl_Matrix_at.f y0_0 y0_1 x11 x1).bind fun t5 => (impl_Stabilise_1.l0 k x0 x1 (mn x6 (mx (mx t4 t1) t5)) x10 (wrap64 (x11 + 1)) y0_0 y0_1))))) else (some x6))
def impl_Stabilise_1.f (k : Nat) (a0 : Int) (a1 : Int) (a3_0 : Int) (l3_1 : List Int) : Option (Int) := (impl_Stabilise_1.l0 k a0 a1 3 a3_0 0 a3_0 l3_1)
def impl_Stabilise_1.en (a3_0 : Int) (l3_1 : List Int) (r : Int) : Res := (.int .i64 r, [.box true [.int .i64 a3_0, .imm (.I .i64 l3_1)]])
def impl_Stabilise_1.dec : List AV → List R.Obj → Option (Int × Int × Int × (List Int))
  | [.int .i64 a0, .int .i64 a1, .ptr 0 0], [.box true [.int .i64 a3_0, .imm (.I .i64 l3_1)]] => some (a0, a1, a3_0, l3_1)
  | _, _ => none
def impl_Stabilise_1.tw : Tw := ⟨133, Int × Int × Int × (List Int), Int, impl_Stabilise_1.dec, fun a => [.int .i64 a.1, .int .i64 a.2.1, .ptr 0 0], fun a => [.box true [.int .i64 a.2.2.1, .imm (.I .i64 a.2.2.2)]], fun k a => impl_Stabilise_1.f k a.1 a.2.1 a.2.2.1 a.2.2.2, fun a r => impl_Stabilise_1.en a.2.2.1 a.2.2.2 r⟩
theorem impl_Stabilise_1.dok : impl_Stabilise_1.tw.DecOk := by
  intro args hc a h
  have h : impl_Stabilise_1.dec args hc = some a := h
  unfold impl_Stabilise_1.dec at h
  split at h
  · cases h; exact ⟨rfl, rfl⟩
  · cases h
noncomputable def impl_Stabilise_1.O (k : Nat) : Oracle := (impl_Matrix_at.tw.orc k noO)
def impl_Stabilise_1.fh : FH := ⟨fun i => match i with | 3 => some [(0, 0), (1, 0), (2, 0), (6, 0), (10, 0), (11, 0)] | _ => none, [], false⟩
noncomputable def impl_Stabilise_1.x0 (k : Nat) (x0 : Int) (x1 : Int) (x6 : Int) (x10 : Int) (x11 : Int) (y0_0 : Int) (y0_1 : List Int) : Option Res := R.exec Try.prog xhn impl_Stabilise_1.O 1 Try.f133 impl_Stabilise_1.fh k (R.point Try.f133 3) ⟨[(0, .int .i64 x0), (1, .int .i64 x1), (2, .ptr 0 0), (6, .int .i64 x6), (10, .int .i64 x10), (11, .int .i64 x11)], [(0, .box true [.int .i64 y0_0, .imm (.I .i64 y0_1)])], 3⟩
set_option maxRecDepth 100000 in
theorem impl_Stabilise_1.e0 (k : Nat) (x0 : Int) (x1 : Int) (x6 : Int) (x10 : Int) (x11 : Int) (y0_0 : Int) (y0_1 : List Int) : impl_Stabilise_1.x0 (k + 1) x0 x1 x6 x10 x11 y0_0 y0_1 = (if x11 < x10 then ((impl_Matrix_at.f y0_0 y0_1 x11 x11).bind fun t1 => (if t1 = 1 then ((impl_Matrix_at.f y0_0 y0_1 x0 x11).bind fun t2 => ((impl_Matrix_at.f y0_0 y0_1 x11 x1).bind fun t3 => (impl_Stabilise_1.x0 k x0 x1 (mn x6 (mx (mx t2 2) t3)) x10 (wr64 (x11 + 1)) y0_0 y0_1))) else ((impl_Matrix_at.f y0_0 y0_1 x0 x11).bind fun t4 => ((impl_Matrix_at.f y0_0 y0_1 x11 x1).bind fun t5 => (impl_Stabilise_1.x0 k x0 x1 (mn x6 (mx (mx t4 t1) t5)) x10 (wr64 (x11 + 1)) y0_0 y0_1))))) else (some (impl_Stabilise_1.en y0_0 y0_1 x6))) := by kernel_rfl
set_option maxRecDepth 100000 in
theorem impl_Stabilise_1.ef (k : Nat) (a0 : Int) (a1 : Int) (a3_0 : Int) (l3_1 : List Int) : R.start Try.prog xhn impl_Stabilise_1.O 1 Try.f133 impl_Stabilise_1.fh k [.int .i64 a0, .int .i64 a1, .ptr 0 0] [.box true [.int .i64 a3_0, .imm (.I .i64 l3_1)]] = (impl_Stabilise_1.x0 k a0 a1 3 a3_0 0 a3_0 l3_1) := by kernel_rfl
theorem impl_Stabilise_1.link : ∀ k, (∀ (x0 : Int) (x1 : Int) (x6 : Int) (x10 : Int) (x11 : Int) (y0_0 : Int) (y0_1 : List Int), impl_Stabilise_1.x0 k x0 x1 x6 x10 x11 y0_0 y0_1 = (impl_Stabilise_1.l0 k x0 x1 x6 x10 x11 y0_0 y0_1).map (impl_Stabilise_1.en y0_0 y0_1))
  | 0 => fun _ _ _ _ _ _ _ => by simp only [impl_Stabilise_1.l0, R.map_none]; rfl
  | k + 1 => by
    have ih0 := impl_Stabilise_1.link k
    · intro x0 x1 x6 x10 x11 y0_0 y0_1
      rw [impl_Stabilise_1.e0]
      simp only [impl_Stabilise_1.l0, R.map_ite, R.map_bind, R.map_none, R.map_some, R.wr64_eq, ← ih0]
theorem impl_Stabilise_1.sf (k : Nat) (a0 : Int) (a1 : Int) (a3_0 : Int) (l3_1 : List Int) : R.start Try.prog xhn impl_Stabilise_1.O 1 Try.f133 impl_Stabilise_1.fh k [.int .i64 a0, .int .i64 a1, .ptr 0 0] [.box true [.int .i64 a3_0, .imm (.I .i64 l3_1)]] = (impl_Stabilise_1.f k a0 a1 a3_0 l3_1).map (impl_Stabilise_1.en a3_0 l3_1) := by
  have ih0 := impl_Stabilise_1.link k
  rw [impl_Stabilise_1.ef]
  simp only [impl_Stabilise_1.f, R.map_ite, R.map_bind, R.map_none, R.map_some, R.wr64_eq, ← ih0]
theorem impl_Stabilise_1.ok (k : Nat) : impl_Stabilise_1.tw.Ok Try.prog k := by
  intro a r h
  refine fn_ok (H := xhn) (fh := impl_Stabilise_1.fh) (O := impl_Stabilise_1.O) (k := k) Try.func133 (by kernel_rfl) (by kernel_rfl) (fun j _ => (Tw.orc_sound impl_Matrix_at.dok (impl_Matrix_at.ok j) noO_sound)) (by kernel_rfl) (m := 1) rfl ?_
  refine (impl_Stabilise_1.sf k a.1 a.2.1 a.2.2.1 a.2.2.2).trans ?_
  exact congrArg (Option.map _) h
mutual
def impl_filled_d.l0 : Nat → Int → Int → Int → Int → (List Int) → Int → (List Int) → Option (Int × (List Int))
  | 0, _, _, _, _, _, _, _ => none
  | k + 1, x0, x10, x11, y0_0, y0_1, y2_0, y4 => (if x11 < x10 then (impl_filled_d.l1 k x0 x11 x10 x11 x0 0 y0_0 y0_1 y2_0 y4) else (some (y2_0, y4)))
def impl_filled_d.l1 : Nat → Int → Int → Int → Int → Int → Int → Int → (List Int) → Int → (List Int) → Option (Int × (List Int))
  | 0, _, _, _, _, _, _, _, _, _, _ => none
  | k + 1, x0, x6, x10, x11, x14, x15, y0_0, y0_1, y2_0, y4 => (if x15 < x14 then ((impl_Stabilise_1.f k x6 x15 y0_0 y0_1).bind fun t1 => (if y4.length < 17592186044416 then (impl_filled_d.l1 k x0 x6 x10 x11 x14 (wrap64 (x15 + 1)) y0_0 y0_1 y2_0 (y4 ++ [t1])) else none)) else (impl_filled_d.l0 k x0 x10 (wrap64 (x11 + 1)) y0_0 y0_1 y2_0 y4))
end
def impl_filled_d.f (k : Nat) (a0 : Int) (a2_0 : Int) (l2_1 : List Int) : Option (Int × (List Int)) := (impl_filled_d.l0 k a0 a0 0 a2_0 l2_1 a0 ([] : List Int))
def impl_filled_d.en (a2_0 : Int) (l2_1 : List Int) (r : Int × (List Int)) : Res := (.agg [.int .i64 r.1, .sl 1 0], [.box true [.int .i64 a2_0, .imm (.I .i64 l2_1)], .arr 3 0 (.I .i64 r.2) false])
def impl_filled_d.dec : List AV → List R.Obj → Option (Int × Int × (List Int))
  | [.int .i64 a0, .clo 133 [.ptr 0 0]], [.box true [.int .i64 a2_0, .imm (.I .i64 l2_1)]] => some (a0, a2_0, l2_1)
  | _, _ => none
def impl_filled_d.tw : Tw := ⟨107, Int × Int × (List Int), Int × (List Int), impl_filled_d.dec, fun a => [.int .i64 a.1, .clo 133 [.ptr 0 0]], fun a => [.box true [.int .i64 a.2.1, .imm (.I .i64 a.2.2)]], fun k a => impl_filled_d.f k a.1 a.2.1 a.2.2, fun a r => impl_filled_d.en a.2.1 a.2.2 r⟩
theorem impl_filled_d.dok : impl_filled_d.tw.DecOk := by
  intro args hc a h
  have h : impl_filled_d.dec args hc = some a := h
  unfold impl_filled_d.dec at h
  split at h
  · cases h; exact ⟨rfl, rfl⟩
  · cases h
noncomputable def impl_filled_d.O (k : Nat) : Oracle := (impl_Stabilise_1.tw.orc k noO)
def impl_filled_d.fh : FH := ⟨fun i => match i with | 3 => some [(0, 0), (1, 0), (4, 0), (5, 0), (10, 0), (11, 0)] | 6 => some [(0, 0), (1, 0), (4, 0), (5, 0), (6, 0), (10, 0), (11, 0), (14, 0), (15, 0)] | _ => none, [(true, 3)], false⟩
noncomputable def impl_filled_d.x0 (k : Nat) (x0 : Int) (x10 : Int) (x11 : Int) (y0_0 : Int) (y0_1 : List Int) (y2_0 : Int) (y4 : List Int) : Option Res := R.exec Try.prog xhn impl_filled_d.O 1 Try.f107 impl_filled_d.fh k (R.point Try.f107 3) ⟨[(0, .int .i64 x0), (1, .clo 133 [.ptr 0 0]), (4, .ptr 1 0), (5, .ptr 2 0), (10, .int .i64 x10), (11, .int .i64 x11)], [(0, .box true [.int .i64 y0_0, .imm (.I .i64 y0_1)]), (1, .box false [.int .i64 0, .sl 3 0]), (2, .box false [.int .i64 y2_0, .sl 4 0]), (3, .arr 3 0 (.I .i64 ([] : List Int)) false), (4, .arr 3 0 (.I .i64 y4) false)], 7⟩
noncomputable def impl_filled_d.x1 (k : Nat) (x0 : Int) (x6 : Int) (x10 : Int) (x11 : Int) (x14 : Int) (x15 : Int) (y0_0 : Int) (y0_1 : List Int) (y2_0 : Int) (y4 : List Int) : Option Res := R.exec Try.prog xhn impl_filled_d.O 1 Try.f107 impl_filled_d.fh k (R.point Try.f107 6) ⟨[(0, .int .i64 x0), (1, .clo 133 [.ptr 0 0]), (4, .ptr 1 0), (5, .ptr 2 0), (6, .int .i64 x6), (10, .int .i64 x10), (11, .int .i64 x11), (14, .int .i64 x14), (15, .int .i64 x15)], [(0, .box true [.int .i64 y0_0, .imm (.I .i64 y0_1)]), (1, .box false [.int .i64 0, .sl 3 0]), (2, .box false [.int .i64 y2_0, .sl 4 0]), (3, .arr 3 0 (.I .i64 ([] : List Int)) false), (4, .arr 3 0 (.I .i64 y4) false)], 7⟩
set_option maxRecDepth 100000 in
theorem impl_filled_d.e0 (k : Nat) (x0 : Int) (x10 : Int) (x11 : Int) (y0_0 : Int) (y0_1 : List Int) (y2_0 : Int) (y4 : List Int) : impl_filled_d.x0 (k + 1) x0 x10 x11 y0_0 y0_1 y2_0 y4 = (if x11 < x10 then (impl_filled_d.x1 k x0 x11 x10 x11 x0 0 y0_0 y0_1 y2_0 y4) else (some (impl_filled_d.en y0_0 y0_1 (y2_0, y4)))) := by kernel_rfl
set_option maxRecDepth 100000 in
theorem impl_filled_d.e1 (k : Nat) (x0 : Int) (x6 : Int) (x10 : Int) (x11 : Int) (x14 : Int) (x15 : Int) (y0_0 : Int) (y0_1 : List Int) (y2_0 : Int) (y4 : List Int) : impl_filled_d.x1 (k + 1) x0 x6 x10 x11 x14 x15 y0_0 y0_1 y2_0 y4 = (if x15 < x14 then ((impl_Stabilise_1.f k x6 x15 y0_0 y0_1).bind fun t1 => (if y4.length < 17592186044416 then (impl_filled_d.x1 k x0 x6 x10 x11 x14 (wr64 (x15 + 1)) y0_0 y0_1 y2_0 (y4 ++ [t1])) else none)) else (impl_filled_d.x0 k x0 x10 (wr64 (x11 + 1)) y0_0 y0_1 y2_0 y4)) := by kernel_rfl
set_option maxRecDepth 100000 in
theorem impl_filled_d.ef (k : Nat) (a0 : Int) (a2_0 : Int) (l2_1 : List Int) : R.start Try.prog xhn impl_filled_d.O 1 Try.f107 impl_filled_d.fh k [.int .i64 a0, .clo 133 [.ptr 0 0]] [.box true [.int .i64 a2_0, .imm (.I .i64 l2_1)]] = (impl_filled_d.x0 k a0 a0 0 a2_0 l2_1 a0 ([] : List Int)) := by kernel_rfl
theorem impl_filled_d.link : ∀ k, (∀ (x0 : Int) (x10 : Int) (x11 : Int) (y0_0 : Int) (y0_1 : List Int) (y2_0 : Int) (y4 : List Int), impl_filled_d.x0 k x0 x10 x11 y0_0 y0_1 y2_0 y4 = (impl_filled_d.l0 k x0 x10 x11 y0_0 y0_1 y2_0 y4).map (impl_filled_d.en y0_0 y0_1)) ∧ (∀ (x0 : Int) (x6 : Int) (x10 : Int) (x11 : Int) (x14 : Int) (x15 : Int) (y0_0 : Int) (y0_1 : List Int) (y2_0 : Int) (y4 : List Int), impl_filled_d.x1 k x0 x6 x10 x11 x14 x15 y0_0 y0_1 y2_0 y4 = (impl_filled_d.l1 k x0 x6 x10 x11 x14 x15 y0_0 y0_1 y2_0 y4).map (impl_filled_d.en y0_0 y0_1))
  | 0 => ⟨fun _ _ _ _ _ _ _ => by simp only [impl_filled_d.l0, R.map_none]; rfl, fun _ _ _ _ _ _ _ _ _ _ => by simp only [impl_filled_d.l1, R.map_none]; rfl⟩
  | k + 1 => by
    obtain ⟨ih0, ih1⟩ := impl_filled_d.link k
    refine ⟨?_, ?_⟩
    · intro x0 x10 x11 y0_0 y0_1 y2_0 y4
      rw [impl_filled_d.e0]
      simp only [impl_filled_d.l0, R.map_ite, R.map_bind, R.map_none, R.map_some, R.wr64_eq, ← ih0, ← ih1]
    · intro x0 x6 x10 x11 x14 x15 y0_0 y0_1 y2_0 y4
      rw [impl_filled_d.e1]
      simp only [impl_filled_d.l1, R.map_ite, R.map_bind, R.map_none, R.map_some, R.wr64_eq, ← ih0, ← ih1]
theorem impl_filled_d.sf (k : Nat) (a0 : Int) (a2_0 : Int) (l2_1 : List Int) : R.start Try.prog xhn impl_filled_d.O 1 Try.f107 impl_filled_d.fh k [.int .i64 a0, .clo 133 [.ptr 0 0]] [.box true [.int .i64 a2_0, .imm (.I .i64 l2_1)]] = (impl_filled_d.f k a0 a2_0 l2_1).map (impl_filled_d.en a2_0 l2_1) := by
  obtain ⟨ih0, ih1⟩ := impl_filled_d.link k
  rw [impl_filled_d.ef]
  simp only [impl_filled_d.f, R.map_ite, R.map_bind, R.map_none, R.map_some, R.wr64_eq, ← ih0, ← ih1]
theorem impl_filled_d.ok (k : Nat) : impl_filled_d.tw.Ok Try.prog k := by
  intro a r h
  refine fn_ok (H := xhn) (fh := impl_filled_d.fh) (O := impl_filled_d.O) (k := k) Try.func107 (by kernel_rfl) (by kernel_rfl) (fun j _ => (Tw.orc_sound impl_Stabilise_1.dok (impl_Stabilise_1.ok j) noO_sound)) (by kernel_rfl) (m := 1) rfl ?_
  refine (impl_filled_d.sf k a.1 a.2.1 a.2.2).trans ?_
  exact congrArg (Option.map _) h
def impl_Stabilise.f (k : Nat) (a0_0 : Int) (l0_1 : List Int) : Option (Int × (List Int) × Bool) := ((impl_IsIdempotent.f k a0_0 l0_1).bind fun t1 => (if t1 = true then ((impl_filled_d.f k a0_0 a0_0 l0_1).bind fun t2 => (some (t2.1, t2.2, true))) else (some (0, ([] : List Int), false))))
def impl_Stabilise.en (r : Int × (List Int) × Bool) : Res := (.tup [.agg [.int .i64 r.1, .sl 0 0], .lit r.2.2], [.arr 3 0 (.I .i64 r.2.1) false])
def impl_Stabilise.dec : List AV → List R.Obj → Option (Int × (List Int))
  | [.agg [.int .i64 a0_0, .imm (.I .i64 l0_1)]], [] => some (a0_0, l0_1)
  | _, _ => none
def impl_Stabilise.tw : Tw := ⟨66, Int × (List Int), Int × (List Int) × Bool, impl_Stabilise.dec, fun a => [.agg [.int .i64 a.1, .imm (.I .i64 a.2)]], fun a => [], fun k a => impl_Stabilise.f k a.1 a.2, fun a r => impl_Stabilise.en r⟩
theorem impl_Stabilise.dok : impl_Stabilise.tw.DecOk := by
  intro args hc a h
  have h : impl_Stabilise.dec args hc = some a := h
  unfold impl_Stabilise.dec at h
  split at h
  · cases h; exact ⟨rfl, rfl⟩
  · cases h
noncomputable def impl_Stabilise.O (k : Nat) : Oracle := (impl_IsIdempotent.tw.orc k (impl_filled_d.tw.orc k noO))
def impl_Stabilise.fh : FH := ⟨fun i => match i with | _ => none, [(true, 3)], false⟩
set_option maxRecDepth 100000 in
theorem impl_Stabilise.ef (k : Nat) (a0_0 : Int) (l0_1 : List Int) : R.start Try.prog xhn impl_Stabilise.O 0 Try.f66 impl_Stabilise.fh k [.agg [.int .i64 a0_0, .imm (.I .i64 l0_1)]] [] = ((impl_IsIdempotent.f k a0_0 l0_1).bind fun t1 => (if t1 = true then ((impl_filled_d.f k a0_0 a0_0 l0_1).bind fun t2 => (some (impl_Stabilise.en (t2.1, t2.2, true)))) else (some (impl_Stabilise.en (0, ([] : List Int), false))))) := by kernel_rfl
theorem impl_Stabilise.sf (k : Nat) (a0_0 : Int) (l0_1 : List Int) : R.start Try.prog xhn impl_Stabilise.O 0 Try.f66 impl_Stabilise.fh k [.agg [.int .i64 a0_0, .imm (.I .i64 l0_1)]] [] = (impl_Stabilise.f k a0_0 l0_1).map (impl_Stabilise.en) := by
  rw [impl_Stabilise.ef]
  simp only [impl_Stabilise.f, R.map_ite, R.map_bind, R.map_none, R.map_some, R.wr64_eq]
theorem impl_Stabilise.ok (k : Nat) : impl_Stabilise.tw.Ok Try.prog k := by
  intro a r h
  refine fn_ok (H := xhn) (fh := impl_Stabilise.fh) (O := impl_Stabilise.O) (k := k) Try.func66 (by kernel_rfl) (by kernel_rfl) (fun j _ => (Tw.orc_sound impl_IsIdempotent.dok (impl_IsIdempotent.ok j) (Tw.orc_sound impl_filled_d.dok (impl_filled_d.ok j) noO_sound))) (by kernel_rfl) (m := 0) rfl ?_
  refine (impl_Stabilise.sf k a.1 a.2).trans ?_
  exact congrArg (Option.map _) h
mutual
def impl_value.l0 : Nat → (List Part) → Int → Int → Int → (List Int) → (List Int) → (List Stp) → Int → (List Int) → Option (Int × (List Int) × Bool)
  | 0, _, _, _, _, _, _, _, _, _ => none
  | k + 1, x13, x14, x15, y0_0, y0_1, y0_2, y0_3, y2_0, y4 => (if x15 < x14 then (if 0 ≤ x15 then (if x15 < (x13.length : Int) then (if (rdP x13 x15).f0.toList = ([] : List UInt8) then ((impl_value.f k y0_0 y0_1 y0_2 y0_3 ((rdP x13 x15).f1)).bind fun t1 => (if t1.2.2 = true then ((impl_Stabilise.f k t1.1 t1.2.1).bind fun t2 => (if t2.2.2 = true then (if x15 > 0 then ((impl_MulGrades.f k y2_0 y4 t2.1 t2.2.1).bind fun t3 => (impl_value.l0 k x13 x14 (wrap64 (x15 + 1)) y0_0 y0_1 y0_2 y0_3 t3.1 t3.2.1)) else (impl_value.l0 k x13 x14 (wrap64 (x15 + 1)) y0_0 y0_1 y0_2 y0_3 t2.1 t2.2.1)) else (some (0, ([] : List Int), false)))) else (some (0, ([] : List Int), false)))) else ((impl_StepMatrix.f k y0_0 y0_1 y0_2 y0_3 ((rdP x13 x15).f0)).bind fun t5 => ((impl_GradesOf.f k t5.1 t5.2.1).bind fun t6 => (if x15 > 0 then ((impl_MulGrades.f k y2_0 y4 t6.1 t6.2.1).bind fun t7 => (impl_value.l0 k x13 x14 (wrap64 (x15 + 1)) y0_0 y0_1 y0_2 y0_3 t7.1 t7.2.1)) else (impl_value.l0 k x13 x14 (wrap64 (x15 + 1)) y0_0 y0_1 y0_2 y0_3 t6.1 t6.2.1))))) else none) else none) else (some (y2_0, y4, true)))
def impl_value.f : Nat → Int → (List Int) → (List Int) → (List Stp) → (List Part) → Option (Int × (List Int) × Bool)
  | 0, _, _, _, _, _ => none
  | k + 1, a0_0, l0_1, l0_2, l0_3, l1 => (impl_value.l0 k l1 (l1.length : Int) 0 a0_0 l0_1 l0_2 l0_3 0 ([] : List Int))
end
def impl_value.en (r : Int × (List Int) × Bool) : Res := (.tup [.agg [.int .i64 r.1, .sl 0 0], .lit r.2.2], [.arr 3 0 (.I .i64 r.2.1) false])
def impl_value.dec : List AV → List R.Obj → Option (Int × (List Int) × (List Int) × (List Stp) × (List Part))
  | [.agg [.int .i64 a0_0, .imm (.I .i64 l0_1), .imm (.I .i64 l0_2), .imm (.T l0_3)], .imm (.P l1)], [] => some (a0_0, l0_1, l0_2, l0_3, l1)
  | _, _ => none
def impl_value.tw : Tw := ⟨131, Int × (List Int) × (List Int) × (List Stp) × (List Part), Int × (List Int) × Bool, impl_value.dec, fun a => [.agg [.int .i64 a.1, .imm (.I .i64 a.2.1), .imm (.I .i64 a.2.2.1), .imm (.T a.2.2.2.1)], .imm (.P a.2.2.2.2)], fun a => [], fun k a => impl_value.f k a.1 a.2.1 a.2.2.1 a.2.2.2.1 a.2.2.2.2, fun a r => impl_value.en r⟩
theorem impl_value.dok : impl_value.tw.DecOk := by
  intro args hc a h
  have h : impl_value.dec args hc = some a := h
  unfold impl_value.dec at h
  split at h
  · cases h; exact ⟨rfl, rfl⟩
  · cases h
noncomputable def impl_value.O (k : Nat) : Oracle := (impl_Stabilise.tw.orc k (impl_MulGrades.tw.orc k (impl_StepMatrix.tw.orc k (impl_GradesOf.tw.orc k (impl_value.tw.orc k noO)))))
def impl_value.fh : FH := ⟨fun i => match i with | 3 => some [(2, 0), (4, 0), (6, 0), (13, 0), (14, 0), (15, 0)] | _ => none, [(true, 3)], false⟩
noncomputable def impl_value.x0 (k : Nat) (x13 : List Part) (x14 : Int) (x15 : Int) (y0_0 : Int) (y0_1 : List Int) (y0_2 : List Int) (y0_3 : List Stp) (y2_0 : Int) (y4 : List Int) : Option Res := R.exec Try.prog xhn impl_value.O 0 Try.f131 impl_value.fh k (R.point Try.f131 3) ⟨[(2, .ptr 0 0), (4, .ptr 1 0), (6, .ptr 2 0), (13, .imm (.P x13)), (14, .int .i64 x14), (15, .int .i64 x15)], [(0, .box false [.int .i64 y0_0, .imm (.I .i64 y0_1), .imm (.I .i64 y0_2), .imm (.T y0_3)]), (1, .box false [.int .i64 0, .sl 3 0]), (2, .box false [.int .i64 y2_0, .sl 4 0]), (3, .arr 3 0 (.I .i64 ([] : List Int)) false), (4, .arr 3 0 (.I .i64 y4) false)], 7⟩
set_option maxRecDepth 100000 in
theorem impl_value.e0 (k : Nat) (x13 : List Part) (x14 : Int) (x15 : Int) (y0_0 : Int) (y0_1 : List Int) (y0_2 : List Int) (y0_3 : List Stp) (y2_0 : Int) (y4 : List Int) : impl_value.x0 (k + 1) x13 x14 x15 y0_0 y0_1 y0_2 y0_3 y2_0 y4 = (if x15 < x14 then (if 0 ≤ x15 then (if x15 < (x13.length : Int) then (if (rdP x13 x15).f0.toList = ([] : List UInt8) then ((impl_value.f k y0_0 y0_1 y0_2 y0_3 ((rdP x13 x15).f1)).bind fun t1 => (if t1.2.2 = true then ((impl_Stabilise.f k t1.1 t1.2.1).bind fun t2 => (if t2.2.2 = true then (if x15 > 0 then ((impl_MulGrades.f k y2_0 y4 t2.1 t2.2.1).bind fun t3 => (impl_value.x0 k x13 x14 (wr64 (x15 + 1)) y0_0 y0_1 y0_2 y0_3 t3.1 t3.2.1)) else (impl_value.x0 k x13 x14 (wr64 (x15 + 1)) y0_0 y0_1 y0_2 y0_3 t2.1 t2.2.1)) else (some (impl_value.en (0, ([] : List Int), false))))) else (some (impl_value.en (0, ([] : List Int), false))))) else ((impl_StepMatrix.f k y0_0 y0_1 y0_2 y0_3 ((rdP x13 x15).f0)).bind fun t5 => ((impl_GradesOf.f k t5.1 t5.2.1).bind fun t6 => (if x15 > 0 then ((impl_MulGrades.f k y2_0 y4 t6.1 t6.2.1).bind fun t7 => (impl_value.x0 k x13 x14 (wr64 (x15 + 1)) y0_0 y0_1 y0_2 y0_3 t7.1 t7.2.1)) else (impl_value.x0 k x13 x14 (wr64 (x15 + 1)) y0_0 y0_1 y0_2 y0_3 t6.1 t6.2.1))))) else none) else none) else (some (impl_value.en (y2_0, y4, true)))) := by
  refine Eq.trans ?_ (R.icong (fun h0 => (R.icong (fun h1 => (R.icong (fun h2 => (R.icong (fun h3 => (R.bcong fun t1 => (R.icong (fun h4 => rfl) (fun h4 => (R.idropF (p := t1.2.2 = true) (z := (if x15 > 0 then ((impl_MulGrades.f k y2_0 y4 t1.1 t1.2.1).bind fun t4 => (impl_value.x0 k x13 x14 (wr64 (x15 + 1)) y0_0 y0_1 y0_2 y0_3 t4.1 t4.2.1)) else (impl_value.x0 k x13 x14 (wr64 (x15 + 1)) y0_0 y0_1 y0_2 y0_3 t1.1 t1.2.1))) h4 rfl))))) (fun h3 => rfl))) (fun h2 => rfl))) (fun h1 => rfl))) (fun h0 => rfl))
  kernel_rfl
set_option maxRecDepth 100000 in
theorem impl_value.ef (k : Nat) (a0_0 : Int) (l0_1 : List Int) (l0_2 : List Int) (l0_3 : List Stp) (l1 : List Part) : R.start Try.prog xhn impl_value.O 0 Try.f131 impl_value.fh k [.agg [.int .i64 a0_0, .imm (.I .i64 l0_1), .imm (.I .i64 l0_2), .imm (.T l0_3)], .imm (.P l1)] [] = (impl_value.x0 k l1 (l1.length : Int) 0 a0_0 l0_1 l0_2 l0_3 0 ([] : List Int)) := by kernel_rfl
theorem impl_value.link : ∀ k, (∀ (x13 : List Part) (x14 : Int) (x15 : Int) (y0_0 : Int) (y0_1 : List Int) (y0_2 : List Int) (y0_3 : List Stp) (y2_0 : Int) (y4 : List Int), impl_value.x0 k x13 x14 x15 y0_0 y0_1 y0_2 y0_3 y2_0 y4 = (impl_value.l0 k x13 x14 x15 y0_0 y0_1 y0_2 y0_3 y2_0 y4).map (impl_value.en))
  | 0 => fun _ _ _ _ _ _ _ _ _ => by simp only [impl_value.l0, R.map_none]; rfl
  | k + 1 => by
    have ih0 := impl_value.link k
    · intro x13 x14 x15 y0_0 y0_1 y0_2 y0_3 y2_0 y4
      rw [impl_value.e0]
      simp only [impl_value.l0, R.map_ite, R.map_bind, R.map_none, R.map_some, R.wr64_eq, ← ih0]
theorem impl_value.sf (k : Nat) (a0_0 : Int) (l0_1 : List Int) (l0_2 : List Int) (l0_3 : List Stp) (l1 : List Part) : R.start Try.prog xhn impl_value.O 0 Try.f131 impl_value.fh k [.agg [.int .i64 a0_0, .imm (.I .i64 l0_1), .imm (.I .i64 l0_2), .imm (.T l0_3)], .imm (.P l1)] [] = (impl_value.f (k + 1) a0_0 l0_1 l0_2 l0_3 l1).map (impl_value.en) := by
  have ih0 := impl_value.link k
  rw [impl_value.ef]
  simp only [impl_value.f, R.map_ite, R.map_bind, R.map_none, R.map_some, R.wr64_eq, ← ih0]
theorem impl_value.ok : ∀ k, impl_value.tw.Ok Try.prog k := by
  intro k
  induction k using Nat.strongRecOn with
  | ind k ih =>
    cases k with
    | zero =>
      intro a r h
      have h : impl_value.f 0 a.1 a.2.1 a.2.2.1 a.2.2.2.1 a.2.2.2.2 = some r := h
      simp only [impl_value.f] at h
      cases h
    | succ k =>
      intro a r h
      refine fn_ok (H := xhn) (fh := impl_value.fh) (O := impl_value.O) (k := k) Try.func131 (by kernel_rfl) (by kernel_rfl) (fun j hj => (Tw.orc_sound impl_Stabilise.dok (impl_Stabilise.ok j) (Tw.orc_sound impl_MulGrades.dok (impl_MulGrades.ok j) (Tw.orc_sound impl_StepMatrix.dok (impl_StepMatrix.ok j) (Tw.orc_sound impl_GradesOf.dok (impl_GradesOf.ok j) (Tw.orc_sound impl_value.dok (ih j (by omega)) noO_sound)))))) (by kernel_rfl) (m := 0) rfl ?_
      refine (impl_value.sf k a.1 a.2.1 a.2.2.1 a.2.2.2.1 a.2.2.2.2).trans ?_
      exact congrArg (Option.map _) h
def impl_ValueOf.f (k : Nat) (a0_0 : Int) (l0_1 : List Int) (l0_2 : List Int) (l0_3 : List Stp) (a1 : ByteArray) : Option (Int × (List Int) × Bool) := ((impl_parts.f k a1).bind fun t1 => (if t1.2 = true then ((impl_AutomatonValid.f k a0_0 l0_1 l0_2 l0_3).bind fun t2 => (if t2 = true then ((impl_value.f k a0_0 l0_1 l0_2 l0_3 t1.1).bind fun t3 => (some (t3.1, t3.2.1, t3.2.2))) else (some (0, ([] : List Int), false)))) else (some (0, ([] : List Int), false))))
def impl_ValueOf.en (r : Int × (List Int) × Bool) : Res := (.tup [.agg [.int .i64 r.1, .sl 0 0], .lit r.2.2], [.arr 3 0 (.I .i64 r.2.1) false])
def impl_ValueOf.dec : List AV → List R.Obj → Option (Int × (List Int) × (List Int) × (List Stp) × ByteArray)
  | [.agg [.int .i64 a0_0, .imm (.I .i64 l0_1), .imm (.I .i64 l0_2), .imm (.T l0_3)], .str a1], [] => some (a0_0, l0_1, l0_2, l0_3, a1)
  | _, _ => none
def impl_ValueOf.tw : Tw := ⟨65, Int × (List Int) × (List Int) × (List Stp) × ByteArray, Int × (List Int) × Bool, impl_ValueOf.dec, fun a => [.agg [.int .i64 a.1, .imm (.I .i64 a.2.1), .imm (.I .i64 a.2.2.1), .imm (.T a.2.2.2.1)], .str a.2.2.2.2], fun a => [], fun k a => impl_ValueOf.f k a.1 a.2.1 a.2.2.1 a.2.2.2.1 a.2.2.2.2, fun a r => impl_ValueOf.en r⟩
theorem impl_ValueOf.dok : impl_ValueOf.tw.DecOk := by
  intro args hc a h
  have h : impl_ValueOf.dec args hc = some a := h
  unfold impl_ValueOf.dec at h
  split at h
  · cases h; exact ⟨rfl, rfl⟩
  · cases h
noncomputable def impl_ValueOf.O (k : Nat) : Oracle := (impl_parts.tw.orc k (impl_AutomatonValid.tw.orc k (impl_value.tw.orc k noO)))
def impl_ValueOf.fh : FH := ⟨fun i => match i with | _ => none, [(true, 3)], false⟩
set_option maxRecDepth 100000 in
theorem impl_ValueOf.ef (k : Nat) (a0_0 : Int) (l0_1 : List Int) (l0_2 : List Int) (l0_3 : List Stp) (a1 : ByteArray) : R.start Try.prog xhn impl_ValueOf.O 0 Try.f65 impl_ValueOf.fh k [.agg [.int .i64 a0_0, .imm (.I .i64 l0_1), .imm (.I .i64 l0_2), .imm (.T l0_3)], .str a1] [] = ((impl_parts.f k a1).bind fun t1 => (if t1.2 = true then ((impl_AutomatonValid.f k a0_0 l0_1 l0_2 l0_3).bind fun t2 => (if t2 = true then ((impl_value.f k a0_0 l0_1 l0_2 l0_3 t1.1).bind fun t3 => (some (impl_ValueOf.en (t3.1, t3.2.1, t3.2.2)))) else (some (impl_ValueOf.en (0, ([] : List Int), false))))) else (some (impl_ValueOf.en (0, ([] : List Int), false))))) := by kernel_rfl
theorem impl_ValueOf.sf (k : Nat) (a0_0 : Int) (l0_1 : List Int) (l0_2 : List Int) (l0_3 : List Stp) (a1 : ByteArray) : R.start Try.prog xhn impl_ValueOf.O 0 Try.f65 impl_ValueOf.fh k [.agg [.int .i64 a0_0, .imm (.I .i64 l0_1), .imm (.I .i64 l0_2), .imm (.T l0_3)], .str a1] [] = (impl_ValueOf.f k a0_0 l0_1 l0_2 l0_3 a1).map (impl_ValueOf.en) := by
  rw [impl_ValueOf.ef]
  simp only [impl_ValueOf.f, R.map_ite, R.map_bind, R.map_none, R.map_some, R.wr64_eq]
theorem impl_ValueOf.ok (k : Nat) : impl_ValueOf.tw.Ok Try.prog k := by
  intro a r h
  refine fn_ok (H := xhn) (fh := impl_ValueOf.fh) (O := impl_ValueOf.O) (k := k) Try.func65 (by kernel_rfl) (by kernel_rfl) (fun j _ => (Tw.orc_sound impl_parts.dok (impl_parts.ok j) (Tw.orc_sound impl_AutomatonValid.dok (impl_AutomatonValid.ok j) (Tw.orc_sound impl_value.dok (impl_value.ok j) noO_sound)))) (by kernel_rfl) (m := 0) rfl ?_
  refine (impl_ValueOf.sf k a.1 a.2.1 a.2.2.1 a.2.2.2.1 a.2.2.2.2).trans ?_
  exact congrArg (Option.map _) h
mutual
def impl_GradeBetween.l0 : Nat → Int → (List Int) → Int → Int → Int → (List Int) → (List Int) → (List Stp) → Int → (List Int) → Option (Int)
  | 0, _, _, _, _, _, _, _, _, _, _ => none
  | k + 1, x5, x26, x27, x28, y0_0, y0_1, y0_2, y0_3, y1_0, y1_1 => (if x28 < x27 then (if 0 ≤ x28 then (if x28 < (x26.length : Int) then (impl_GradeBetween.l1 k x5 (rdI x26 x28) x26 x27 x28 y0_2 (y0_2.length : Int) 0 y0_0 y0_1 y0_2 y0_3 y1_0 y1_1) else none) else none) else (some x5))
def impl_GradeBetween.l1 : Nat → Int → Int → (List Int) → Int → Int → (List Int) → Int → Int → Int → (List Int) → (List Int) → (List Stp) → Int → (List Int) → Option (Int)
  | 0, _, _, _, _, _, _, _, _, _, _, _, _, _, _ => none
  | k + 1, x5, x7, x26, x27, x28, x33, x34, x35, y0_0, y0_1, y0_2, y0_3, y1_0, y1_1 => (if x35 < x34 then (if 0 ≤ x35 then (if x35 < (x33.length : Int) then ((impl_Matrix_at.f y1_0 y1_1 x7 (rdI x33 x35)).bind fun t3 => (impl_GradeBetween.l1 k (mn x5 t3) x7 x26 x27 x28 x33 x34 (wrap64 (x35 + 1)) y0_0 y0_1 y0_2 y0_3 y1_0 y1_1)) else none) else none) else (impl_GradeBetween.l0 k x5 x26 x27 (wrap64 (x28 + 1)) y0_0 y0_1 y0_2 y0_3 y1_0 y1_1))
end
def impl_GradeBetween.f (k : Nat) (a0_0 : Int) (l0_1 : List Int) (l0_2 : List Int) (l0_3 : List Stp) (a1_0 : Int) (l1_1 : List Int) : Option (Int) := ((impl_AutomatonValid.f k a0_0 l0_1 l0_2 l0_3).bind fun t1 => (if t1 = true then ((impl_GradesValid.f k a1_0 l1_1).bind fun t2 => (if t2 = true then (if a1_0 = a0_0 then (impl_GradeBetween.l0 k 3 l0_1 (l0_1.length : Int) 0 a0_0 l0_1 l0_2 l0_3 a1_0 l1_1) else (some (-1))) else (some (-1)))) else (some (-1))))
def impl_GradeBetween.en (r : Int) : Res := (.int .i64 r, [])
def impl_GradeBetween.dec : List AV → List R.Obj → Option (Int × (List Int) × (List Int) × (List Stp) × Int × (List Int))
  | [.agg [.int .i64 a0_0, .imm (.I .i64 l0_1), .imm (.I .i64 l0_2), .imm (.T l0_3)], .agg [.int .i64 a1_0, .imm (.I .i64 l1_1)]], [] => some (a0_0, l0_1, l0_2, l0_3, a1_0, l1_1)
  | _, _ => none
def impl_GradeBetween.tw : Tw := ⟨45, Int × (List Int) × (List Int) × (List Stp) × Int × (List Int), Int, impl_GradeBetween.dec, fun a => [.agg [.int .i64 a.1, .imm (.I .i64 a.2.1), .imm (.I .i64 a.2.2.1), .imm (.T a.2.2.2.1)], .agg [.int .i64 a.2.2.2.2.1, .imm (.I .i64 a.2.2.2.2.2)]], fun a => [], fun k a => impl_GradeBetween.f k a.1 a.2.1 a.2.2.1 a.2.2.2.1 a.2.2.2.2.1 a.2.2.2.2.2, fun a r => impl_GradeBetween.en r⟩
theorem impl_GradeBetween.dok : impl_GradeBetween.tw.DecOk := by
  intro args hc a h
  have h : impl_GradeBetween.dec args hc = some a := h
  unfold impl_GradeBetween.dec at h
  split at h
  · cases h; exact ⟨rfl, rfl⟩
  · cases h
noncomputable def impl_GradeBetween.O (k : Nat) : Oracle := (impl_AutomatonValid.tw.orc k (impl_GradesValid.tw.orc k (impl_Matrix_at.tw.orc k noO)))
def impl_GradeBetween.fh : FH := ⟨fun i => match i with | 5 => some [(2, 0), (3, 0), (5, 0), (26, 0), (27, 0), (28, 0)] | 8 => some [(2, 0), (3, 0), (5, 0), (7, 0), (26, 0), (27, 0), (28, 0), (33, 0), (34, 0), (35, 0)] | _ => none, [], false⟩
noncomputable def impl_GradeBetween.x0 (k : Nat) (x5 : Int) (x26 : List Int) (x27 : Int) (x28 : Int) (y0_0 : Int) (y0_1 : List Int) (y0_2 : List Int) (y0_3 : List Stp) (y1_0 : Int) (y1_1 : List Int) : Option Res := R.exec Try.prog xhn impl_GradeBetween.O 0 Try.f45 impl_GradeBetween.fh k (R.point Try.f45 5) ⟨[(2, .ptr 0 0), (3, .ptr 1 0), (5, .int .i64 x5), (26, .imm (.I .i64 x26)), (27, .int .i64 x27), (28, .int .i64 x28)], [(0, .box false [.int .i64 y0_0, .imm (.I .i64 y0_1), .imm (.I .i64 y0_2), .imm (.T y0_3)]), (1, .box false [.int .i64 y1_0, .imm (.I .i64 y1_1)])], 4⟩
noncomputable def impl_GradeBetween.x1 (k : Nat) (x5 : Int) (x7 : Int) (x26 : List Int) (x27 : Int) (x28 : Int) (x33 : List Int) (x34 : Int) (x35 : Int) (y0_0 : Int) (y0_1 : List Int) (y0_2 : List Int) (y0_3 : List Stp) (y1_0 : Int) (y1_1 : List Int) : Option Res := R.exec Try.prog xhn impl_GradeBetween.O 0 Try.f45 impl_GradeBetween.fh k (R.point Try.f45 8) ⟨[(2, .ptr 0 0), (3, .ptr 1 0), (5, .int .i64 x5), (7, .int .i64 x7), (26, .imm (.I .i64 x26)), (27, .int .i64 x27), (28, .int .i64 x28), (33, .imm (.I .i64 x33)), (34, .int .i64 x34), (35, .int .i64 x35)], [(0, .box false [.int .i64 y0_0, .imm (.I .i64 y0_1), .imm (.I .i64 y0_2), .imm (.T y0_3)]), (1, .box false [.int .i64 y1_0, .imm (.I .i64 y1_1)])], 4⟩
set_option maxRecDepth 100000 in
theorem impl_GradeBetween.e0 (k : Nat) (x5 : Int) (x26 : List Int) (x27 : Int) (x28 : Int) (y0_0 : Int) (y0_1 : List Int) (y0_2 : List Int) (y0_3 : List Stp) (y1_0 : Int) (y1_1 : List Int) : impl_GradeBetween.x0 (k + 1) x5 x26 x27 x28 y0_0 y0_1 y0_2 y0_3 y1_0 y1_1 = (if x28 < x27 then (if 0 ≤ x28 then (if x28 < (x26.length : Int) then (impl_GradeBetween.x1 k x5 (rdI x26 x28) x26 x27 x28 y0_2 (y0_2.length : Int) 0 y0_0 y0_1 y0_2 y0_3 y1_0 y1_1) else none) else none) else (some (impl_GradeBetween.en x5))) := by kernel_rfl
set_option maxRecDepth 100000 in
theorem impl_GradeBetween.e1 (k : Nat) (x5 : Int) (x7 : Int) (x26 : List Int) (x27 : Int) (x28 : Int) (x33 : List Int) (x34 : Int) (x35 : Int) (y0_0 : Int) (y0_1 : List Int) (y0_2 : List Int) (y0_3 : List Stp) (y1_0 : Int) (y1_1 : List Int) : impl_GradeBetween.x1 (k + 1) x5 x7 x26 x27 x28 x33 x34 x35 y0_0 y0_1 y0_2 y0_3 y1_0 y1_1 = (if x35 < x34 then (if 0 ≤ x35 then (if x35 < (x33.length : Int) then ((impl_Matrix_at.f y1_0 y1_1 x7 (rdI x33 x35)).bind fun t3 => (impl_GradeBetween.x1 k (mn x5 t3) x7 x26 x27 x28 x33 x34 (wr64 (x35 + 1)) y0_0 y0_1 y0_2 y0_3 y1_0 y1_1)) else none) else none) else (impl_GradeBetween.x0 k x5 x26 x27 (wr64 (x28 + 1)) y0_0 y0_1 y0_2 y0_3 y1_0 y1_1)) := by kernel_rfl
set_option maxRecDepth 100000 in
theorem impl_GradeBetween.ef (k : Nat) (a0_0 : Int) (l0_1 : List Int) (l0_2 : List Int) (l0_3 : List Stp) (a1_0 : Int) (l1_1 : List Int) : R.start Try.prog xhn impl_GradeBetween.O 0 Try.f45 impl_GradeBetween.fh k [.agg [.int .i64 a0_0, .imm (.I .i64 l0_1), .imm (.I .i64 l0_2), .imm (.T l0_3)], .agg [.int .i64 a1_0, .imm (.I .i64 l1_1)]] [] = ((impl_AutomatonValid.f k a0_0 l0_1 l0_2 l0_3).bind fun t1 => (if t1 = true then ((impl_GradesValid.f k a1_0 l1_1).bind fun t2 => (if t2 = true then (if a1_0 = a0_0 then (impl_GradeBetween.x0 k 3 l0_1 (l0_1.length : Int) 0 a0_0 l0_1 l0_2 l0_3 a1_0 l1_1) else (some (impl_GradeBetween.en (-1)))) else (some (impl_GradeBetween.en (-1))))) else (some (impl_GradeBetween.en (-1))))) := by kernel_rfl
theorem impl_GradeBetween.link : ∀ k, (∀ (x5 : Int) (x26 : List Int) (x27 : Int) (x28 : Int) (y0_0 : Int) (y0_1 : List Int) (y0_2 : List Int) (y0_3 : List Stp) (y1_0 : Int) (y1_1 : List Int), impl_GradeBetween.x0 k x5 x26 x27 x28 y0_0 y0_1 y0_2 y0_3 y1_0 y1_1 = (impl_GradeBetween.l0 k x5 x26 x27 x28 y0_0 y0_1 y0_2 y0_3 y1_0 y1_1).map (impl_GradeBetween.en)) ∧ (∀ (x5 : Int) (x7 : Int) (x26 : List Int) (x27 : Int) (x28 : Int) (x33 : List Int) (x34 : Int) (x35 : Int) (y0_0 : Int) (y0_1 : List Int) (y0_2 : List Int) (y0_3 : List Stp) (y1_0 : Int) (y1_1 : List Int), impl_GradeBetween.x1 k x5 x7 x26 x27 x28 x33 x34 x35 y0_0 y0_1 y0_2 y0_3 y1_0 y1_1 = (impl_GradeBetween.l1 k x5 x7 x26 x27 x28 x33 x34 x35 y0_0 y0_1 y0_2 y0_3 y1_0 y1_1).map (impl_GradeBetween.en))
  | 0 => ⟨fun _ _ _ _ _ _ _ _ _ _ => by simp only [impl_GradeBetween.l0, R.map_none]; rfl, fun _ _ _ _ _ _ _ _ _ _ _ _ _ _ => by simp only [impl_GradeBetween.l1, R.map_none]; rfl⟩
  | k + 1 => by
    obtain ⟨ih0, ih1⟩ := impl_GradeBetween.link k
    refine ⟨?_, ?_⟩
    · intro x5 x26 x27 x28 y0_0 y0_1 y0_2 y0_3 y1_0 y1_1
      rw [impl_GradeBetween.e0]
      simp only [impl_GradeBetween.l0, R.map_ite, R.map_bind, R.map_none, R.map_some, R.wr64_eq, ← ih0, ← ih1]
    · intro x5 x7 x26 x27 x28 x33 x34 x35 y0_0 y0_1 y0_2 y0_3 y1_0 y1_1
      rw [impl_GradeBetween.e1]
      simp only [impl_GradeBetween.l1, R.map_ite, R.map_bind, R.map_none, R.map_some, R.wr64_eq, ← ih0, ← ih1]
theorem impl_GradeBetween.sf (k : Nat) (a0_0 : Int) (l0_1 : List Int) (l0_2 : List Int) (l0_3 : List Stp) (a1_0 : Int) (l1_1 : List Int) : R.start Try.prog xhn impl_GradeBetween.O 0 Try.f45 impl_GradeBetween.fh k [.agg [.int .i64 a0_0, .imm (.I .i64 l0_1), .imm (.I .i64 l0_2), .imm (.T l0_3)], .agg [.int .i64 a1_0, .imm (.I .i64 l1_1)]] [] = (impl_GradeBetween.f k a0_0 l0_1 l0_2 l0_3 a1_0 l1_1).map (impl_GradeBetween.en) := by
  obtain ⟨ih0, ih1⟩ := impl_GradeBetween.link k
  rw [impl_GradeBetween.ef]
  simp only [impl_GradeBetween.f, R.map_ite, R.map_bind, R.map_none, R.map_some, R.wr64_eq, ← ih0, ← ih1]
theorem impl_GradeBetween.ok (k : Nat) : impl_GradeBetween.tw.Ok Try.prog k := by
  intro a r h
  refine fn_ok (H := xhn) (fh := impl_GradeBetween.fh) (O := impl_GradeBetween.O) (k := k) Try.func45 (by kernel_rfl) (by kernel_rfl) (fun j _ => (Tw.orc_sound impl_AutomatonValid.dok (impl_AutomatonValid.ok j) (Tw.orc_sound impl_GradesValid.dok (impl_GradesValid.ok j) (Tw.orc_sound impl_Matrix_at.dok (impl_Matrix_at.ok j) noO_sound)))) (by kernel_rfl) (m := 0) rfl ?_
  refine (impl_GradeBetween.sf k a.1 a.2.1 a.2.2.1 a.2.2.2.1 a.2.2.2.2.1 a.2.2.2.2.2).trans ?_
  exact congrArg (Option.map _) h
def impl_GradeOf.f (k : Nat) (a0_0 : Int) (l0_1 : List Int) (l0_2 : List Int) (l0_3 : List Stp) (a1 : ByteArray) : Option (Int) := ((impl_ValueOf.f k a0_0 l0_1 l0_2 l0_3 a1).bind fun t1 => (if t1.2.2 = true then ((impl_GradeBetween.f k a0_0 l0_1 l0_2 l0_3 t1.1 t1.2.1).bind fun t2 => (some t2)) else (some (-1))))
def impl_GradeOf.en (r : Int) : Res := (.int .i64 r, [])
def impl_GradeOf.dec : List AV → List R.Obj → Option (Int × (List Int) × (List Int) × (List Stp) × ByteArray)
  | [.agg [.int .i64 a0_0, .imm (.I .i64 l0_1), .imm (.I .i64 l0_2), .imm (.T l0_3)], .str a1], [] => some (a0_0, l0_1, l0_2, l0_3, a1)
  | _, _ => none
def impl_GradeOf.tw : Tw := ⟨69, Int × (List Int) × (List Int) × (List Stp) × ByteArray, Int, impl_GradeOf.dec, fun a => [.agg [.int .i64 a.1, .imm (.I .i64 a.2.1), .imm (.I .i64 a.2.2.1), .imm (.T a.2.2.2.1)], .str a.2.2.2.2], fun a => [], fun k a => impl_GradeOf.f k a.1 a.2.1 a.2.2.1 a.2.2.2.1 a.2.2.2.2, fun a r => impl_GradeOf.en r⟩
theorem impl_GradeOf.dok : impl_GradeOf.tw.DecOk := by
  intro args hc a h
  have h : impl_GradeOf.dec args hc = some a := h
  unfold impl_GradeOf.dec at h
  split at h
  · cases h; exact ⟨rfl, rfl⟩
  · cases h
noncomputable def impl_GradeOf.O (k : Nat) : Oracle := (impl_ValueOf.tw.orc k (impl_GradeBetween.tw.orc k noO))
def impl_GradeOf.fh : FH := ⟨fun i => match i with | _ => none, [], false⟩
set_option maxRecDepth 100000 in
theorem impl_GradeOf.ef (k : Nat) (a0_0 : Int) (l0_1 : List Int) (l0_2 : List Int) (l0_3 : List Stp) (a1 : ByteArray) : R.start Try.prog xhn impl_GradeOf.O 0 Try.f69 impl_GradeOf.fh k [.agg [.int .i64 a0_0, .imm (.I .i64 l0_1), .imm (.I .i64 l0_2), .imm (.T l0_3)], .str a1] [] = ((impl_ValueOf.f k a0_0 l0_1 l0_2 l0_3 a1).bind fun t1 => (if t1.2.2 = true then ((impl_GradeBetween.f k a0_0 l0_1 l0_2 l0_3 t1.1 t1.2.1).bind fun t2 => (some (impl_GradeOf.en t2))) else (some (impl_GradeOf.en (-1))))) := by kernel_rfl
theorem impl_GradeOf.sf (k : Nat) (a0_0 : Int) (l0_1 : List Int) (l0_2 : List Int) (l0_3 : List Stp) (a1 : ByteArray) : R.start Try.prog xhn impl_GradeOf.O 0 Try.f69 impl_GradeOf.fh k [.agg [.int .i64 a0_0, .imm (.I .i64 l0_1), .imm (.I .i64 l0_2), .imm (.T l0_3)], .str a1] [] = (impl_GradeOf.f k a0_0 l0_1 l0_2 l0_3 a1).map (impl_GradeOf.en) := by
  rw [impl_GradeOf.ef]
  simp only [impl_GradeOf.f, R.map_ite, R.map_bind, R.map_none, R.map_some, R.wr64_eq]
theorem impl_GradeOf.ok (k : Nat) : impl_GradeOf.tw.Ok Try.prog k := by
  intro a r h
  refine fn_ok (H := xhn) (fh := impl_GradeOf.fh) (O := impl_GradeOf.O) (k := k) Try.func69 (by kernel_rfl) (by kernel_rfl) (fun j _ => (Tw.orc_sound impl_ValueOf.dok (impl_ValueOf.ok j) (Tw.orc_sound impl_GradeBetween.dok (impl_GradeBetween.ok j) noO_sound))) (by kernel_rfl) (m := 0) rfl ?_
  refine (impl_GradeOf.sf k a.1 a.2.1 a.2.2.1 a.2.2.2.1 a.2.2.2.2).trans ?_
  exact congrArg (Option.map _) h
mutual
def spec_l6Between.l0 : Nat → Int → (List Int) → Int → Int → Int → (List Int) → (List Int) → (List Stp) → Int → (List Int) → Option (Int)
  | 0, _, _, _, _, _, _, _, _, _, _ => none
  | k + 1, x5, x11, x12, x13, y0_0, y0_1, y0_2, y0_3, y1_0, y1_1 => (if x13 < x12 then (if 0 ≤ x13 then (if x13 < (x11.length : Int) then (spec_l6Between.l1 k x5 (rdI x11 x13) x11 x12 x13 y0_2 (y0_2.length : Int) 0 y0_0 y0_1 y0_2 y0_3 y1_0 y1_1) else none) else none) else (some x5))
def spec_l6Between.l1 : Nat → Int → Int → (List Int) → Int → Int → (List Int) → Int → Int → Int → (List Int) → (List Int) → (List Stp) → Int → (List Int) → Option (Int)
  | 0, _, _, _, _, _, _, _, _, _, _, _, _, _, _ => none
  | k + 1, x5, x7, x11, x12, x13, x18, x19, x20, y0_0, y0_1, y0_2, y0_3, y1_0, y1_1 => (if x20 < x19 then (if 0 ≤ x20 then (if x20 < (x18.length : Int) then (if 0 ≤ (wrap64 ((wrap64 (x7 * y0_0)) + (rdI x18 x20))) then (if (wrap64 ((wrap64 (x7 * y0_0)) + (rdI x18 x20))) < (y1_1.length : Int) then (spec_l6Between.l1 k (mn x5 (rdI y1_1 (wrap64 ((wrap64 (x7 * y0_0)) + (rdI x18 x20))))) x7 x11 x12 x13 x18 x19 (wrap64 (x20 + 1)) y0_0 y0_1 y0_2 y0_3 y1_0 y1_1) else none) else none) else none) else none) else (spec_l6Between.l0 k x5 x11 x12 (wrap64 (x13 + 1)) y0_0 y0_1 y0_2 y0_3 y1_0 y1_1))
end
def spec_l6Between.f (k : Nat) (a0_0 : Int) (l0_1 : List Int) (l0_2 : List Int) (l0_3 : List Stp) (a1_0 : Int) (l1_1 : List Int) : Option (Int) := (spec_l6Between.l0 k 3 l0_1 (l0_1.length : Int) 0 a0_0 l0_1 l0_2 l0_3 a1_0 l1_1)
def spec_l6Between.en (r : Int) : Res := (.int .i64 r, [])
def spec_l6Between.dec : List AV → List R.Obj → Option (Int × (List Int) × (List Int) × (List Stp) × Int × (List Int))
  | [.agg [.int .i64 a0_0, .imm (.I .i64 l0_1), .imm (.I .i64 l0_2), .imm (.T l0_3)], .agg [.int .i64 a1_0, .imm (.I .i64 l1_1)]], [] => some (a0_0, l0_1, l0_2, l0_3, a1_0, l1_1)
  | _, _ => none
def spec_l6Between.tw : Tw := ⟨136, Int × (List Int) × (List Int) × (List Stp) × Int × (List Int), Int, spec_l6Between.dec, fun a => [.agg [.int .i64 a.1, .imm (.I .i64 a.2.1), .imm (.I .i64 a.2.2.1), .imm (.T a.2.2.2.1)], .agg [.int .i64 a.2.2.2.2.1, .imm (.I .i64 a.2.2.2.2.2)]], fun a => [], fun k a => spec_l6Between.f k a.1 a.2.1 a.2.2.1 a.2.2.2.1 a.2.2.2.2.1 a.2.2.2.2.2, fun a r => spec_l6Between.en r⟩
theorem spec_l6Between.dok : spec_l6Between.tw.DecOk := by
  intro args hc a h
  have h : spec_l6Between.dec args hc = some a := h
  unfold spec_l6Between.dec at h
  split at h
  · cases h; exact ⟨rfl, rfl⟩
  · cases h
noncomputable def spec_l6Between.O (k : Nat) : Oracle := noO
def spec_l6Between.fh : FH := ⟨fun i => match i with | 3 => some [(2, 0), (3, 0), (5, 0), (11, 0), (12, 0), (13, 0)] | 6 => some [(2, 0), (3, 0), (5, 0), (7, 0), (11, 0), (12, 0), (13, 0), (18, 0), (19, 0), (20, 0)] | _ => none, [], false⟩
noncomputable def spec_l6Between.x0 (k : Nat) (x5 : Int) (x11 : List Int) (x12 : Int) (x13 : Int) (y0_0 : Int) (y0_1 : List Int) (y0_2 : List Int) (y0_3 : List Stp) (y1_0 : Int) (y1_1 : List Int) : Option Res := R.exec Try.prog xhn spec_l6Between.O 0 Try.f136 spec_l6Between.fh k (R.point Try.f136 3) ⟨[(2, .ptr 0 0), (3, .ptr 1 0), (5, .int .i64 x5), (11, .imm (.I .i64 x11)), (12, .int .i64 x12), (13, .int .i64 x13)], [(0, .box false [.int .i64 y0_0, .imm (.I .i64 y0_1), .imm (.I .i64 y0_2), .imm (.T y0_3)]), (1, .box false [.int .i64 y1_0, .imm (.I .i64 y1_1)])], 4⟩
noncomputable def spec_l6Between.x1 (k : Nat) (x5 : Int) (x7 : Int) (x11 : List Int) (x12 : Int) (x13 : Int) (x18 : List Int) (x19 : Int) (x20 : Int) (y0_0 : Int) (y0_1 : List Int) (y0_2 : List Int) (y0_3 : List Stp) (y1_0 : Int) (y1_1 : List Int) : Option Res := R.exec Try.prog xhn spec_l6Between.O 0 Try.f136 spec_l6Between.fh k (R.point Try.f136 6) ⟨[(2, .ptr 0 0), (3, .ptr 1 0), (5, .int .i64 x5), (7, .int .i64 x7), (11, .imm (.I .i64 x11)), (12, .int .i64 x12), (13, .int .i64 x13), (18, .imm (.I .i64 x18)), (19, .int .i64 x19), (20, .int .i64 x20)], [(0, .box false [.int .i64 y0_0, .imm (.I .i64 y0_1), .imm (.I .i64 y0_2), .imm (.T y0_3)]), (1, .box false [.int .i64 y1_0, .imm (.I .i64 y1_1)])], 4⟩
set_option maxRecDepth 100000 in
theorem spec_l6Between.e0 (k : Nat) (x5 : Int) (x11 : List Int) (x12 : Int) (x13 : Int) (y0_0 : Int) (y0_1 : List Int) (y0_2 : List Int) (y0_3 : List Stp) (y1_0 : Int) (y1_1 : List Int) : spec_l6Between.x0 (k + 1) x5 x11 x12 x13 y0_0 y0_1 y0_2 y0_3 y1_0 y1_1 = (if x13 < x12 then (if 0 ≤ x13 then (if x13 < (x11.length : Int) then (spec_l6Between.x1 k x5 (rdI x11 x13) x11 x12 x13 y0_2 (y0_2.length : Int) 0 y0_0 y0_1 y0_2 y0_3 y1_0 y1_1) else none) else none) else (some (spec_l6Between.en x5))) := by kernel_rfl
set_option maxRecDepth 100000 in
theorem spec_l6Between.e1 (k : Nat) (x5 : Int) (x7 : Int) (x11 : List Int) (x12 : Int) (x13 : Int) (x18 : List Int) (x19 : Int) (x20 : Int) (y0_0 : Int) (y0_1 : List Int) (y0_2 : List Int) (y0_3 : List Stp) (y1_0 : Int) (y1_1 : List Int) : spec_l6Between.x1 (k + 1) x5 x7 x11 x12 x13 x18 x19 x20 y0_0 y0_1 y0_2 y0_3 y1_0 y1_1 = (if x20 < x19 then (if 0 ≤ x20 then (if x20 < (x18.length : Int) then (if 0 ≤ (wr64 ((wr64 (x7 * y0_0)) + (rdI x18 x20))) then (if (wr64 ((wr64 (x7 * y0_0)) + (rdI x18 x20))) < (y1_1.length : Int) then (spec_l6Between.x1 k (mn x5 (rdI y1_1 (wr64 ((wr64 (x7 * y0_0)) + (rdI x18 x20))))) x7 x11 x12 x13 x18 x19 (wr64 (x20 + 1)) y0_0 y0_1 y0_2 y0_3 y1_0 y1_1) else none) else none) else none) else none) else (spec_l6Between.x0 k x5 x11 x12 (wr64 (x13 + 1)) y0_0 y0_1 y0_2 y0_3 y1_0 y1_1)) := by kernel_rfl
set_option maxRecDepth 100000 in
theorem spec_l6Between.ef (k : Nat) (a0_0 : Int) (l0_1 : List Int) (l0_2 : List Int) (l0_3 : List Stp) (a1_0 : Int) (l1_1 : List Int) : R.start Try.prog xhn spec_l6Between.O 0 Try.f136 spec_l6Between.fh k [.agg [.int .i64 a0_0, .imm (.I .i64 l0_1), .imm (.I .i64 l0_2), .imm (.T l0_3)], .agg [.int .i64 a1_0, .imm (.I .i64 l1_1)]] [] = (spec_l6Between.x0 k 3 l0_1 (l0_1.length : Int) 0 a0_0 l0_1 l0_2 l0_3 a1_0 l1_1) := by kernel_rfl
theorem spec_l6Between.link : ∀ k, (∀ (x5 : Int) (x11 : List Int) (x12 : Int) (x13 : Int) (y0_0 : Int) (y0_1 : List Int) (y0_2 : List Int) (y0_3 : List Stp) (y1_0 : Int) (y1_1 : List Int), spec_l6Between.x0 k x5 x11 x12 x13 y0_0 y0_1 y0_2 y0_3 y1_0 y1_1 = (spec_l6Between.l0 k x5 x11 x12 x13 y0_0 y0_1 y0_2 y0_3 y1_0 y1_1).map (spec_l6Between.en)) ∧ (∀ (x5 : Int) (x7 : Int) (x11 : List Int) (x12 : Int) (x13 : Int) (x18 : List Int) (x19 : Int) (x20 : Int) (y0_0 : Int) (y0_1 : List Int) (y0_2 : List Int) (y0_3 : List Stp) (y1_0 : Int) (y1_1 : List Int), spec_l6Between.x1 k x5 x7 x11 x12 x13 x18 x19 x20 y0_0 y0_1 y0_2 y0_3 y1_0 y1_1 = (spec_l6Between.l1 k x5 x7 x11 x12 x13 x18 x19 x20 y0_0 y0_1 y0_2 y0_3 y1_0 y1_1).map (spec_l6Between.en))
  | 0 => ⟨fun _ _ _ _ _ _ _ _ _ _ => by simp only [spec_l6Between.l0, R.map_none]; rfl, fun _ _ _ _ _ _ _ _ _ _ _ _ _ _ => by simp only [spec_l6Between.l1, R.map_none]; rfl⟩
  | k + 1 => by
    obtain ⟨ih0, ih1⟩ := spec_l6Between.link k
    refine ⟨?_, ?_⟩
    · intro x5 x11 x12 x13 y0_0 y0_1 y0_2 y0_3 y1_0 y1_1
      rw [spec_l6Between.e0]
      simp only [spec_l6Between.l0, R.map_ite, R.map_bind, R.map_none, R.map_some, R.wr64_eq, ← ih0, ← ih1]
    · intro x5 x7 x11 x12 x13 x18 x19 x20 y0_0 y0_1 y0_2 y0_3 y1_0 y1_1
      rw [spec_l6Between.e1]
      simp only [spec_l6Between.l1, R.map_ite, R.map_bind, R.map_none, R.map_some, R.wr64_eq, ← ih0, ← ih1]
theorem spec_l6Between.sf (k : Nat) (a0_0 : Int) (l0_1 : List Int) (l0_2 : List Int) (l0_3 : List Stp) (a1_0 : Int) (l1_1 : List Int) : R.start Try.prog xhn spec_l6Between.O 0 Try.f136 spec_l6Between.fh k [.agg [.int .i64 a0_0, .imm (.I .i64 l0_1), .imm (.I .i64 l0_2), .imm (.T l0_3)], .agg [.int .i64 a1_0, .imm (.I .i64 l1_1)]] [] = (spec_l6Between.f k a0_0 l0_1 l0_2 l0_3 a1_0 l1_1).map (spec_l6Between.en) := by
  obtain ⟨ih0, ih1⟩ := spec_l6Between.link k
  rw [spec_l6Between.ef]
  simp only [spec_l6Between.f, R.map_ite, R.map_bind, R.map_none, R.map_some, R.wr64_eq, ← ih0, ← ih1]
theorem spec_l6Between.ok (k : Nat) : spec_l6Between.tw.Ok Try.prog k := by
  intro a r h
  refine fn_ok (H := xhn) (fh := spec_l6Between.fh) (O := spec_l6Between.O) (k := k) Try.func136 (by kernel_rfl) (by kernel_rfl) (fun j _ => noO_sound) (by kernel_rfl) (m := 0) rfl ?_
  refine (spec_l6Between.sf k a.1 a.2.1 a.2.2.1 a.2.2.2.1 a.2.2.2.2.1 a.2.2.2.2.2).trans ?_
  exact congrArg (Option.map _) h
def spec_GradeOf.f (k : Nat) (a0_0 : Int) (l0_1 : List Int) (l0_2 : List Int) (l0_3 : List Stp) (a1 : ByteArray) : Option (Int) := ((spec_ValueOf.f k a0_0 l0_1 l0_2 l0_3 a1).bind fun t1 => (if t1.2.2 = true then ((spec_l6Between.f k a0_0 l0_1 l0_2 l0_3 t1.1 t1.2.1).bind fun t2 => (some t2)) else (some (-1))))
def spec_GradeOf.en (r : Int) : Res := (.int .i64 r, [])
def spec_GradeOf.dec : List AV → List R.Obj → Option (Int × (List Int) × (List Int) × (List Stp) × ByteArray)
  | [.agg [.int .i64 a0_0, .imm (.I .i64 l0_1), .imm (.I .i64 l0_2), .imm (.T l0_3)], .str a1], [] => some (a0_0, l0_1, l0_2, l0_3, a1)
  | _, _ => none
def spec_GradeOf.tw : Tw := ⟨70, Int × (List Int) × (List Int) × (List Stp) × ByteArray, Int, spec_GradeOf.dec, fun a => [.agg [.int .i64 a.1, .imm (.I .i64 a.2.1), .imm (.I .i64 a.2.2.1), .imm (.T a.2.2.2.1)], .str a.2.2.2.2], fun a => [], fun k a => spec_GradeOf.f k a.1 a.2.1 a.2.2.1 a.2.2.2.1 a.2.2.2.2, fun a r => spec_GradeOf.en r⟩
theorem spec_GradeOf.dok : spec_GradeOf.tw.DecOk := by
  intro args hc a h
  have h : spec_GradeOf.dec args hc = some a := h
  unfold spec_GradeOf.dec at h
  split at h
  · cases h; exact ⟨rfl, rfl⟩
  · cases h
noncomputable def spec_GradeOf.O (k : Nat) : Oracle := (spec_ValueOf.tw.orc k (spec_l6Between.tw.orc k noO))
def spec_GradeOf.fh : FH := ⟨fun i => match i with | _ => none, [], false⟩
set_option maxRecDepth 100000 in
theorem spec_GradeOf.ef (k : Nat) (a0_0 : Int) (l0_1 : List Int) (l0_2 : List Int) (l0_3 : List Stp) (a1 : ByteArray) : R.start Try.prog xhn spec_GradeOf.O 0 Try.f70 spec_GradeOf.fh k [.agg [.int .i64 a0_0, .imm (.I .i64 l0_1), .imm (.I .i64 l0_2), .imm (.T l0_3)], .str a1] [] = ((spec_ValueOf.f k a0_0 l0_1 l0_2 l0_3 a1).bind fun t1 => (if t1.2.2 = true then ((spec_l6Between.f k a0_0 l0_1 l0_2 l0_3 t1.1 t1.2.1).bind fun t2 => (some (spec_GradeOf.en t2))) else (some (spec_GradeOf.en (-1))))) := by kernel_rfl
theorem spec_GradeOf.sf (k : Nat) (a0_0 : Int) (l0_1 : List Int) (l0_2 : List Int) (l0_3 : List Stp) (a1 : ByteArray) : R.start Try.prog xhn spec_GradeOf.O 0 Try.f70 spec_GradeOf.fh k [.agg [.int .i64 a0_0, .imm (.I .i64 l0_1), .imm (.I .i64 l0_2), .imm (.T l0_3)], .str a1] [] = (spec_GradeOf.f k a0_0 l0_1 l0_2 l0_3 a1).map (spec_GradeOf.en) := by
  rw [spec_GradeOf.ef]
  simp only [spec_GradeOf.f, R.map_ite, R.map_bind, R.map_none, R.map_some, R.wr64_eq]
theorem spec_GradeOf.ok (k : Nat) : spec_GradeOf.tw.Ok Try.prog k := by
  intro a r h
  refine fn_ok (H := xhn) (fh := spec_GradeOf.fh) (O := spec_GradeOf.O) (k := k) Try.func70 (by kernel_rfl) (by kernel_rfl) (fun j _ => (Tw.orc_sound spec_ValueOf.dok (spec_ValueOf.ok j) (Tw.orc_sound spec_l6Between.dok (spec_l6Between.ok j) noO_sound))) (by kernel_rfl) (m := 0) rfl ?_
  refine (spec_GradeOf.sf k a.1 a.2.1 a.2.2.1 a.2.2.2.1 a.2.2.2.2).trans ?_
  exact congrArg (Option.map _) h
def spec_DrawBoundOf.f (k : Nat) (l0 : List Int) : Option (ByteArray) := ((spec_l13Open.f l0).bind fun t1 => ((spec_l7Text.f k t1.1 t1.2).bind fun t2 => (some t2.1)))
def spec_DrawBoundOf.en (r : ByteArray) : Res := (.str r, [])
def spec_DrawBoundOf.dec : List AV → List R.Obj → Option (List Int)
  | [.imm (.I .u8 l0)], [] => some l0
  | _, _ => none
def spec_DrawBoundOf.tw : Tw := ⟨71, List Int, ByteArray, spec_DrawBoundOf.dec, fun a => [.imm (.I .u8 a)], fun a => [], fun k a => spec_DrawBoundOf.f k a, fun a r => spec_DrawBoundOf.en r⟩
theorem spec_DrawBoundOf.dok : spec_DrawBoundOf.tw.DecOk := by
  intro args hc a h
  have h : spec_DrawBoundOf.dec args hc = some a := h
  unfold spec_DrawBoundOf.dec at h
  split at h
  · cases h; exact ⟨rfl, rfl⟩
  · cases h
noncomputable def spec_DrawBoundOf.O (k : Nat) : Oracle := (spec_l13Open.tw.orc k (spec_l7Text.tw.orc k noO))
def spec_DrawBoundOf.fh : FH := ⟨fun i => match i with | _ => none, [], false⟩
set_option maxRecDepth 100000 in
theorem spec_DrawBoundOf.ef (k : Nat) (l0 : List Int) : R.start Try.prog xhn spec_DrawBoundOf.O 0 Try.f71 spec_DrawBoundOf.fh k [.imm (.I .u8 l0)] [] = ((spec_l13Open.f l0).bind fun t1 => ((spec_l7Text.f k t1.1 t1.2).bind fun t2 => (some (spec_DrawBoundOf.en t2.1)))) := by kernel_rfl
theorem spec_DrawBoundOf.sf (k : Nat) (l0 : List Int) : R.start Try.prog xhn spec_DrawBoundOf.O 0 Try.f71 spec_DrawBoundOf.fh k [.imm (.I .u8 l0)] [] = (spec_DrawBoundOf.f k l0).map (spec_DrawBoundOf.en) := by
  rw [spec_DrawBoundOf.ef]
  simp only [spec_DrawBoundOf.f, R.map_ite, R.map_bind, R.map_none, R.map_some, R.wr64_eq]
theorem spec_DrawBoundOf.ok (k : Nat) : spec_DrawBoundOf.tw.Ok Try.prog k := by
  intro a r h
  refine fn_ok (H := xhn) (fh := spec_DrawBoundOf.fh) (O := spec_DrawBoundOf.O) (k := k) Try.func71 (by kernel_rfl) (by kernel_rfl) (fun j _ => (Tw.orc_sound spec_l13Open.dok (spec_l13Open.ok j) (Tw.orc_sound spec_l7Text.dok (spec_l7Text.ok j) noO_sound))) (by kernel_rfl) (m := 0) rfl ?_
  refine (spec_DrawBoundOf.sf k a).trans ?_
  exact congrArg (Option.map _) h
def laws_daSame.l0 : Nat → (List Int) → (List Int) → Int → Int → Option (Bool)
  | 0, _, _, _, _ => none
  | k + 1, x0, x1, x10, x11 => (if x11 < x10 then (if 0 ≤ x11 then (if x11 < (x0.length : Int) then (if x11 < (x1.length : Int) then (if (rdI x0 x11) = (rdI x1 x11) then (laws_daSame.l0 k x0 x1 x10 (wrap64 (x11 + 1))) else (some false)) else none) else none) else none) else (some (decide ((x0.length : Int) = (x1.length : Int)))))
def laws_daSame.f (k : Nat) (l0 : List Int) (l1 : List Int) : Option (Bool) := (laws_daSame.l0 k l0 l1 (mn (l0.length : Int) (l1.length : Int)) 0)
def laws_daSame.en (r : Bool) : Res := (.lit r, [])
def laws_daSame.dec : List AV → List R.Obj → Option ((List Int) × (List Int))
  | [.imm (.I .i64 l0), .imm (.I .i64 l1)], [] => some (l0, l1)
  | _, _ => none
def laws_daSame.tw : Tw := ⟨33, (List Int) × (List Int), Bool, laws_daSame.dec, fun a => [.imm (.I .i64 a.1), .imm (.I .i64 a.2)], fun a => [], fun k a => laws_daSame.f k a.1 a.2, fun a r => laws_daSame.en r⟩
theorem laws_daSame.dok : laws_daSame.tw.DecOk := by
  intro args hc a h
  have h : laws_daSame.dec args hc = some a := h
  unfold laws_daSame.dec at h
  split at h
  · cases h; exact ⟨rfl, rfl⟩
  · cases h
noncomputable def laws_daSame.O (k : Nat) : Oracle := noO
def laws_daSame.fh : FH := ⟨fun i => match i with | 2 => some [(0, 0), (1, 0), (10, 0), (11, 0)] | _ => none, [], false⟩
noncomputable def laws_daSame.x0 (k : Nat) (x0 : List Int) (x1 : List Int) (x10 : Int) (x11 : Int) : Option Res := R.exec Try.prog xhn laws_daSame.O 0 Try.f33 laws_daSame.fh k (R.point Try.f33 2) ⟨[(0, .imm (.I .i64 x0)), (1, .imm (.I .i64 x1)), (10, .int .i64 x10), (11, .int .i64 x11)], [], 2⟩
set_option maxRecDepth 100000 in
theorem laws_daSame.e0 (k : Nat) (x0 : List Int) (x1 : List Int) (x10 : Int) (x11 : Int) : laws_daSame.x0 (k + 1) x0 x1 x10 x11 = (if x11 < x10 then (if 0 ≤ x11 then (if x11 < (x0.length : Int) then (if x11 < (x1.length : Int) then (if (rdI x0 x11) = (rdI x1 x11) then (laws_daSame.x0 k x0 x1 x10 (wr64 (x11 + 1))) else (some (laws_daSame.en false))) else none) else none) else none) else (some (laws_daSame.en (decide ((x0.length : Int) = (x1.length : Int)))))) := by
  refine Eq.trans ?_ (R.icong (fun h0 => (R.icong (fun h1 => (R.icong (fun h2 => (R.idropT (p := 0 ≤ x11) (z := none) h1 rfl)) (fun h2 => rfl))) (fun h1 => rfl))) (fun h0 => rfl))
  kernel_rfl
set_option maxRecDepth 100000 in
theorem laws_daSame.ef (k : Nat) (l0 : List Int) (l1 : List Int) : R.start Try.prog xhn laws_daSame.O 0 Try.f33 laws_daSame.fh k [.imm (.I .i64 l0), .imm (.I .i64 l1)] [] = (laws_daSame.x0 k l0 l1 (mn (l0.length : Int) (l1.length : Int)) 0) := by kernel_rfl
theorem laws_daSame.link : ∀ k, (∀ (x0 : List Int) (x1 : List Int) (x10 : Int) (x11 : Int), laws_daSame.x0 k x0 x1 x10 x11 = (laws_daSame.l0 k x0 x1 x10 x11).map (laws_daSame.en))
  | 0 => fun _ _ _ _ => by simp only [laws_daSame.l0, R.map_none]; rfl
  | k + 1 => by
    have ih0 := laws_daSame.link k
    · intro x0 x1 x10 x11
      rw [laws_daSame.e0]
      simp only [laws_daSame.l0, R.map_ite, R.map_bind, R.map_none, R.map_some, R.wr64_eq, ← ih0]
theorem laws_daSame.sf (k : Nat) (l0 : List Int) (l1 : List Int) : R.start Try.prog xhn laws_daSame.O 0 Try.f33 laws_daSame.fh k [.imm (.I .i64 l0), .imm (.I .i64 l1)] [] = (laws_daSame.f k l0 l1).map (laws_daSame.en) := by
  have ih0 := laws_daSame.link k
  rw [laws_daSame.ef]
  simp only [laws_daSame.f, R.map_ite, R.map_bind, R.map_none, R.map_some, R.wr64_eq, ← ih0]
theorem laws_daSame.ok (k : Nat) : laws_daSame.tw.Ok Try.prog k := by
  intro a r h
  refine fn_ok (H := xhn) (fh := laws_daSame.fh) (O := laws_daSame.O) (k := k) Try.func33 (by kernel_rfl) (by kernel_rfl) (fun j _ => noO_sound) (by kernel_rfl) (m := 0) rfl ?_
  refine (laws_daSame.sf k a.1 a.2).trans ?_
  exact congrArg (Option.map _) h
def laws_daMatrix.f (k : Nat) (a0_0 : Int) (l0_1 : List Int) (a1_0 : Int) (l1_1 : List Int) : Option (Bool) := (if a0_0 = a1_0 then ((laws_daSame.f k l0_1 l1_1).bind fun t1 => (some t1)) else (some false))
def laws_daMatrix.en (r : Bool) : Res := (.lit r, [])
def laws_daMatrix.dec : List AV → List R.Obj → Option (Int × (List Int) × Int × (List Int))
  | [.agg [.int .i64 a0_0, .imm (.I .i64 l0_1)], .agg [.int .i64 a1_0, .imm (.I .i64 l1_1)]], [] => some (a0_0, l0_1, a1_0, l1_1)
  | _, _ => none
def laws_daMatrix.tw : Tw := ⟨40, Int × (List Int) × Int × (List Int), Bool, laws_daMatrix.dec, fun a => [.agg [.int .i64 a.1, .imm (.I .i64 a.2.1)], .agg [.int .i64 a.2.2.1, .imm (.I .i64 a.2.2.2)]], fun a => [], fun k a => laws_daMatrix.f k a.1 a.2.1 a.2.2.1 a.2.2.2, fun a r => laws_daMatrix.en r⟩
theorem laws_daMatrix.dok : laws_daMatrix.tw.DecOk := by
  intro args hc a h
  have h : laws_daMatrix.dec args hc = some a := h
  unfold laws_daMatrix.dec at h
  split at h
  · cases h; exact ⟨rfl, rfl⟩
  · cases h
noncomputable def laws_daMatrix.O (k : Nat) : Oracle := (laws_daSame.tw.orc k noO)
def laws_daMatrix.fh : FH := ⟨fun i => match i with | _ => none, [], false⟩
set_option maxRecDepth 100000 in
theorem laws_daMatrix.ef (k : Nat) (a0_0 : Int) (l0_1 : List Int) (a1_0 : Int) (l1_1 : List Int) : R.start Try.prog xhn laws_daMatrix.O 0 Try.f40 laws_daMatrix.fh k [.agg [.int .i64 a0_0, .imm (.I .i64 l0_1)], .agg [.int .i64 a1_0, .imm (.I .i64 l1_1)]] [] = (if a0_0 = a1_0 then ((laws_daSame.f k l0_1 l1_1).bind fun t1 => (some (laws_daMatrix.en t1))) else (some (laws_daMatrix.en false))) := by kernel_rfl
theorem laws_daMatrix.sf (k : Nat) (a0_0 : Int) (l0_1 : List Int) (a1_0 : Int) (l1_1 : List Int) : R.start Try.prog xhn laws_daMatrix.O 0 Try.f40 laws_daMatrix.fh k [.agg [.int .i64 a0_0, .imm (.I .i64 l0_1)], .agg [.int .i64 a1_0, .imm (.I .i64 l1_1)]] [] = (laws_daMatrix.f k a0_0 l0_1 a1_0 l1_1).map (laws_daMatrix.en) := by
  rw [laws_daMatrix.ef]
  simp only [laws_daMatrix.f, R.map_ite, R.map_bind, R.map_none, R.map_some, R.wr64_eq]
theorem laws_daMatrix.ok (k : Nat) : laws_daMatrix.tw.Ok Try.prog k := by
  intro a r h
  refine fn_ok (H := xhn) (fh := laws_daMatrix.fh) (O := laws_daMatrix.O) (k := k) Try.func40 (by kernel_rfl) (by kernel_rfl) (fun j _ => (Tw.orc_sound laws_daSame.dok (laws_daSame.ok j) noO_sound)) (by kernel_rfl) (m := 0) rfl ?_
  refine (laws_daMatrix.sf k a.1 a.2.1 a.2.2.1 a.2.2.2).trans ?_
  exact congrArg (Option.map _) h
def impl_AddCost.f (a0 : Int) (a1 : Int) : Option (Int) := ((impl_CostValid.f a0).bind fun t1 => (if t1 = true then ((impl_CostValid.f a1).bind fun t2 => (if t2 = true then (some (mn (wrap64 (a0 + a1)) 1000000)) else (some (-1)))) else (some (-1))))
def impl_AddCost.en (r : Int) : Res := (.int .i64 r, [])
def impl_AddCost.dec : List AV → List R.Obj → Option (Int × Int)
  | [.int .i64 a0, .int .i64 a1], [] => some (a0, a1)
  | _, _ => none
def impl_AddCost.tw : Tw := ⟨73, Int × Int, Int, impl_AddCost.dec, fun a => [.int .i64 a.1, .int .i64 a.2], fun a => [], fun k a => impl_AddCost.f a.1 a.2, fun a r => impl_AddCost.en r⟩
theorem impl_AddCost.dok : impl_AddCost.tw.DecOk := by
  intro args hc a h
  have h : impl_AddCost.dec args hc = some a := h
  unfold impl_AddCost.dec at h
  split at h
  · cases h; exact ⟨rfl, rfl⟩
  · cases h
noncomputable def impl_AddCost.O (k : Nat) : Oracle := (impl_CostValid.tw.orc k noO)
def impl_AddCost.fh : FH := ⟨fun i => match i with | _ => none, [], false⟩
set_option maxRecDepth 100000 in
theorem impl_AddCost.ef (k : Nat) (a0 : Int) (a1 : Int) : R.start Try.prog xhn impl_AddCost.O 0 Try.f73 impl_AddCost.fh k [.int .i64 a0, .int .i64 a1] [] = ((impl_CostValid.f a0).bind fun t1 => (if t1 = true then ((impl_CostValid.f a1).bind fun t2 => (if t2 = true then (some (impl_AddCost.en (mn (wr64 (a0 + a1)) 1000000))) else (some (impl_AddCost.en (-1))))) else (some (impl_AddCost.en (-1))))) := by kernel_rfl
theorem impl_AddCost.sf (k : Nat) (a0 : Int) (a1 : Int) : R.start Try.prog xhn impl_AddCost.O 0 Try.f73 impl_AddCost.fh k [.int .i64 a0, .int .i64 a1] [] = (impl_AddCost.f a0 a1).map (impl_AddCost.en) := by
  rw [impl_AddCost.ef]
  simp only [impl_AddCost.f, R.map_ite, R.map_bind, R.map_none, R.map_some, R.wr64_eq]
theorem impl_AddCost.ok (k : Nat) : impl_AddCost.tw.Ok Try.prog k := by
  intro a r h
  refine fn_ok (H := xhn) (fh := impl_AddCost.fh) (O := impl_AddCost.O) (k := k) Try.func73 (by kernel_rfl) (by kernel_rfl) (fun j _ => (Tw.orc_sound impl_CostValid.dok (impl_CostValid.ok j) noO_sound)) (by kernel_rfl) (m := 0) rfl ?_
  refine (impl_AddCost.sf k a.1 a.2).trans ?_
  exact congrArg (Option.map _) h
def impl_times.f (a0 : Int) (a1 : Int) : Option (Int) := (if a1 = 0 then none else (if a0 > (wrap64 ((1000000 : Int).tdiv a1)) then (some 1000000) else (some (wrap64 (a0 * a1)))))
def impl_times.en (r : Int) : Res := (.int .i64 r, [])
def impl_times.dec : List AV → List R.Obj → Option (Int × Int)
  | [.int .i64 a0, .int .i64 a1], [] => some (a0, a1)
  | _, _ => none
def impl_times.tw : Tw := ⟨193, Int × Int, Int, impl_times.dec, fun a => [.int .i64 a.1, .int .i64 a.2], fun a => [], fun k a => impl_times.f a.1 a.2, fun a r => impl_times.en r⟩
theorem impl_times.dok : impl_times.tw.DecOk := by
  intro args hc a h
  have h : impl_times.dec args hc = some a := h
  unfold impl_times.dec at h
  split at h
  · cases h; exact ⟨rfl, rfl⟩
  · cases h
noncomputable def impl_times.O (k : Nat) : Oracle := noO
def impl_times.fh : FH := ⟨fun i => match i with | _ => none, [], false⟩
set_option maxRecDepth 100000 in
theorem impl_times.ef (k : Nat) (a0 : Int) (a1 : Int) : R.start Try.prog xhn impl_times.O 0 Try.f193 impl_times.fh k [.int .i64 a0, .int .i64 a1] [] = (if a1 = 0 then none else (if a0 > (wr64 ((1000000 : Int).tdiv a1)) then (some (impl_times.en 1000000)) else (some (impl_times.en (wr64 (a0 * a1)))))) := by kernel_rfl
theorem impl_times.sf (k : Nat) (a0 : Int) (a1 : Int) : R.start Try.prog xhn impl_times.O 0 Try.f193 impl_times.fh k [.int .i64 a0, .int .i64 a1] [] = (impl_times.f a0 a1).map (impl_times.en) := by
  rw [impl_times.ef]
  simp only [impl_times.f, R.map_ite, R.map_bind, R.map_none, R.map_some, R.wr64_eq]
theorem impl_times.ok (k : Nat) : impl_times.tw.Ok Try.prog k := by
  intro a r h
  refine fn_ok (H := xhn) (fh := impl_times.fh) (O := impl_times.O) (k := k) Try.func193 (by kernel_rfl) (by kernel_rfl) (fun j _ => noO_sound) (by kernel_rfl) (m := 0) rfl ?_
  refine (impl_times.sf k a.1 a.2).trans ?_
  exact congrArg (Option.map _) h
def impl_TimesCost.f (a0 : Int) (a1 : Int) : Option (Int) := (if a0 < 0 then (some (-1)) else ((impl_CostValid.f a1).bind fun t1 => (if t1 = true then (if a1 = 0 then (some 0) else ((impl_times.f a0 a1).bind fun t2 => (some t2))) else (some (-1)))))
def impl_TimesCost.en (r : Int) : Res := (.int .i64 r, [])
def impl_TimesCost.dec : List AV → List R.Obj → Option (Int × Int)
  | [.int .i64 a0, .int .i64 a1], [] => some (a0, a1)
  | _, _ => none
def impl_TimesCost.tw : Tw := ⟨176, Int × Int, Int, impl_TimesCost.dec, fun a => [.int .i64 a.1, .int .i64 a.2], fun a => [], fun k a => impl_TimesCost.f a.1 a.2, fun a r => impl_TimesCost.en r⟩
theorem impl_TimesCost.dok : impl_TimesCost.tw.DecOk := by
  intro args hc a h
  have h : impl_TimesCost.dec args hc = some a := h
  unfold impl_TimesCost.dec at h
  split at h
  · cases h; exact ⟨rfl, rfl⟩
  · cases h
noncomputable def impl_TimesCost.O (k : Nat) : Oracle := (impl_CostValid.tw.orc k (impl_times.tw.orc k noO))
def impl_TimesCost.fh : FH := ⟨fun i => match i with | _ => none, [], false⟩
set_option maxRecDepth 100000 in
theorem impl_TimesCost.ef (k : Nat) (a0 : Int) (a1 : Int) : R.start Try.prog xhn impl_TimesCost.O 0 Try.f176 impl_TimesCost.fh k [.int .i64 a0, .int .i64 a1] [] = (if a0 < 0 then (some (impl_TimesCost.en (-1))) else ((impl_CostValid.f a1).bind fun t1 => (if t1 = true then (if a1 = 0 then (some (impl_TimesCost.en 0)) else ((impl_times.f a0 a1).bind fun t2 => (some (impl_TimesCost.en t2)))) else (some (impl_TimesCost.en (-1)))))) := by kernel_rfl
theorem impl_TimesCost.sf (k : Nat) (a0 : Int) (a1 : Int) : R.start Try.prog xhn impl_TimesCost.O 0 Try.f176 impl_TimesCost.fh k [.int .i64 a0, .int .i64 a1] [] = (impl_TimesCost.f a0 a1).map (impl_TimesCost.en) := by
  rw [impl_TimesCost.ef]
  simp only [impl_TimesCost.f, R.map_ite, R.map_bind, R.map_none, R.map_some, R.wr64_eq]
theorem impl_TimesCost.ok (k : Nat) : impl_TimesCost.tw.Ok Try.prog k := by
  intro a r h
  refine fn_ok (H := xhn) (fh := impl_TimesCost.fh) (O := impl_TimesCost.O) (k := k) Try.func176 (by kernel_rfl) (by kernel_rfl) (fun j _ => (Tw.orc_sound impl_CostValid.dok (impl_CostValid.ok j) (Tw.orc_sound impl_times.dok (impl_times.ok j) noO_sound))) (by kernel_rfl) (m := 0) rfl ?_
  refine (impl_TimesCost.sf k a.1 a.2).trans ?_
  exact congrArg (Option.map _) h
mutual
def impl_bound.l0 : Nat → Int → (List Part) → Int → Int → Option (Int)
  | 0, _, _, _, _ => none
  | k + 1, x3, x6, x7, x8 => (if x8 < x7 then (if 0 ≤ x8 then (if x8 < (x6.length : Int) then (if (rdP x6 x8).f0.toList = ([] : List UInt8) then ((impl_bound.f k ((rdP x6 x8).f1)).bind fun t1 => ((impl_TimesCost.f 2 t1).bind fun t2 => ((impl_AddCost.f x3 t2).bind fun t3 => (impl_bound.l0 k t3 x6 x7 (wrap64 (x8 + 1)))))) else ((impl_AddCost.f x3 3).bind fun t4 => (impl_bound.l0 k t4 x6 x7 (wrap64 (x8 + 1))))) else none) else none) else (some x3))
def impl_bound.f : Nat → (List Part) → Option (Int)
  | 0, _ => none
  | k + 1, l0 => (impl_bound.l0 k 0 l0 (l0.length : Int) 0)
end
def impl_bound.en (r : Int) : Res := (.int .i64 r, [])
def impl_bound.dec : List AV → List R.Obj → Option (List Part)
  | [.imm (.P l0)], [] => some l0
  | _, _ => none
def impl_bound.tw : Tw := ⟨138, List Part, Int, impl_bound.dec, fun a => [.imm (.P a)], fun a => [], fun k a => impl_bound.f k a, fun a r => impl_bound.en r⟩
theorem impl_bound.dok : impl_bound.tw.DecOk := by
  intro args hc a h
  have h : impl_bound.dec args hc = some a := h
  unfold impl_bound.dec at h
  split at h
  · cases h; exact ⟨rfl, rfl⟩
  · cases h
noncomputable def impl_bound.O (k : Nat) : Oracle := (impl_TimesCost.tw.orc k (impl_AddCost.tw.orc k (impl_bound.tw.orc k noO)))
def impl_bound.fh : FH := ⟨fun i => match i with | 3 => some [(3, 0), (6, 0), (7, 0), (8, 0)] | _ => none, [], false⟩
noncomputable def impl_bound.x0 (k : Nat) (x3 : Int) (x6 : List Part) (x7 : Int) (x8 : Int) : Option Res := R.exec Try.prog xhn impl_bound.O 0 Try.f138 impl_bound.fh k (R.point Try.f138 3) ⟨[(3, .int .i64 x3), (6, .imm (.P x6)), (7, .int .i64 x7), (8, .int .i64 x8)], [], 2⟩
set_option maxRecDepth 100000 in
theorem impl_bound.e0 (k : Nat) (x3 : Int) (x6 : List Part) (x7 : Int) (x8 : Int) : impl_bound.x0 (k + 1) x3 x6 x7 x8 = (if x8 < x7 then (if 0 ≤ x8 then (if x8 < (x6.length : Int) then (if (rdP x6 x8).f0.toList = ([] : List UInt8) then ((impl_bound.f k ((rdP x6 x8).f1)).bind fun t1 => ((impl_TimesCost.f 2 t1).bind fun t2 => ((impl_AddCost.f x3 t2).bind fun t3 => (impl_bound.x0 k t3 x6 x7 (wr64 (x8 + 1)))))) else ((impl_AddCost.f x3 3).bind fun t4 => (impl_bound.x0 k t4 x6 x7 (wr64 (x8 + 1))))) else none) else none) else (some (impl_bound.en x3))) := by kernel_rfl
set_option maxRecDepth 100000 in
theorem impl_bound.ef (k : Nat) (l0 : List Part) : R.start Try.prog xhn impl_bound.O 0 Try.f138 impl_bound.fh k [.imm (.P l0)] [] = (impl_bound.x0 k 0 l0 (l0.length : Int) 0) := by kernel_rfl
theorem impl_bound.link : ∀ k, (∀ (x3 : Int) (x6 : List Part) (x7 : Int) (x8 : Int), impl_bound.x0 k x3 x6 x7 x8 = (impl_bound.l0 k x3 x6 x7 x8).map (impl_bound.en))
  | 0 => fun _ _ _ _ => by simp only [impl_bound.l0, R.map_none]; rfl
  | k + 1 => by
    have ih0 := impl_bound.link k
    · intro x3 x6 x7 x8
      rw [impl_bound.e0]
      simp only [impl_bound.l0, R.map_ite, R.map_bind, R.map_none, R.map_some, R.wr64_eq, ← ih0]
theorem impl_bound.sf (k : Nat) (l0 : List Part) : R.start Try.prog xhn impl_bound.O 0 Try.f138 impl_bound.fh k [.imm (.P l0)] [] = (impl_bound.f (k + 1) l0).map (impl_bound.en) := by
  have ih0 := impl_bound.link k
  rw [impl_bound.ef]
  simp only [impl_bound.f, R.map_ite, R.map_bind, R.map_none, R.map_some, R.wr64_eq, ← ih0]
theorem impl_bound.ok : ∀ k, impl_bound.tw.Ok Try.prog k := by
  intro k
  induction k using Nat.strongRecOn with
  | ind k ih =>
    cases k with
    | zero =>
      intro a r h
      have h : impl_bound.f 0 a = some r := h
      simp only [impl_bound.f] at h
      cases h
    | succ k =>
      intro a r h
      refine fn_ok (H := xhn) (fh := impl_bound.fh) (O := impl_bound.O) (k := k) Try.func138 (by kernel_rfl) (by kernel_rfl) (fun j hj => (Tw.orc_sound impl_TimesCost.dok (impl_TimesCost.ok j) (Tw.orc_sound impl_AddCost.dok (impl_AddCost.ok j) (Tw.orc_sound impl_bound.dok (ih j (by omega)) noO_sound)))) (by kernel_rfl) (m := 0) rfl ?_
      refine (impl_bound.sf k a).trans ?_
      exact congrArg (Option.map _) h
def impl_BoundOf.f (k : Nat) (a0 : ByteArray) : Option (Int) := ((impl_parts.f k a0).bind fun t1 => (if t1.2 = true then ((impl_bound.f k t1.1).bind fun t2 => (some t2)) else (some (-1))))
def impl_BoundOf.en (r : Int) : Res := (.int .i64 r, [])
def impl_BoundOf.dec : List AV → List R.Obj → Option (ByteArray)
  | [.str a0], [] => some a0
  | _, _ => none
def impl_BoundOf.tw : Tw := ⟨72, ByteArray, Int, impl_BoundOf.dec, fun a => [.str a], fun a => [], fun k a => impl_BoundOf.f k a, fun a r => impl_BoundOf.en r⟩
theorem impl_BoundOf.dok : impl_BoundOf.tw.DecOk := by
  intro args hc a h
  have h : impl_BoundOf.dec args hc = some a := h
  unfold impl_BoundOf.dec at h
  split at h
  · cases h; exact ⟨rfl, rfl⟩
  · cases h
noncomputable def impl_BoundOf.O (k : Nat) : Oracle := (impl_parts.tw.orc k (impl_bound.tw.orc k noO))
def impl_BoundOf.fh : FH := ⟨fun i => match i with | _ => none, [], false⟩
set_option maxRecDepth 100000 in
theorem impl_BoundOf.ef (k : Nat) (a0 : ByteArray) : R.start Try.prog xhn impl_BoundOf.O 0 Try.f72 impl_BoundOf.fh k [.str a0] [] = ((impl_parts.f k a0).bind fun t1 => (if t1.2 = true then ((impl_bound.f k t1.1).bind fun t2 => (some (impl_BoundOf.en t2))) else (some (impl_BoundOf.en (-1))))) := by kernel_rfl
theorem impl_BoundOf.sf (k : Nat) (a0 : ByteArray) : R.start Try.prog xhn impl_BoundOf.O 0 Try.f72 impl_BoundOf.fh k [.str a0] [] = (impl_BoundOf.f k a0).map (impl_BoundOf.en) := by
  rw [impl_BoundOf.ef]
  simp only [impl_BoundOf.f, R.map_ite, R.map_bind, R.map_none, R.map_some, R.wr64_eq]
theorem impl_BoundOf.ok (k : Nat) : impl_BoundOf.tw.Ok Try.prog k := by
  intro a r h
  refine fn_ok (H := xhn) (fh := impl_BoundOf.fh) (O := impl_BoundOf.O) (k := k) Try.func72 (by kernel_rfl) (by kernel_rfl) (fun j _ => (Tw.orc_sound impl_parts.dok (impl_parts.ok j) (Tw.orc_sound impl_bound.dok (impl_bound.ok j) noO_sound))) (by kernel_rfl) (m := 0) rfl ?_
  refine (impl_BoundOf.sf k a).trans ?_
  exact congrArg (Option.map _) h
def impl_ExpressionValid.f (k : Nat) (a0 : ByteArray) : Option (Bool) := ((impl_parts.f k a0).bind fun t1 => (some t1.2))
def impl_ExpressionValid.en (r : Bool) : Res := (.lit r, [])
def impl_ExpressionValid.dec : List AV → List R.Obj → Option (ByteArray)
  | [.str a0], [] => some a0
  | _, _ => none
def impl_ExpressionValid.tw : Tw := ⟨90, ByteArray, Bool, impl_ExpressionValid.dec, fun a => [.str a], fun a => [], fun k a => impl_ExpressionValid.f k a, fun a r => impl_ExpressionValid.en r⟩
theorem impl_ExpressionValid.dok : impl_ExpressionValid.tw.DecOk := by
  intro args hc a h
  have h : impl_ExpressionValid.dec args hc = some a := h
  unfold impl_ExpressionValid.dec at h
  split at h
  · cases h; exact ⟨rfl, rfl⟩
  · cases h
noncomputable def impl_ExpressionValid.O (k : Nat) : Oracle := (impl_parts.tw.orc k noO)
def impl_ExpressionValid.fh : FH := ⟨fun i => match i with | _ => none, [], false⟩
set_option maxRecDepth 100000 in
theorem impl_ExpressionValid.ef (k : Nat) (a0 : ByteArray) : R.start Try.prog xhn impl_ExpressionValid.O 0 Try.f90 impl_ExpressionValid.fh k [.str a0] [] = ((impl_parts.f k a0).bind fun t1 => (some (impl_ExpressionValid.en t1.2))) := by kernel_rfl
theorem impl_ExpressionValid.sf (k : Nat) (a0 : ByteArray) : R.start Try.prog xhn impl_ExpressionValid.O 0 Try.f90 impl_ExpressionValid.fh k [.str a0] [] = (impl_ExpressionValid.f k a0).map (impl_ExpressionValid.en) := by
  rw [impl_ExpressionValid.ef]
  simp only [impl_ExpressionValid.f, R.map_ite, R.map_bind, R.map_none, R.map_some, R.wr64_eq]
theorem impl_ExpressionValid.ok (k : Nat) : impl_ExpressionValid.tw.Ok Try.prog k := by
  intro a r h
  refine fn_ok (H := xhn) (fh := impl_ExpressionValid.fh) (O := impl_ExpressionValid.O) (k := k) Try.func90 (by kernel_rfl) (by kernel_rfl) (fun j _ => (Tw.orc_sound impl_parts.dok (impl_parts.ok j) noO_sound)) (by kernel_rfl) (m := 0) rfl ?_
  refine (impl_ExpressionValid.sf k a).trans ?_
  exact congrArg (Option.map _) h
def impl_RepeatExpression.f (k : Nat) (a0 : ByteArray) : Option (ByteArray) := (if 1 + a0.size ≤ 9223372036854775807 then (if ((⟨#[40]⟩ : ByteArray) ++ a0).size + 2 ≤ 9223372036854775807 then ((impl_ExpressionValid.f k a0).bind fun t1 => (if t1 = true then (if ((((⟨#[40]⟩ : ByteArray) ++ a0) ++ (⟨#[41, 35]⟩ : ByteArray)).size : Int) > 120 then (some (⟨#[]⟩ : ByteArray)) else (some (((⟨#[40]⟩ : ByteArray) ++ a0) ++ (⟨#[41, 35]⟩ : ByteArray)))) else (some (⟨#[]⟩ : ByteArray)))) else none) else none)
def impl_RepeatExpression.en (r : ByteArray) : Res := (.str r, [])
def impl_RepeatExpression.dec : List AV → List R.Obj → Option (ByteArray)
  | [.str a0], [] => some a0
  | _, _ => none
def impl_RepeatExpression.tw : Tw := ⟨74, ByteArray, ByteArray, impl_RepeatExpression.dec, fun a => [.str a], fun a => [], fun k a => impl_RepeatExpression.f k a, fun a r => impl_RepeatExpression.en r⟩
theorem impl_RepeatExpression.dok : impl_RepeatExpression.tw.DecOk := by
  intro args hc a h
  have h : impl_RepeatExpression.dec args hc = some a := h
  unfold impl_RepeatExpression.dec at h
  split at h
  · cases h; exact ⟨rfl, rfl⟩
  · cases h
noncomputable def impl_RepeatExpression.O (k : Nat) : Oracle := (impl_ExpressionValid.tw.orc k noO)
def impl_RepeatExpression.fh : FH := ⟨fun i => match i with | _ => none, [], false⟩
set_option maxRecDepth 100000 in
theorem impl_RepeatExpression.ef (k : Nat) (a0 : ByteArray) : R.start Try.prog xhn impl_RepeatExpression.O 0 Try.f74 impl_RepeatExpression.fh k [.str a0] [] = (if 1 + a0.size ≤ 9223372036854775807 then (if ((⟨#[40]⟩ : ByteArray) ++ a0).size + 2 ≤ 9223372036854775807 then ((impl_ExpressionValid.f k a0).bind fun t1 => (if t1 = true then (if ((((⟨#[40]⟩ : ByteArray) ++ a0) ++ (⟨#[41, 35]⟩ : ByteArray)).size : Int) > 120 then (some (impl_RepeatExpression.en (⟨#[]⟩ : ByteArray))) else (some (impl_RepeatExpression.en (((⟨#[40]⟩ : ByteArray) ++ a0) ++ (⟨#[41, 35]⟩ : ByteArray))))) else (some (impl_RepeatExpression.en (⟨#[]⟩ : ByteArray))))) else none) else none) := by kernel_rfl
theorem impl_RepeatExpression.sf (k : Nat) (a0 : ByteArray) : R.start Try.prog xhn impl_RepeatExpression.O 0 Try.f74 impl_RepeatExpression.fh k [.str a0] [] = (impl_RepeatExpression.f k a0).map (impl_RepeatExpression.en) := by
  rw [impl_RepeatExpression.ef]
  simp only [impl_RepeatExpression.f, R.map_ite, R.map_bind, R.map_none, R.map_some, R.wr64_eq]
theorem impl_RepeatExpression.ok (k : Nat) : impl_RepeatExpression.tw.Ok Try.prog k := by
  intro a r h
  refine fn_ok (H := xhn) (fh := impl_RepeatExpression.fh) (O := impl_RepeatExpression.O) (k := k) Try.func74 (by kernel_rfl) (by kernel_rfl) (fun j _ => (Tw.orc_sound impl_ExpressionValid.dok (impl_ExpressionValid.ok j) noO_sound)) (by kernel_rfl) (m := 0) rfl ?_
  refine (impl_RepeatExpression.sf k a).trans ?_
  exact congrArg (Option.map _) h
def laws_FnValueJoin.f (k : Nat) (l0 : List Int) (l1 : List Int) : Option (Bool) := (if (l0.length : Int) > 1048576 then (some true) else (if (l1.length : Int) > 1048576 then (some true) else ((spec_DrawGradeOf.f k l0).bind fun t1 => ((impl_ValueOf.f k t1.1 t1.2.1 t1.2.2.1 t1.2.2.2.1 t1.2.2.2.2).bind fun t2 => ((impl_GradeOf.f k t1.1 t1.2.1 t1.2.2.1 t1.2.2.2.1 t1.2.2.2.2).bind fun t3 => ((spec_GradeOf.f k t1.1 t1.2.1 t1.2.2.1 t1.2.2.2.1 t1.2.2.2.2).bind fun t4 => (if t3 = t4 then (if t2.2.2 = true then ((spec_DrawBoundOf.f k l1).bind fun t5 => ((impl_ValueOf.f k t1.1 t1.2.1 t1.2.2.1 t1.2.2.2.1 t5).bind fun t6 => (if t1.2.2.2.2.size + t5.size ≤ 9223372036854775807 then ((impl_ValueOf.f k t1.1 t1.2.1 t1.2.2.1 t1.2.2.2.1 (t1.2.2.2.2 ++ t5)).bind fun t7 => (if (wrap64 ((t1.2.2.2.2.size : Int) + (t5.size : Int))) ≤ 120 then (if t6.2.2 = true then ((impl_MulGrades.f k t2.1 t2.2.1 t6.1 t6.2.1).bind fun t8 => (if t7.2.2 = true then ((laws_daMatrix.f k t8.1 t8.2.1 t7.1 t7.2.1).bind fun t9 => (if t9 = true then ((impl_BoundOf.f k (t1.2.2.2.2 ++ t5)).bind fun t10 => ((impl_BoundOf.f k t1.2.2.2.2).bind fun t11 => ((impl_BoundOf.f k t5).bind fun t12 => ((impl_AddCost.f t11 t12).bind fun t13 => (if t10 = t13 then ((impl_RepeatExpression.f k t1.2.2.2.2).bind fun t14 => ((impl_Stabilise.f k t2.1 t2.2.1).bind fun t15 => ((impl_ValueOf.f k t1.1 t1.2.1 t1.2.2.1 t1.2.2.2.1 t14).bind fun t16 => ((impl_GradeOf.f k t1.1 t1.2.1 t1.2.2.1 t1.2.2.2.1 t1.2.2.2.2).bind fun t17 => ((impl_GradeBetween.f k t1.1 t1.2.1 t1.2.2.1 t1.2.2.2.1 t2.1 t2.2.1).bind fun t18 => (if t17 = t18 then (if t14.toList = ([] : List UInt8) then (some true) else (if (t16.2.2 == t15.2.2) = true then ((laws_daMatrix.f k t16.1 t16.2.1 t15.1 t15.2.1).bind fun t19 => (some t19)) else (some false))) else (some false))))))) else (some false)))))) else (some false))) else (some false))) else ((impl_RepeatExpression.f k t1.2.2.2.2).bind fun t20 => ((impl_Stabilise.f k t2.1 t2.2.1).bind fun t21 => ((impl_ValueOf.f k t1.1 t1.2.1 t1.2.2.1 t1.2.2.2.1 t20).bind fun t22 => ((impl_GradeOf.f k t1.1 t1.2.1 t1.2.2.1 t1.2.2.2.1 t1.2.2.2.2).bind fun t23 => ((impl_GradeBetween.f k t1.1 t1.2.1 t1.2.2.1 t1.2.2.2.1 t2.1 t2.2.1).bind fun t24 => (if t23 = t24 then (if t20.toList = ([] : List UInt8) then (some true) else (if (t22.2.2 == t21.2.2) = true then ((laws_daMatrix.f k t22.1 t22.2.1 t21.1 t21.2.1).bind fun t25 => (some t25)) else (some false))) else (some false)))))))) else ((impl_RepeatExpression.f k t1.2.2.2.2).bind fun t26 => ((impl_Stabilise.f k t2.1 t2.2.1).bind fun t27 => ((impl_ValueOf.f k t1.1 t1.2.1 t1.2.2.1 t1.2.2.2.1 t26).bind fun t28 => ((impl_GradeOf.f k t1.1 t1.2.1 t1.2.2.1 t1.2.2.2.1 t1.2.2.2.2).bind fun t29 => ((impl_GradeBetween.f k t1.1 t1.2.1 t1.2.2.1 t1.2.2.2.1 t2.1 t2.2.1).bind fun t30 => (if t29 = t30 then (if t26.toList = ([] : List UInt8) then (some true) else (if (t28.2.2 == t27.2.2) = true then ((laws_daMatrix.f k t28.1 t28.2.1 t27.1 t27.2.1).bind fun t31 => (some t31)) else (some false))) else (some false))))))))) else none))) else ((impl_GradeOf.f k t1.1 t1.2.1 t1.2.2.1 t1.2.2.2.1 t1.2.2.2.2).bind fun t32 => ((spec_GradeOf.f k t1.1 t1.2.1 t1.2.2.1 t1.2.2.2.1 t1.2.2.2.2).bind fun t33 => (if t32 = t33 then ((impl_GradeOf.f k t1.1 t1.2.1 t1.2.2.1 t1.2.2.2.1 t1.2.2.2.2).bind fun t34 => (some (decide (t34 = (-1))))) else (some false))))) else ((impl_GradeOf.f k t1.1 t1.2.1 t1.2.2.1 t1.2.2.2.1 t1.2.2.2.2).bind fun t35 => ((spec_GradeOf.f k t1.1 t1.2.1 t1.2.2.1 t1.2.2.2.1 t1.2.2.2.2).bind fun t36 => (if t35 = t36 then ((impl_GradeOf.f k t1.1 t1.2.1 t1.2.2.1 t1.2.2.2.1 t1.2.2.2.2).bind fun t37 => (some (decide (t37 = (-1))))) else (some false)))))))))))
def laws_FnValueJoin.en (r : Bool) : Res := (.lit r, [])
def laws_FnValueJoin.dec : List AV → List R.Obj → Option ((List Int) × (List Int))
  | [.imm (.I .u8 l0), .imm (.I .u8 l1)], [] => some (l0, l1)
  | _, _ => none
def laws_FnValueJoin.tw : Tw := ⟨12, (List Int) × (List Int), Bool, laws_FnValueJoin.dec, fun a => [.imm (.I .u8 a.1), .imm (.I .u8 a.2)], fun a => [], fun k a => laws_FnValueJoin.f k a.1 a.2, fun a r => laws_FnValueJoin.en r⟩
theorem laws_FnValueJoin.dok : laws_FnValueJoin.tw.DecOk := by
  intro args hc a h
  have h : laws_FnValueJoin.dec args hc = some a := h
  unfold laws_FnValueJoin.dec at h
  split at h
  · cases h; exact ⟨rfl, rfl⟩
  · cases h
noncomputable def laws_FnValueJoin.O (k : Nat) : Oracle := (spec_DrawGradeOf.tw.orc k (impl_ValueOf.tw.orc k (impl_GradeOf.tw.orc k (spec_GradeOf.tw.orc k (spec_DrawBoundOf.tw.orc k (impl_MulGrades.tw.orc k (laws_daMatrix.tw.orc k (impl_BoundOf.tw.orc k (impl_AddCost.tw.orc k (impl_RepeatExpression.tw.orc k (impl_Stabilise.tw.orc k (impl_GradeBetween.tw.orc k noO))))))))))))
def laws_FnValueJoin.fh : FH := ⟨fun i => match i with | _ => none, [], false⟩
set_option maxRecDepth 100000 in
theorem laws_FnValueJoin.ef (k : Nat) (l0 : List Int) (l1 : List Int) : R.start Try.prog xhn laws_FnValueJoin.O 0 Try.f12 laws_FnValueJoin.fh k [.imm (.I .u8 l0), .imm (.I .u8 l1)] [] = (if (l0.length : Int) > 1048576 then (some (laws_FnValueJoin.en true)) else (if (l1.length : Int) > 1048576 then (some (laws_FnValueJoin.en true)) else ((spec_DrawGradeOf.f k l0).bind fun t1 => ((impl_ValueOf.f k t1.1 t1.2.1 t1.2.2.1 t1.2.2.2.1 t1.2.2.2.2).bind fun t2 => ((impl_GradeOf.f k t1.1 t1.2.1 t1.2.2.1 t1.2.2.2.1 t1.2.2.2.2).bind fun t3 => ((spec_GradeOf.f k t1.1 t1.2.1 t1.2.2.1 t1.2.2.2.1 t1.2.2.2.2).bind fun t4 => (if t3 = t4 then (if t2.2.2 = true then ((spec_DrawBoundOf.f k l1).bind fun t5 => ((impl_ValueOf.f k t1.1 t1.2.1 t1.2.2.1 t1.2.2.2.1 t5).bind fun t6 => (if t1.2.2.2.2.size + t5.size ≤ 9223372036854775807 then ((impl_ValueOf.f k t1.1 t1.2.1 t1.2.2.1 t1.2.2.2.1 (t1.2.2.2.2 ++ t5)).bind fun t7 => (if (wr64 ((t1.2.2.2.2.size : Int) + (t5.size : Int))) ≤ 120 then (if t6.2.2 = true then ((impl_MulGrades.f k t2.1 t2.2.1 t6.1 t6.2.1).bind fun t8 => (if t7.2.2 = true then ((laws_daMatrix.f k t8.1 t8.2.1 t7.1 t7.2.1).bind fun t9 => (if t9 = true then ((impl_BoundOf.f k (t1.2.2.2.2 ++ t5)).bind fun t10 => ((impl_BoundOf.f k t1.2.2.2.2).bind fun t11 => ((impl_BoundOf.f k t5).bind fun t12 => ((impl_AddCost.f t11 t12).bind fun t13 => (if t10 = t13 then ((impl_RepeatExpression.f k t1.2.2.2.2).bind fun t14 => ((impl_Stabilise.f k t2.1 t2.2.1).bind fun t15 => ((impl_ValueOf.f k t1.1 t1.2.1 t1.2.2.1 t1.2.2.2.1 t14).bind fun t16 => ((impl_GradeOf.f k t1.1 t1.2.1 t1.2.2.1 t1.2.2.2.1 t1.2.2.2.2).bind fun t17 => ((impl_GradeBetween.f k t1.1 t1.2.1 t1.2.2.1 t1.2.2.2.1 t2.1 t2.2.1).bind fun t18 => (if t17 = t18 then (if t14.toList = ([] : List UInt8) then (some (laws_FnValueJoin.en true)) else (if (t16.2.2 == t15.2.2) = true then ((laws_daMatrix.f k t16.1 t16.2.1 t15.1 t15.2.1).bind fun t19 => (some (laws_FnValueJoin.en t19))) else (some (laws_FnValueJoin.en false)))) else (some (laws_FnValueJoin.en false)))))))) else (some (laws_FnValueJoin.en false))))))) else (some (laws_FnValueJoin.en false)))) else (some (laws_FnValueJoin.en false)))) else ((impl_RepeatExpression.f k t1.2.2.2.2).bind fun t20 => ((impl_Stabilise.f k t2.1 t2.2.1).bind fun t21 => ((impl_ValueOf.f k t1.1 t1.2.1 t1.2.2.1 t1.2.2.2.1 t20).bind fun t22 => ((impl_GradeOf.f k t1.1 t1.2.1 t1.2.2.1 t1.2.2.2.1 t1.2.2.2.2).bind fun t23 => ((impl_GradeBetween.f k t1.1 t1.2.1 t1.2.2.1 t1.2.2.2.1 t2.1 t2.2.1).bind fun t24 => (if t23 = t24 then (if t20.toList = ([] : List UInt8) then (some (laws_FnValueJoin.en true)) else (if (t22.2.2 == t21.2.2) = true then ((laws_daMatrix.f k t22.1 t22.2.1 t21.1 t21.2.1).bind fun t25 => (some (laws_FnValueJoin.en t25))) else (some (laws_FnValueJoin.en false)))) else (some (laws_FnValueJoin.en false))))))))) else ((impl_RepeatExpression.f k t1.2.2.2.2).bind fun t26 => ((impl_Stabilise.f k t2.1 t2.2.1).bind fun t27 => ((impl_ValueOf.f k t1.1 t1.2.1 t1.2.2.1 t1.2.2.2.1 t26).bind fun t28 => ((impl_GradeOf.f k t1.1 t1.2.1 t1.2.2.1 t1.2.2.2.1 t1.2.2.2.2).bind fun t29 => ((impl_GradeBetween.f k t1.1 t1.2.1 t1.2.2.1 t1.2.2.2.1 t2.1 t2.2.1).bind fun t30 => (if t29 = t30 then (if t26.toList = ([] : List UInt8) then (some (laws_FnValueJoin.en true)) else (if (t28.2.2 == t27.2.2) = true then ((laws_daMatrix.f k t28.1 t28.2.1 t27.1 t27.2.1).bind fun t31 => (some (laws_FnValueJoin.en t31))) else (some (laws_FnValueJoin.en false)))) else (some (laws_FnValueJoin.en false)))))))))) else none))) else ((impl_GradeOf.f k t1.1 t1.2.1 t1.2.2.1 t1.2.2.2.1 t1.2.2.2.2).bind fun t32 => ((spec_GradeOf.f k t1.1 t1.2.1 t1.2.2.1 t1.2.2.2.1 t1.2.2.2.2).bind fun t33 => (if t32 = t33 then ((impl_GradeOf.f k t1.1 t1.2.1 t1.2.2.1 t1.2.2.2.1 t1.2.2.2.2).bind fun t34 => (some (laws_FnValueJoin.en (decide (t34 = (-1)))))) else (some (laws_FnValueJoin.en false)))))) else ((impl_GradeOf.f k t1.1 t1.2.1 t1.2.2.1 t1.2.2.2.1 t1.2.2.2.2).bind fun t35 => ((spec_GradeOf.f k t1.1 t1.2.1 t1.2.2.1 t1.2.2.2.1 t1.2.2.2.2).bind fun t36 => (if t35 = t36 then ((impl_GradeOf.f k t1.1 t1.2.1 t1.2.2.1 t1.2.2.2.1 t1.2.2.2.2).bind fun t37 => (some (laws_FnValueJoin.en (decide (t37 = (-1)))))) else (some (laws_FnValueJoin.en false)))))))))))) := by
  refine Eq.trans ?_ (R.icong (fun h0 => rfl) (fun h0 => (R.icong (fun h1 => rfl) (fun h1 => (R.bcong fun t1 => (R.bcong fun t2 => (R.bcong fun t3 => (R.bcong fun t4 => (R.icong (fun h2 => (R.icong (fun h3 => (R.bcong fun t5 => (R.bcong fun t6 => (R.icong (fun h4 => (R.bcong fun t7 => (R.icong (fun h5 => (R.icong (fun h6 => (R.bcong fun t8 => (R.icong (fun h7 => (R.bcong fun t9 => (R.icong (fun h8 => (R.idropT (p := t1.2.2.2.2.size + t5.size ≤ 9223372036854775807) (z := none) h4 rfl)) (fun h8 => rfl)))) (fun h7 => rfl)))) (fun h6 => rfl))) (fun h5 => rfl)))) (fun h4 => rfl))))) (fun h3 => rfl))) (fun h2 => rfl))))))))))
  kernel_rfl
theorem laws_FnValueJoin.sf (k : Nat) (l0 : List Int) (l1 : List Int) : R.start Try.prog xhn laws_FnValueJoin.O 0 Try.f12 laws_FnValueJoin.fh k [.imm (.I .u8 l0), .imm (.I .u8 l1)] [] = (laws_FnValueJoin.f k l0 l1).map (laws_FnValueJoin.en) := by
  rw [laws_FnValueJoin.ef]
  simp only [laws_FnValueJoin.f, R.map_ite, R.map_bind, R.map_none, R.map_some, R.wr64_eq]
theorem laws_FnValueJoin.ok (k : Nat) : laws_FnValueJoin.tw.Ok Try.prog k := by
  intro a r h
  refine fn_ok (H := xhn) (fh := laws_FnValueJoin.fh) (O := laws_FnValueJoin.O) (k := k) Try.func12 (by kernel_rfl) (by kernel_rfl) (fun j _ => (Tw.orc_sound spec_DrawGradeOf.dok (spec_DrawGradeOf.ok j) (Tw.orc_sound impl_ValueOf.dok (impl_ValueOf.ok j) (Tw.orc_sound impl_GradeOf.dok (impl_GradeOf.ok j) (Tw.orc_sound spec_GradeOf.dok (spec_GradeOf.ok j) (Tw.orc_sound spec_DrawBoundOf.dok (spec_DrawBoundOf.ok j) (Tw.orc_sound impl_MulGrades.dok (impl_MulGrades.ok j) (Tw.orc_sound laws_daMatrix.dok (laws_daMatrix.ok j) (Tw.orc_sound impl_BoundOf.dok (impl_BoundOf.ok j) (Tw.orc_sound impl_AddCost.dok (impl_AddCost.ok j) (Tw.orc_sound impl_RepeatExpression.dok (impl_RepeatExpression.ok j) (Tw.orc_sound impl_Stabilise.dok (impl_Stabilise.ok j) (Tw.orc_sound impl_GradeBetween.dok (impl_GradeBetween.ok j) noO_sound))))))))))))) (by kernel_rfl) (m := 0) rfl ?_
  refine (laws_FnValueJoin.sf k a.1 a.2).trans ?_
  exact congrArg (Option.map _) h
end Go.Proofs.Ytaaajdlgmllhaaa.V
end
