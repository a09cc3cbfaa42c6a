import Derived.Test.YtfgoojnblomonaaQFnExactWordElements2
import Derived.Test.YtfgoojnblomonaaProg
import Derived.WalkKit
import Derived.ProofKit
import Derived.Lib.Bytealg
section
set_option linter.unusedVariables false
set_option linter.unusedSimpArgs false
namespace Go.Proofs.Ytfgoojnblomonaa.V
open Go Go.Proofs.Ytfgoojnblomonaa.R Go.RowKit
def xhn : R.Hints := ⟨fun e => match e with | 3 => some (.I .i64) | 5 => some (.I .u8) | 9 => some .S | 49 => some .E | 69 => some .T | 97 => some .P | _ => none, fun f => match f with | 10 => 2 | 20 => 1 | 23 => 3 | 27 => 2 | 28 => 2 | 54 => 3 | _ => 0⟩
def laws_heldIntS.l0 : Nat → (List Int) → Int → Int → Option (Int)
  | 0, _, _, _ => none
  | k + 1, x0, x1, x5 => (if x5 < (x0.length : Int) then (if 0 ≤ x5 then (if (rdI x0 x5) = x1 then (laws_heldIntS.l0 k x0 (wrap64 (x1 + 1)) (wrap64 (x5 + 1))) else (some (-1))) else none) else (some x1))
def laws_heldIntS.f (k : Nat) (l0 : List Int) (a1 : Int) : Option (Int) := (laws_heldIntS.l0 k l0 a1 0)
def laws_heldIntS.en (r : Int) : Res := (.int .i64 r, [])
def laws_heldIntS.dec : List AV → List R.Obj → Option ((List Int) × Int)
  | [.imm (.I .i64 l0), .int .i64 a1], [] => some (l0, a1)
  | _, _ => none
def laws_heldIntS.tw : Tw := ⟨30, (List Int) × Int, Int, laws_heldIntS.dec, fun a => [.imm (.I .i64 a.1), .int .i64 a.2], fun a => [], fun k a => laws_heldIntS.f k a.1 a.2, fun a r => laws_heldIntS.en r, true⟩
theorem laws_heldIntS.dok : laws_heldIntS.tw.DecOk := by
  intro args hc a h
  have h : laws_heldIntS.dec args hc = some a := h
  unfold laws_heldIntS.dec at h
  split at h
  · cases h; exact ⟨rfl, rfl⟩
  · cases h
noncomputable def laws_heldIntS.O (k : Nat) : Oracle := noO
def laws_heldIntS.fh : FH := ⟨fun i => match i with | 2 => some [(0, 0), (1, 0), (5, 0)] | _ => none, [], false⟩
noncomputable def laws_heldIntS.x0 (k : Nat) (x0 : List Int) (x1 : Int) (x5 : Int) : Option Res := R.exec Try.prog xhn laws_heldIntS.O 0 Try.f30 laws_heldIntS.fh k (R.point Try.f30 2) ⟨[(0, .imm (.I .i64 x0)), (1, .int .i64 x1), (5, .int .i64 x5)], [], 2⟩
set_option maxRecDepth 100000 in
theorem laws_heldIntS.e0 (k : Nat) (x0 : List Int) (x1 : Int) (x5 : Int) : laws_heldIntS.x0 (k + 1) x0 x1 x5 = (if x5 < (x0.length : Int) then (if 0 ≤ x5 then (if (rdI x0 x5) = x1 then (laws_heldIntS.x0 k x0 (wr64 (x1 + 1)) (wr64 (x5 + 1))) else (some (laws_heldIntS.en (-1)))) else none) else (some (laws_heldIntS.en x1))) := by
  refine Eq.trans ?_ (R.icong (fun h0 => (R.icong (fun h1 => (R.idropT (p := x5 < (x0.length : Int)) (z := none) h0 rfl)) (fun h1 => rfl))) (fun h0 => rfl))
  kernel_rfl
set_option maxRecDepth 100000 in
theorem laws_heldIntS.ef (k : Nat) (l0 : List Int) (a1 : Int) : R.start Try.prog xhn laws_heldIntS.O 0 Try.f30 laws_heldIntS.fh k [.imm (.I .i64 l0), .int .i64 a1] [] = (laws_heldIntS.x0 k l0 a1 0) := by kernel_rfl
theorem laws_heldIntS.link : ∀ k, (∀ (x0 : List Int) (x1 : Int) (x5 : Int), laws_heldIntS.x0 k x0 x1 x5 = (laws_heldIntS.l0 k x0 x1 x5).map (laws_heldIntS.en))
  | 0 => fun _ _ _ => by simp only [laws_heldIntS.l0, R.map_none]; rfl
  | k + 1 => by
    have ih0 := laws_heldIntS.link k
    · intro x0 x1 x5
      rw [laws_heldIntS.e0]
      simp only [laws_heldIntS.l0, R.map_ite, R.map_bind, R.map_none, R.map_some, R.wr64_eq, ← ih0]
theorem laws_heldIntS.sf (k : Nat) (l0 : List Int) (a1 : Int) : R.start Try.prog xhn laws_heldIntS.O 0 Try.f30 laws_heldIntS.fh k [.imm (.I .i64 l0), .int .i64 a1] [] = (laws_heldIntS.f k l0 a1).map (laws_heldIntS.en) := by
  have ih0 := laws_heldIntS.link k
  rw [laws_heldIntS.ef]
  simp only [laws_heldIntS.f, R.map_ite, R.map_bind, R.map_none, R.map_some, R.wr64_eq, ← ih0]
theorem laws_heldIntS.ok (k : Nat) : laws_heldIntS.tw.Ok Try.prog k := by
  intro md hmd a r h
  refine fn_ok (H := xhn) (fh := laws_heldIntS.fh) (O := laws_heldIntS.O) (k := k) Try.func30 (by kernel_rfl) (by kernel_rfl) (fun j _ => noO_sound) (by kernel_rfl) (m := 0) rfl ?_
  refine (laws_heldIntS.sf k a.1 a.2).trans ?_
  exact congrArg (Option.map _) h
def laws_markText.l0 : Nat → Int → ByteArray → Option (ByteArray)
  | 0, _, _ => none
  | k + 1, x0, x3 => (if x0 > 0 then (if (strOfNums [(((wrap64 (48 + (x0.tmod 10)))) % 256)]).size + x3.size ≤ 9223372036854775807 then (laws_markText.l0 k (wrap64 (x0.tdiv 10)) ((strOfNums [(((wrap64 (48 + (x0.tmod 10)))) % 256)]) ++ x3)) else none) else (if 1 + x3.size ≤ 9223372036854775807 then (some ((⟨#[109]⟩ : ByteArray) ++ x3)) else none))
def laws_markText.f (k : Nat) (a0 : Int) : Option (ByteArray) := (if a0 ≤ 0 then (some (⟨#[109, 48]⟩ : ByteArray)) else (laws_markText.l0 k a0 (⟨#[]⟩ : ByteArray)))
def laws_markText.en (r : ByteArray) : Res := (.str r, [])
def laws_markText.dec : List AV → List R.Obj → Option (Int)
  | [.int .i64 a0], [] => some a0
  | _, _ => none
def laws_markText.tw : Tw := ⟨29, Int, ByteArray, laws_markText.dec, fun a => [.int .i64 a], fun a => [], fun k a => laws_markText.f k a, fun a r => laws_markText.en r, true⟩
theorem laws_markText.dok : laws_markText.tw.DecOk := by
  intro args hc a h
  have h : laws_markText.dec args hc = some a := h
  unfold laws_markText.dec at h
  split at h
  · cases h; exact ⟨rfl, rfl⟩
  · cases h
noncomputable def laws_markText.O (k : Nat) : Oracle := noO
def laws_markText.fh : FH := ⟨fun i => match i with | 4 => some [(0, 0), (3, 0)] | _ => none, [], false⟩
noncomputable def laws_markText.x0 (k : Nat) (x0 : Int) (x3 : ByteArray) : Option Res := R.exec Try.prog xhn laws_markText.O 0 Try.f29 laws_markText.fh k (R.point Try.f29 4) ⟨[(0, .int .i64 x0), (3, .str x3)], [], 2⟩
set_option maxRecDepth 100000 in
theorem laws_markText.e0 (k : Nat) (x0 : Int) (x3 : ByteArray) : laws_markText.x0 (k + 1) x0 x3 = (if x0 > 0 then (if (strOfNums [(((wr64 (48 + (x0.tmod 10)))) % 256)]).size + x3.size ≤ 9223372036854775807 then (laws_markText.x0 k (wr64 (x0.tdiv 10)) ((strOfNums [(((wr64 (48 + (x0.tmod 10)))) % 256)]) ++ x3)) else none) else (if 1 + x3.size ≤ 9223372036854775807 then (some (laws_markText.en ((⟨#[109]⟩ : ByteArray) ++ x3))) else none)) := by kernel_rfl
set_option maxRecDepth 100000 in
theorem laws_markText.ef (k : Nat) (a0 : Int) : R.start Try.prog xhn laws_markText.O 0 Try.f29 laws_markText.fh k [.int .i64 a0] [] = (if a0 ≤ 0 then (some (laws_markText.en (⟨#[109, 48]⟩ : ByteArray))) else (laws_markText.x0 k a0 (⟨#[]⟩ : ByteArray))) := by kernel_rfl
theorem laws_markText.link : ∀ k, (∀ (x0 : Int) (x3 : ByteArray), laws_markText.x0 k x0 x3 = (laws_markText.l0 k x0 x3).map (laws_markText.en))
  | 0 => fun _ _ => by simp only [laws_markText.l0, R.map_none]; rfl
  | k + 1 => by
    have ih0 := laws_markText.link k
    · intro x0 x3
      rw [laws_markText.e0]
      simp only [laws_markText.l0, R.map_ite, R.map_bind, R.map_none, R.map_some, R.wr64_eq, ← ih0]
theorem laws_markText.sf (k : Nat) (a0 : Int) : R.start Try.prog xhn laws_markText.O 0 Try.f29 laws_markText.fh k [.int .i64 a0] [] = (laws_markText.f k a0).map (laws_markText.en) := by
  have ih0 := laws_markText.link k
  rw [laws_markText.ef]
  simp only [laws_markText.f, R.map_ite, R.map_bind, R.map_none, R.map_some, R.wr64_eq, ← ih0]
theorem laws_markText.ok (k : Nat) : laws_markText.tw.Ok Try.prog k := by
  intro md hmd a r h
  refine fn_ok (H := xhn) (fh := laws_markText.fh) (O := laws_markText.O) (k := k) Try.func29 (by kernel_rfl) (by kernel_rfl) (fun j _ => noO_sound) (by kernel_rfl) (m := 0) rfl ?_
  refine (laws_markText.sf k a).trans ?_
  exact congrArg (Option.map _) h
def laws_heldElementS.l0 : Nat → (List Elm) → Int → Int → Option (Int)
  | 0, _, _, _ => none
  | k + 1, x0, x1, x5 => (if x5 < (x0.length : Int) then (if 0 ≤ x5 then (if (rdE x0 x5).f0 = x1 then ((laws_heldIntS.f k ((rdE x0 x5).f1) (wrap64 (x1 + 1))).bind fun t1 => (if t1 < 0 then (some (-1)) else ((laws_markText.f k t1).bind fun t2 => (if (rdE x0 x5).f2.toList = t2.toList then (laws_heldElementS.l0 k x0 (wrap64 (t1 + 1)) (wrap64 (x5 + 1))) else (some (-1)))))) else (some (-1))) else none) else (some x1))
def laws_heldElementS.f (k : Nat) (l0 : List Elm) (a1 : Int) : Option (Int) := (laws_heldElementS.l0 k l0 a1 0)
def laws_heldElementS.en (r : Int) : Res := (.int .i64 r, [])
def laws_heldElementS.dec : List AV → List R.Obj → Option ((List Elm) × Int)
  | [.imm (.E l0), .int .i64 a1], [] => some (l0, a1)
  | _, _ => none
def laws_heldElementS.tw : Tw := ⟨12, (List Elm) × Int, Int, laws_heldElementS.dec, fun a => [.imm (.E a.1), .int .i64 a.2], fun a => [], fun k a => laws_heldElementS.f k a.1 a.2, fun a r => laws_heldElementS.en r, true⟩
theorem laws_heldElementS.dok : laws_heldElementS.tw.DecOk := by
  intro args hc a h
  have h : laws_heldElementS.dec args hc = some a := h
  unfold laws_heldElementS.dec at h
  split at h
  · cases h; exact ⟨rfl, rfl⟩
  · cases h
noncomputable def laws_heldElementS.O (k : Nat) : Oracle := (laws_heldIntS.tw.orc k (laws_markText.tw.orc k noO))
def laws_heldElementS.fh : FH := ⟨fun i => match i with | 2 => some [(0, 0), (1, 0), (5, 0)] | _ => none, [], false⟩
noncomputable def laws_heldElementS.x0 (k : Nat) (x0 : List Elm) (x1 : Int) (x5 : Int) : Option Res := R.exec Try.prog xhn laws_heldElementS.O 0 Try.f12 laws_heldElementS.fh k (R.point Try.f12 2) ⟨[(0, .imm (.E x0)), (1, .int .i64 x1), (5, .int .i64 x5)], [], 2⟩
set_option maxRecDepth 100000 in
theorem laws_heldElementS.e0 (k : Nat) (x0 : List Elm) (x1 : Int) (x5 : Int) : laws_heldElementS.x0 (k + 1) x0 x1 x5 = (if x5 < (x0.length : Int) then (if 0 ≤ x5 then (if (rdE x0 x5).f0 = x1 then ((laws_heldIntS.f k ((rdE x0 x5).f1) (wr64 (x1 + 1))).bind fun t1 => (if t1 < 0 then (some (laws_heldElementS.en (-1))) else ((laws_markText.f k t1).bind fun t2 => (if (rdE x0 x5).f2.toList = t2.toList then (laws_heldElementS.x0 k x0 (wr64 (t1 + 1)) (wr64 (x5 + 1))) else (some (laws_heldElementS.en (-1))))))) else (some (laws_heldElementS.en (-1)))) else none) else (some (laws_heldElementS.en x1))) := by
  refine Eq.trans ?_ (R.icong (fun h0 => (R.icong (fun h1 => (R.idropT (p := x5 < (x0.length : Int)) (z := none) h0 (R.icong (fun h2 => (R.idropT (p := 0 ≤ x5) (z := none) h1 (R.idropT (p := x5 < (x0.length : Int)) (z := none) h0 (R.bcong fun t1 => (R.icong (fun h3 => rfl) (fun h3 => (R.idropT (p := 0 ≤ x5) (z := none) h1 (R.idropT (p := x5 < (x0.length : Int)) (z := none) h0 rfl)))))))) (fun h2 => rfl)))) (fun h1 => rfl))) (fun h0 => rfl))
  kernel_rfl
set_option maxRecDepth 100000 in
theorem laws_heldElementS.ef (k : Nat) (l0 : List Elm) (a1 : Int) : R.start Try.prog xhn laws_heldElementS.O 0 Try.f12 laws_heldElementS.fh k [.imm (.E l0), .int .i64 a1] [] = (laws_heldElementS.x0 k l0 a1 0) := by kernel_rfl
theorem laws_heldElementS.link : ∀ k, (∀ (x0 : List Elm) (x1 : Int) (x5 : Int), laws_heldElementS.x0 k x0 x1 x5 = (laws_heldElementS.l0 k x0 x1 x5).map (laws_heldElementS.en))
  | 0 => fun _ _ _ => by simp only [laws_heldElementS.l0, R.map_none]; rfl
  | k + 1 => by
    have ih0 := laws_heldElementS.link k
    · intro x0 x1 x5
      rw [laws_heldElementS.e0]
      simp only [laws_heldElementS.l0, R.map_ite, R.map_bind, R.map_none, R.map_some, R.wr64_eq, ← ih0]
theorem laws_heldElementS.sf (k : Nat) (l0 : List Elm) (a1 : Int) : R.start Try.prog xhn laws_heldElementS.O 0 Try.f12 laws_heldElementS.fh k [.imm (.E l0), .int .i64 a1] [] = (laws_heldElementS.f k l0 a1).map (laws_heldElementS.en) := by
  have ih0 := laws_heldElementS.link k
  rw [laws_heldElementS.ef]
  simp only [laws_heldElementS.f, R.map_ite, R.map_bind, R.map_none, R.map_some, R.wr64_eq, ← ih0]
theorem laws_heldElementS.ok (k : Nat) : laws_heldElementS.tw.Ok Try.prog k := by
  intro md hmd a r h
  refine fn_ok (H := xhn) (fh := laws_heldElementS.fh) (O := laws_heldElementS.O) (k := k) Try.func12 (by kernel_rfl) (by kernel_rfl) (fun j _ => (Tw.orc_sound laws_heldIntS.dok (laws_heldIntS.ok j) (fun _ => rfl) (Tw.orc_sound laws_markText.dok (laws_markText.ok j) (fun _ => rfl) noO_sound))) (by kernel_rfl) (m := 0) rfl ?_
  refine (laws_heldElementS.sf k a.1 a.2).trans ?_
  exact congrArg (Option.map _) h
def laws_markIntS.l0 : Nat → (List Int) → Int → Int → Option (Int × (List Int))
  | 0, _, _, _ => none
  | k + 1, y0, x1, x5 => (if x5 < (y0.length : Int) then (if 0 ≤ x5 then (laws_markIntS.l0 k (y0.set x5.toNat x1) (wrap64 (x1 + 1)) (wrap64 (x5 + 1))) else none) else (some (x1, y0)))
def laws_markIntS.f (k : Nat) (l2 : List Int) (a1 : Int) : Option (Int × (List Int)) := (laws_markIntS.l0 k l2 a1 0)
def laws_markIntS.en (r : Int × (List Int)) : Res := (.int .i64 r.1, [.arr 3 0 (.I .i64 r.2) false])
def laws_markIntS.dec : List AV → List R.Obj → Option ((List Int) × Int)
  | [.sl 0 0, .int .i64 a1], [.arr 3 0 (.I .i64 l2) false] => some (l2, a1)
  | _, _ => none
def laws_markIntS.tw : Tw := ⟨27, (List Int) × Int, Int × (List Int), laws_markIntS.dec, fun a => [.sl 0 0, .int .i64 a.2], fun a => [.arr 3 0 (.I .i64 a.1) false], fun k a => laws_markIntS.f k a.1 a.2, fun a r => laws_markIntS.en r, true⟩
theorem laws_markIntS.dok : laws_markIntS.tw.DecOk := by
  intro args hc a h
  have h : laws_markIntS.dec args hc = some a := h
  unfold laws_markIntS.dec at h
  split at h
  · cases h; exact ⟨rfl, rfl⟩
  · cases h
noncomputable def laws_markIntS.O (k : Nat) : Oracle := noO
def laws_markIntS.fh : FH := ⟨fun i => match i with | 2 => some [(0, 0), (1, 0), (5, 0)] | _ => none, [], false⟩
noncomputable def laws_markIntS.x0 (k : Nat) (y0 : List Int) (x1 : Int) (x5 : Int) : Option Res := R.exec Try.prog xhn laws_markIntS.O 1 Try.f27 laws_markIntS.fh k (R.point Try.f27 2) ⟨[(0, .sl 0 0), (1, .int .i64 x1), (5, .int .i64 x5)], [(0, .arr 3 0 (.I .i64 y0) false)], 3⟩
set_option maxRecDepth 100000 in
theorem laws_markIntS.e0 (k : Nat) (y0 : List Int) (x1 : Int) (x5 : Int) : laws_markIntS.x0 (k + 1) y0 x1 x5 = (if x5 < (y0.length : Int) then (if 0 ≤ x5 then (laws_markIntS.x0 k (y0.set x5.toNat x1) (wr64 (x1 + 1)) (wr64 (x5 + 1))) else none) else (some (laws_markIntS.en (x1, y0)))) := by
  refine Eq.trans ?_ (R.icong (fun h0 => (R.icong (fun h1 => (R.idropT (p := x5 < (y0.length : Int)) (z := none) h0 rfl)) (fun h1 => rfl))) (fun h0 => rfl))
  kernel_rfl
set_option maxRecDepth 100000 in
theorem laws_markIntS.ef (k : Nat) (l2 : List Int) (a1 : Int) : R.start Try.prog xhn laws_markIntS.O 1 Try.f27 laws_markIntS.fh k [.sl 0 0, .int .i64 a1] [.arr 3 0 (.I .i64 l2) false] = (laws_markIntS.x0 k l2 a1 0) := by kernel_rfl
theorem laws_markIntS.link : ∀ k, (∀ (y0 : List Int) (x1 : Int) (x5 : Int), laws_markIntS.x0 k y0 x1 x5 = (laws_markIntS.l0 k y0 x1 x5).map (laws_markIntS.en))
  | 0 => fun _ _ _ => by simp only [laws_markIntS.l0, R.map_none]; rfl
  | k + 1 => by
    have ih0 := laws_markIntS.link k
    · intro y0 x1 x5
      rw [laws_markIntS.e0]
      simp only [laws_markIntS.l0, R.map_ite, R.map_bind, R.map_none, R.map_some, R.wr64_eq, ← ih0]
theorem laws_markIntS.sf (k : Nat) (l2 : List Int) (a1 : Int) : R.start Try.prog xhn laws_markIntS.O 1 Try.f27 laws_markIntS.fh k [.sl 0 0, .int .i64 a1] [.arr 3 0 (.I .i64 l2) false] = (laws_markIntS.f k l2 a1).map (laws_markIntS.en) := by
  have ih0 := laws_markIntS.link k
  rw [laws_markIntS.ef]
  simp only [laws_markIntS.f, R.map_ite, R.map_bind, R.map_none, R.map_some, R.wr64_eq, ← ih0]
theorem laws_markIntS.ok (k : Nat) : laws_markIntS.tw.Ok Try.prog k := by
  intro md hmd a r h
  refine fn_ok (H := xhn) (fh := laws_markIntS.fh) (O := laws_markIntS.O) (k := k) Try.func27 (by kernel_rfl) (by kernel_rfl) (fun j _ => noO_sound) (by kernel_rfl) (m := 1) rfl ?_
  refine (laws_markIntS.sf k a.1 a.2).trans ?_
  exact congrArg (Option.map _) h
def laws_szIntS.f (l0 : List Int) (a1 : Int) : Option (Int) := (if (wrap64 (a1 - (l0.length : Int))) < 0 then (some (-1)) else (some (wrap64 (a1 - (l0.length : Int)))))
def laws_szIntS.en (r : Int) : Res := (.int .i64 r, [])
def laws_szIntS.dec : List AV → List R.Obj → Option ((List Int) × Int)
  | [.imm (.I .i64 l0), .int .i64 a1], [] => some (l0, a1)
  | _, _ => none
def laws_szIntS.tw : Tw := ⟨13, (List Int) × Int, Int, laws_szIntS.dec, fun a => [.imm (.I .i64 a.1), .int .i64 a.2], fun a => [], fun k a => laws_szIntS.f a.1 a.2, fun a r => laws_szIntS.en r, true⟩
theorem laws_szIntS.dok : laws_szIntS.tw.DecOk := by
  intro args hc a h
  have h : laws_szIntS.dec args hc = some a := h
  unfold laws_szIntS.dec at h
  split at h
  · cases h; exact ⟨rfl, rfl⟩
  · cases h
noncomputable def laws_szIntS.O (k : Nat) : Oracle := noO
def laws_szIntS.fh : FH := ⟨fun i => match i with | _ => none, [], false⟩
set_option maxRecDepth 100000 in
theorem laws_szIntS.ef (k : Nat) (l0 : List Int) (a1 : Int) : R.start Try.prog xhn laws_szIntS.O 0 Try.f13 laws_szIntS.fh k [.imm (.I .i64 l0), .int .i64 a1] [] = (if (wr64 (a1 - (l0.length : Int))) < 0 then (some (laws_szIntS.en (-1))) else (some (laws_szIntS.en (wr64 (a1 - (l0.length : Int)))))) := by kernel_rfl
theorem laws_szIntS.sf (k : Nat) (l0 : List Int) (a1 : Int) : R.start Try.prog xhn laws_szIntS.O 0 Try.f13 laws_szIntS.fh k [.imm (.I .i64 l0), .int .i64 a1] [] = (laws_szIntS.f l0 a1).map (laws_szIntS.en) := by
  rw [laws_szIntS.ef]
  simp only [laws_szIntS.f, R.map_ite, R.map_bind, R.map_none, R.map_some, R.wr64_eq]
theorem laws_szIntS.ok (k : Nat) : laws_szIntS.tw.Ok Try.prog k := by
  intro md hmd a r h
  refine fn_ok (H := xhn) (fh := laws_szIntS.fh) (O := laws_szIntS.O) (k := k) Try.func13 (by kernel_rfl) (by kernel_rfl) (fun j _ => noO_sound) (by kernel_rfl) (m := 0) rfl ?_
  refine (laws_szIntS.sf k a.1 a.2).trans ?_
  exact congrArg (Option.map _) h
def laws_szStep.f (a0_0 : Int) (a0_1 : ByteArray) (a0_2 : Int) (a0_3 : Int) (a1 : Int) : Option (Int) := (if (wrap64 (a1 - (a0_1.size : Int))) < 0 then (some (-1)) else (some (wrap64 (a1 - (a0_1.size : Int)))))
def laws_szStep.en (r : Int) : Res := (.int .i64 r, [])
def laws_szStep.dec : List AV → List R.Obj → Option (Int × ByteArray × Int × Int × Int)
  | [.agg [.int .i64 a0_0, .str a0_1, .int .i64 a0_2, .int .i64 a0_3], .int .i64 a1], [] => some (a0_0, a0_1, a0_2, a0_3, a1)
  | _, _ => none
def laws_szStep.tw : Tw := ⟨31, Int × ByteArray × Int × Int × Int, Int, laws_szStep.dec, fun a => [.agg [.int .i64 a.1, .str a.2.1, .int .i64 a.2.2.1, .int .i64 a.2.2.2.1], .int .i64 a.2.2.2.2], fun a => [], fun k a => laws_szStep.f a.1 a.2.1 a.2.2.1 a.2.2.2.1 a.2.2.2.2, fun a r => laws_szStep.en r, true⟩
theorem laws_szStep.dok : laws_szStep.tw.DecOk := by
  intro args hc a h
  have h : laws_szStep.dec args hc = some a := h
  unfold laws_szStep.dec at h
  split at h
  · cases h; exact ⟨rfl, rfl⟩
  · cases h
noncomputable def laws_szStep.O (k : Nat) : Oracle := noO
def laws_szStep.fh : FH := ⟨fun i => match i with | _ => none, [], false⟩
set_option maxRecDepth 100000 in
theorem laws_szStep.ef (k : Nat) (a0_0 : Int) (a0_1 : ByteArray) (a0_2 : Int) (a0_3 : Int) (a1 : Int) : R.start Try.prog xhn laws_szStep.O 0 Try.f31 laws_szStep.fh k [.agg [.int .i64 a0_0, .str a0_1, .int .i64 a0_2, .int .i64 a0_3], .int .i64 a1] [] = (if (wr64 (a1 - (a0_1.size : Int))) < 0 then (some (laws_szStep.en (-1))) else (some (laws_szStep.en (wr64 (a1 - (a0_1.size : Int)))))) := by kernel_rfl
theorem laws_szStep.sf (k : Nat) (a0_0 : Int) (a0_1 : ByteArray) (a0_2 : Int) (a0_3 : Int) (a1 : Int) : R.start Try.prog xhn laws_szStep.O 0 Try.f31 laws_szStep.fh k [.agg [.int .i64 a0_0, .str a0_1, .int .i64 a0_2, .int .i64 a0_3], .int .i64 a1] [] = (laws_szStep.f a0_0 a0_1 a0_2 a0_3 a1).map (laws_szStep.en) := by
  rw [laws_szStep.ef]
  simp only [laws_szStep.f, R.map_ite, R.map_bind, R.map_none, R.map_some, R.wr64_eq]
theorem laws_szStep.ok (k : Nat) : laws_szStep.tw.Ok Try.prog k := by
  intro md hmd a r h
  refine fn_ok (H := xhn) (fh := laws_szStep.fh) (O := laws_szStep.O) (k := k) Try.func31 (by kernel_rfl) (by kernel_rfl) (fun j _ => noO_sound) (by kernel_rfl) (m := 0) rfl ?_
  refine (laws_szStep.sf k a.1 a.2.1 a.2.2.1 a.2.2.2.1 a.2.2.2.2).trans ?_
  exact congrArg (Option.map _) h
def laws_szStepS.l0 : Nat → (List Stp) → Int → Int → Option (Int)
  | 0, _, _, _ => none
  | k + 1, x0, x1, x5 => (if x5 < (x0.length : Int) then (if 0 ≤ x5 then ((laws_szStep.f ((rdT x0 x5).f0) ((rdT x0 x5).f1) ((rdT x0 x5).f2) ((rdT x0 x5).f3) x1).bind fun t1 => (if t1 < 0 then (some (-1)) else (laws_szStepS.l0 k x0 t1 (wrap64 (x5 + 1))))) else none) else (some x1))
def laws_szStepS.f (k : Nat) (l0 : List Stp) (a1 : Int) : Option (Int) := (if (wrap64 (a1 - (l0.length : Int))) < 0 then (some (-1)) else (laws_szStepS.l0 k l0 (wrap64 (a1 - (l0.length : Int))) 0))
def laws_szStepS.en (r : Int) : Res := (.int .i64 r, [])
def laws_szStepS.dec : List AV → List R.Obj → Option ((List Stp) × Int)
  | [.imm (.T l0), .int .i64 a1], [] => some (l0, a1)
  | _, _ => none
def laws_szStepS.tw : Tw := ⟨14, (List Stp) × Int, Int, laws_szStepS.dec, fun a => [.imm (.T a.1), .int .i64 a.2], fun a => [], fun k a => laws_szStepS.f k a.1 a.2, fun a r => laws_szStepS.en r, true⟩
theorem laws_szStepS.dok : laws_szStepS.tw.DecOk := by
  intro args hc a h
  have h : laws_szStepS.dec args hc = some a := h
  unfold laws_szStepS.dec at h
  split at h
  · cases h; exact ⟨rfl, rfl⟩
  · cases h
noncomputable def laws_szStepS.O (k : Nat) : Oracle := (laws_szStep.tw.orc k noO)
def laws_szStepS.fh : FH := ⟨fun i => match i with | 5 => some [(0, 0), (1, 0), (5, 0)] | _ => none, [], false⟩
noncomputable def laws_szStepS.x0 (k : Nat) (x0 : List Stp) (x1 : Int) (x5 : Int) : Option Res := R.exec Try.prog xhn laws_szStepS.O 0 Try.f14 laws_szStepS.fh k (R.point Try.f14 5) ⟨[(0, .imm (.T x0)), (1, .int .i64 x1), (5, .int .i64 x5)], [], 2⟩
set_option maxRecDepth 100000 in
theorem laws_szStepS.e0 (k : Nat) (x0 : List Stp) (x1 : Int) (x5 : Int) : laws_szStepS.x0 (k + 1) x0 x1 x5 = (if x5 < (x0.length : Int) then (if 0 ≤ x5 then ((laws_szStep.f ((rdT x0 x5).f0) ((rdT x0 x5).f1) ((rdT x0 x5).f2) ((rdT x0 x5).f3) x1).bind fun t1 => (if t1 < 0 then (some (laws_szStepS.en (-1))) else (laws_szStepS.x0 k x0 t1 (wr64 (x5 + 1))))) else none) else (some (laws_szStepS.en x1))) := by
  refine Eq.trans ?_ (R.icong (fun h0 => (R.icong (fun h1 => (R.idropT (p := x5 < (x0.length : Int)) (z := none) h0 rfl)) (fun h1 => rfl))) (fun h0 => rfl))
  kernel_rfl
set_option maxRecDepth 100000 in
theorem laws_szStepS.ef (k : Nat) (l0 : List Stp) (a1 : Int) : R.start Try.prog xhn laws_szStepS.O 0 Try.f14 laws_szStepS.fh k [.imm (.T l0), .int .i64 a1] [] = (if (wr64 (a1 - (l0.length : Int))) < 0 then (some (laws_szStepS.en (-1))) else (laws_szStepS.x0 k l0 (wr64 (a1 - (l0.length : Int))) 0)) := by kernel_rfl
theorem laws_szStepS.link : ∀ k, (∀ (x0 : List Stp) (x1 : Int) (x5 : Int), laws_szStepS.x0 k x0 x1 x5 = (laws_szStepS.l0 k x0 x1 x5).map (laws_szStepS.en))
  | 0 => fun _ _ _ => by simp only [laws_szStepS.l0, R.map_none]; rfl
  | k + 1 => by
    have ih0 := laws_szStepS.link k
    · intro x0 x1 x5
      rw [laws_szStepS.e0]
      simp only [laws_szStepS.l0, R.map_ite, R.map_bind, R.map_none, R.map_some, R.wr64_eq, ← ih0]
theorem laws_szStepS.sf (k : Nat) (l0 : List Stp) (a1 : Int) : R.start Try.prog xhn laws_szStepS.O 0 Try.f14 laws_szStepS.fh k [.imm (.T l0), .int .i64 a1] [] = (laws_szStepS.f k l0 a1).map (laws_szStepS.en) := by
  have ih0 := laws_szStepS.link k
  rw [laws_szStepS.ef]
  simp only [laws_szStepS.f, R.map_ite, R.map_bind, R.map_none, R.map_some, R.wr64_eq, ← ih0]
theorem laws_szStepS.ok (k : Nat) : laws_szStepS.tw.Ok Try.prog k := by
  intro md hmd a r h
  refine fn_ok (H := xhn) (fh := laws_szStepS.fh) (O := laws_szStepS.O) (k := k) Try.func14 (by kernel_rfl) (by kernel_rfl) (fun j _ => (Tw.orc_sound laws_szStep.dok (laws_szStep.ok j) (fun _ => rfl) noO_sound)) (by kernel_rfl) (m := 0) rfl ?_
  refine (laws_szStepS.sf k a.1 a.2).trans ?_
  exact congrArg (Option.map _) h
def laws_szAutomaton.f (k : Nat) (a0_0 : Int) (l0_1 : List Int) (l0_2 : List Int) (l0_3 : List Stp) (a1 : Int) : Option (Int) := ((laws_szIntS.f l0_1 a1).bind fun t1 => (if t1 < 0 then (some (-1)) else ((laws_szIntS.f l0_2 t1).bind fun t2 => (if t2 < 0 then (some (-1)) else ((laws_szStepS.f k l0_3 t2).bind fun t3 => (if t3 < 0 then (some (-1)) else (some t3)))))))
def laws_szAutomaton.en (r : Int) : Res := (.int .i64 r, [])
def laws_szAutomaton.dec : List AV → List R.Obj → Option (Int × (List Int) × (List Int) × (List Stp) × Int)
  | [.agg [.int .i64 a0_0, .imm (.I .i64 l0_1), .imm (.I .i64 l0_2), .imm (.T l0_3)], .int .i64 a1], [] => some (a0_0, l0_1, l0_2, l0_3, a1)
  | _, _ => none
def laws_szAutomaton.tw : Tw := ⟨4, Int × (List Int) × (List Int) × (List Stp) × Int, Int, laws_szAutomaton.dec, fun a => [.agg [.int .i64 a.1, .imm (.I .i64 a.2.1), .imm (.I .i64 a.2.2.1), .imm (.T a.2.2.2.1)], .int .i64 a.2.2.2.2], fun a => [], fun k a => laws_szAutomaton.f k a.1 a.2.1 a.2.2.1 a.2.2.2.1 a.2.2.2.2, fun a r => laws_szAutomaton.en r, true⟩
theorem laws_szAutomaton.dok : laws_szAutomaton.tw.DecOk := by
  intro args hc a h
  have h : laws_szAutomaton.dec args hc = some a := h
  unfold laws_szAutomaton.dec at h
  split at h
  · cases h; exact ⟨rfl, rfl⟩
  · cases h
noncomputable def laws_szAutomaton.O (k : Nat) : Oracle := (laws_szIntS.tw.orc k (laws_szStepS.tw.orc k noO))
def laws_szAutomaton.fh : FH := ⟨fun i => match i with | _ => none, [], false⟩
set_option maxRecDepth 100000 in
theorem laws_szAutomaton.ef (k : Nat) (a0_0 : Int) (l0_1 : List Int) (l0_2 : List Int) (l0_3 : List Stp) (a1 : Int) : R.start Try.prog xhn laws_szAutomaton.O 0 Try.f4 laws_szAutomaton.fh k [.agg [.int .i64 a0_0, .imm (.I .i64 l0_1), .imm (.I .i64 l0_2), .imm (.T l0_3)], .int .i64 a1] [] = ((laws_szIntS.f l0_1 a1).bind fun t1 => (if t1 < 0 then (some (laws_szAutomaton.en (-1))) else ((laws_szIntS.f l0_2 t1).bind fun t2 => (if t2 < 0 then (some (laws_szAutomaton.en (-1))) else ((laws_szStepS.f k l0_3 t2).bind fun t3 => (if t3 < 0 then (some (laws_szAutomaton.en (-1))) else (some (laws_szAutomaton.en t3)))))))) := by kernel_rfl
theorem laws_szAutomaton.sf (k : Nat) (a0_0 : Int) (l0_1 : List Int) (l0_2 : List Int) (l0_3 : List Stp) (a1 : Int) : R.start Try.prog xhn laws_szAutomaton.O 0 Try.f4 laws_szAutomaton.fh k [.agg [.int .i64 a0_0, .imm (.I .i64 l0_1), .imm (.I .i64 l0_2), .imm (.T l0_3)], .int .i64 a1] [] = (laws_szAutomaton.f k a0_0 l0_1 l0_2 l0_3 a1).map (laws_szAutomaton.en) := by
  rw [laws_szAutomaton.ef]
  simp only [laws_szAutomaton.f, R.map_ite, R.map_bind, R.map_none, R.map_some, R.wr64_eq]
theorem laws_szAutomaton.ok (k : Nat) : laws_szAutomaton.tw.Ok Try.prog k := by
  intro md hmd a r h
  refine fn_ok (H := xhn) (fh := laws_szAutomaton.fh) (O := laws_szAutomaton.O) (k := k) Try.func4 (by kernel_rfl) (by kernel_rfl) (fun j _ => (Tw.orc_sound laws_szIntS.dok (laws_szIntS.ok j) (fun _ => rfl) (Tw.orc_sound laws_szStepS.dok (laws_szStepS.ok j) (fun _ => rfl) noO_sound))) (by kernel_rfl) (m := 0) rfl ?_
  refine (laws_szAutomaton.sf k a.1 a.2.1 a.2.2.1 a.2.2.2.1 a.2.2.2.2).trans ?_
  exact congrArg (Option.map _) h
def laws_toIntS.l0 : Nat → (List Int) → (List Int) → Int → Option (List Int)
  | 0, _, _, _ => none
  | k + 1, x0, y0, x4 => (if x4 < (x0.length : Int) then (if 0 ≤ x4 then (if x4 < (y0.length : Int) then (laws_toIntS.l0 k x0 (y0.set x4.toNat (rdI x0 x4)) (wrap64 (x4 + 1))) else none) else none) else (some y0))
def laws_toIntS.f (k : Nat) (l0 : List Int) : Option (List Int) := (if 0 ≤ (l0.length : Int) then (if (l0.length : Int).toNat ≤ 17592186044416 then (laws_toIntS.l0 k l0 (List.replicate (l0.length : Int).toNat 0) 0) else none) else none)
def laws_toIntS.en (r : List Int) : Res := (.sl 0 0, [.arr 3 0 (.I .i64 r) false])
def laws_toIntS.dec : List AV → List R.Obj → Option (List Int)
  | [.imm (.I .i64 l0)], [] => some l0
  | _, _ => none
def laws_toIntS.tw : Tw := ⟨17, List Int, List Int, laws_toIntS.dec, fun a => [.imm (.I .i64 a)], fun a => [], fun k a => laws_toIntS.f k a, fun a r => laws_toIntS.en r, true⟩
theorem laws_toIntS.dok : laws_toIntS.tw.DecOk := by
  intro args hc a h
  have h : laws_toIntS.dec args hc = some a := h
  unfold laws_toIntS.dec at h
  split at h
  · cases h; exact ⟨rfl, rfl⟩
  · cases h
noncomputable def laws_toIntS.O (k : Nat) : Oracle := noO
def laws_toIntS.fh : FH := ⟨fun i => match i with | 3 => some [(0, 0), (3, 0), (4, 0)] | _ => none, [(true, 3)], false⟩
noncomputable def laws_toIntS.x0 (k : Nat) (x0 : List Int) (y0 : List Int) (x4 : Int) : Option Res := R.exec Try.prog xhn laws_toIntS.O 0 Try.f17 laws_toIntS.fh k (R.point Try.f17 3) ⟨[(0, .imm (.I .i64 x0)), (3, .sl 0 0), (4, .int .i64 x4)], [(0, .arr 3 0 (.I .i64 y0) false)], 3⟩
set_option maxRecDepth 100000 in
theorem laws_toIntS.e0 (k : Nat) (x0 : List Int) (y0 : List Int) (x4 : Int) : laws_toIntS.x0 (k + 1) x0 y0 x4 = (if x4 < (x0.length : Int) then (if 0 ≤ x4 then (if x4 < (y0.length : Int) then (laws_toIntS.x0 k x0 (y0.set x4.toNat (rdI x0 x4)) (wr64 (x4 + 1))) else none) else none) else (some (laws_toIntS.en y0))) := by
  refine Eq.trans ?_ (R.icong (fun h0 => (R.icong (fun h1 => (R.idropT (p := x4 < (x0.length : Int)) (z := none) h0 (R.idropT (p := 0 ≤ x4) (z := none) h1 rfl))) (fun h1 => rfl))) (fun h0 => rfl))
  kernel_rfl
set_option maxRecDepth 100000 in
theorem laws_toIntS.ef (k : Nat) (l0 : List Int) : R.start Try.prog xhn laws_toIntS.O 0 Try.f17 laws_toIntS.fh k [.imm (.I .i64 l0)] [] = (if 0 ≤ (l0.length : Int) then (if (l0.length : Int).toNat ≤ 17592186044416 then (laws_toIntS.x0 k l0 (List.replicate (l0.length : Int).toNat 0) 0) else none) else none) := by
  refine Eq.trans ?_ (R.icong (fun h0 => (R.idropT (p := (l0.length : Int) = (l0.length : Int)) (z := none) rfl rfl)) (fun h0 => rfl))
  kernel_rfl
theorem laws_toIntS.link : ∀ k, (∀ (x0 : List Int) (y0 : List Int) (x4 : Int), laws_toIntS.x0 k x0 y0 x4 = (laws_toIntS.l0 k x0 y0 x4).map (laws_toIntS.en))
  | 0 => fun _ _ _ => by simp only [laws_toIntS.l0, R.map_none]; rfl
  | k + 1 => by
    have ih0 := laws_toIntS.link k
    · intro x0 y0 x4
      rw [laws_toIntS.e0]
      simp only [laws_toIntS.l0, R.map_ite, R.map_bind, R.map_none, R.map_some, R.wr64_eq, ← ih0]
theorem laws_toIntS.sf (k : Nat) (l0 : List Int) : R.start Try.prog xhn laws_toIntS.O 0 Try.f17 laws_toIntS.fh k [.imm (.I .i64 l0)] [] = (laws_toIntS.f k l0).map (laws_toIntS.en) := by
  have ih0 := laws_toIntS.link k
  rw [laws_toIntS.ef]
  simp only [laws_toIntS.f, R.map_ite, R.map_bind, R.map_none, R.map_some, R.wr64_eq, ← ih0]
theorem laws_toIntS.ok (k : Nat) : laws_toIntS.tw.Ok Try.prog k := by
  intro md hmd a r h
  refine fn_ok (H := xhn) (fh := laws_toIntS.fh) (O := laws_toIntS.O) (k := k) Try.func17 (by kernel_rfl) (by kernel_rfl) (fun j _ => noO_sound) (by kernel_rfl) (m := 0) rfl ?_
  refine (laws_toIntS.sf k a).trans ?_
  exact congrArg (Option.map _) h
def laws_toStep.f (a0_0 : Int) (a0_1 : ByteArray) (a0_2 : Int) (a0_3 : Int) : Option (Int × ByteArray × Int × Int) := (some (a0_0, a0_1, a0_2, a0_3))
def laws_toStep.en (r : Int × ByteArray × Int × Int) : Res := (.agg [.int .i64 r.1, .str r.2.1, .int .i64 r.2.2.1, .int .i64 r.2.2.2], [])
def laws_toStep.dec : List AV → List R.Obj → Option (Int × ByteArray × Int × Int)
  | [.agg [.int .i64 a0_0, .str a0_1, .int .i64 a0_2, .int .i64 a0_3]], [] => some (a0_0, a0_1, a0_2, a0_3)
  | _, _ => none
def laws_toStep.tw : Tw := ⟨35, Int × ByteArray × Int × Int, Int × ByteArray × Int × Int, laws_toStep.dec, fun a => [.agg [.int .i64 a.1, .str a.2.1, .int .i64 a.2.2.1, .int .i64 a.2.2.2]], fun a => [], fun k a => laws_toStep.f a.1 a.2.1 a.2.2.1 a.2.2.2, fun a r => laws_toStep.en r, true⟩
theorem laws_toStep.dok : laws_toStep.tw.DecOk := by
  intro args hc a h
  have h : laws_toStep.dec args hc = some a := h
  unfold laws_toStep.dec at h
  split at h
  · cases h; exact ⟨rfl, rfl⟩
  · cases h
noncomputable def laws_toStep.O (k : Nat) : Oracle := noO
def laws_toStep.fh : FH := ⟨fun i => match i with | _ => none, [], false⟩
set_option maxRecDepth 100000 in
theorem laws_toStep.ef (k : Nat) (a0_0 : Int) (a0_1 : ByteArray) (a0_2 : Int) (a0_3 : Int) : R.start Try.prog xhn laws_toStep.O 0 Try.f35 laws_toStep.fh k [.agg [.int .i64 a0_0, .str a0_1, .int .i64 a0_2, .int .i64 a0_3]] [] = (some (laws_toStep.en (a0_0, a0_1, a0_2, a0_3))) := by kernel_rfl
theorem laws_toStep.sf (k : Nat) (a0_0 : Int) (a0_1 : ByteArray) (a0_2 : Int) (a0_3 : Int) : R.start Try.prog xhn laws_toStep.O 0 Try.f35 laws_toStep.fh k [.agg [.int .i64 a0_0, .str a0_1, .int .i64 a0_2, .int .i64 a0_3]] [] = (laws_toStep.f a0_0 a0_1 a0_2 a0_3).map (laws_toStep.en) := by
  rw [laws_toStep.ef]
  simp only [laws_toStep.f, R.map_ite, R.map_bind, R.map_none, R.map_some, R.wr64_eq]
theorem laws_toStep.ok (k : Nat) : laws_toStep.tw.Ok Try.prog k := by
  intro md hmd a r h
  refine fn_ok (H := xhn) (fh := laws_toStep.fh) (O := laws_toStep.O) (k := k) Try.func35 (by kernel_rfl) (by kernel_rfl) (fun j _ => noO_sound) (by kernel_rfl) (m := 0) rfl ?_
  refine (laws_toStep.sf k a.1 a.2.1 a.2.2.1 a.2.2.2).trans ?_
  exact congrArg (Option.map _) h
def laws_toStepS.l0 : Nat → (List Stp) → (List Stp) → Int → Option (List Stp)
  | 0, _, _, _ => none
  | k + 1, x0, y0, x4 => (if x4 < (x0.length : Int) then (if 0 ≤ x4 then ((laws_toStep.f ((rdT x0 x4).f0) ((rdT x0 x4).f1) ((rdT x0 x4).f2) ((rdT x0 x4).f3)).bind fun t1 => (if x4 < (y0.length : Int) then (laws_toStepS.l0 k x0 (y0.set x4.toNat (⟨t1.1, t1.2.1, t1.2.2.1, t1.2.2.2⟩ : Stp)) (wrap64 (x4 + 1))) else none)) else none) else (some y0))
def laws_toStepS.f (k : Nat) (l0 : List Stp) : Option (List Stp) := (if 0 ≤ (l0.length : Int) then (if (l0.length : Int).toNat ≤ 3518437208883 then (laws_toStepS.l0 k l0 (List.replicate (l0.length : Int).toNat (⟨0, (⟨#[]⟩ : ByteArray), 0, 0⟩ : Stp)) 0) else none) else none)
def laws_toStepS.en (r : List Stp) : Res := (.sl 0 0, [.arr 69 0 (.T r) false])
def laws_toStepS.dec : List AV → List R.Obj → Option (List Stp)
  | [.imm (.T l0)], [] => some l0
  | _, _ => none
def laws_toStepS.tw : Tw := ⟨18, List Stp, List Stp, laws_toStepS.dec, fun a => [.imm (.T a)], fun a => [], fun k a => laws_toStepS.f k a, fun a r => laws_toStepS.en r, true⟩
theorem laws_toStepS.dok : laws_toStepS.tw.DecOk := by
  intro args hc a h
  have h : laws_toStepS.dec args hc = some a := h
  unfold laws_toStepS.dec at h
  split at h
  · cases h; exact ⟨rfl, rfl⟩
  · cases h
noncomputable def laws_toStepS.O (k : Nat) : Oracle := (laws_toStep.tw.orc k noO)
def laws_toStepS.fh : FH := ⟨fun i => match i with | 3 => some [(0, 0), (3, 0), (4, 0)] | _ => none, [(true, 69)], false⟩
noncomputable def laws_toStepS.x0 (k : Nat) (x0 : List Stp) (y0 : List Stp) (x4 : Int) : Option Res := R.exec Try.prog xhn laws_toStepS.O 0 Try.f18 laws_toStepS.fh k (R.point Try.f18 3) ⟨[(0, .imm (.T x0)), (3, .sl 0 0), (4, .int .i64 x4)], [(0, .arr 69 0 (.T y0) false)], 3⟩
set_option maxRecDepth 100000 in
theorem laws_toStepS.e0 (k : Nat) (x0 : List Stp) (y0 : List Stp) (x4 : Int) : laws_toStepS.x0 (k + 1) x0 y0 x4 = (if x4 < (x0.length : Int) then (if 0 ≤ x4 then ((laws_toStep.f ((rdT x0 x4).f0) ((rdT x0 x4).f1) ((rdT x0 x4).f2) ((rdT x0 x4).f3)).bind fun t1 => (if x4 < (y0.length : Int) then (laws_toStepS.x0 k x0 (y0.set x4.toNat (⟨t1.1, t1.2.1, t1.2.2.1, t1.2.2.2⟩ : Stp)) (wr64 (x4 + 1))) else none)) else none) else (some (laws_toStepS.en y0))) := by
  refine Eq.trans ?_ (R.icong (fun h0 => (R.icong (fun h1 => (R.idropT (p := x4 < (x0.length : Int)) (z := none) h0 (R.bcong fun t1 => (R.idropT (p := 0 ≤ x4) (z := none) h1 rfl)))) (fun h1 => rfl))) (fun h0 => rfl))
  kernel_rfl
set_option maxRecDepth 100000 in
theorem laws_toStepS.ef (k : Nat) (l0 : List Stp) : R.start Try.prog xhn laws_toStepS.O 0 Try.f18 laws_toStepS.fh k [.imm (.T l0)] [] = (if 0 ≤ (l0.length : Int) then (if (l0.length : Int).toNat ≤ 3518437208883 then (laws_toStepS.x0 k l0 (List.replicate (l0.length : Int).toNat (⟨0, (⟨#[]⟩ : ByteArray), 0, 0⟩ : Stp)) 0) else none) else none) := by
  refine Eq.trans ?_ (R.icong (fun h0 => (R.idropT (p := (l0.length : Int) = (l0.length : Int)) (z := none) rfl rfl)) (fun h0 => rfl))
  kernel_rfl
theorem laws_toStepS.link : ∀ k, (∀ (x0 : List Stp) (y0 : List Stp) (x4 : Int), laws_toStepS.x0 k x0 y0 x4 = (laws_toStepS.l0 k x0 y0 x4).map (laws_toStepS.en))
  | 0 => fun _ _ _ => by simp only [laws_toStepS.l0, R.map_none]; rfl
  | k + 1 => by
    have ih0 := laws_toStepS.link k
    · intro x0 y0 x4
      rw [laws_toStepS.e0]
      simp only [laws_toStepS.l0, R.map_ite, R.map_bind, R.map_none, R.map_some, R.wr64_eq, ← ih0]
theorem laws_toStepS.sf (k : Nat) (l0 : List Stp) : R.start Try.prog xhn laws_toStepS.O 0 Try.f18 laws_toStepS.fh k [.imm (.T l0)] [] = (laws_toStepS.f k l0).map (laws_toStepS.en) := by
  have ih0 := laws_toStepS.link k
  rw [laws_toStepS.ef]
  simp only [laws_toStepS.f, R.map_ite, R.map_bind, R.map_none, R.map_some, R.wr64_eq, ← ih0]
theorem laws_toStepS.ok (k : Nat) : laws_toStepS.tw.Ok Try.prog k := by
  intro md hmd a r h
  refine fn_ok (H := xhn) (fh := laws_toStepS.fh) (O := laws_toStepS.O) (k := k) Try.func18 (by kernel_rfl) (by kernel_rfl) (fun j _ => (Tw.orc_sound laws_toStep.dok (laws_toStep.ok j) (fun _ => rfl) noO_sound)) (by kernel_rfl) (m := 0) rfl ?_
  refine (laws_toStepS.sf k a).trans ?_
  exact congrArg (Option.map _) h
def laws_toAutomaton.f (k : Nat) (a0_0 : Int) (l0_1 : List Int) (l0_2 : List Int) (l0_3 : List Stp) : Option (Int × (List Int) × (List Int) × (List Stp)) := ((laws_toIntS.f k l0_1).bind fun t1 => ((laws_toIntS.f k l0_2).bind fun t2 => ((laws_toStepS.f k l0_3).bind fun t3 => (some (a0_0, t1, t2, t3)))))
def laws_toAutomaton.en (r : Int × (List Int) × (List Int) × (List Stp)) : Res := (.agg [.int .i64 r.1, .sl 0 0, .sl 1 0, .sl 2 0], [.arr 3 0 (.I .i64 r.2.1) false, .arr 3 0 (.I .i64 r.2.2.1) false, .arr 69 0 (.T r.2.2.2) false])
def laws_toAutomaton.dec : List AV → List R.Obj → Option (Int × (List Int) × (List Int) × (List Stp))
  | [.agg [.int .i64 a0_0, .imm (.I .i64 l0_1), .imm (.I .i64 l0_2), .imm (.T l0_3)]], [] => some (a0_0, l0_1, l0_2, l0_3)
  | _, _ => none
def laws_toAutomaton.tw : Tw := ⟨6, Int × (List Int) × (List Int) × (List Stp), Int × (List Int) × (List Int) × (List Stp), laws_toAutomaton.dec, fun a => [.agg [.int .i64 a.1, .imm (.I .i64 a.2.1), .imm (.I .i64 a.2.2.1), .imm (.T a.2.2.2)]], fun a => [], fun k a => laws_toAutomaton.f k a.1 a.2.1 a.2.2.1 a.2.2.2, fun a r => laws_toAutomaton.en r, true⟩
theorem laws_toAutomaton.dok : laws_toAutomaton.tw.DecOk := by
  intro args hc a h
  have h : laws_toAutomaton.dec args hc = some a := h
  unfold laws_toAutomaton.dec at h
  split at h
  · cases h; exact ⟨rfl, rfl⟩
  · cases h
noncomputable def laws_toAutomaton.O (k : Nat) : Oracle := (laws_toIntS.tw.orc k (laws_toStepS.tw.orc k noO))
def laws_toAutomaton.fh : FH := ⟨fun i => match i with | _ => none, [(true, 3), (true, 3), (true, 69)], false⟩
set_option maxRecDepth 100000 in
theorem laws_toAutomaton.ef (k : Nat) (a0_0 : Int) (l0_1 : List Int) (l0_2 : List Int) (l0_3 : List Stp) : R.start Try.prog xhn laws_toAutomaton.O 0 Try.f6 laws_toAutomaton.fh k [.agg [.int .i64 a0_0, .imm (.I .i64 l0_1), .imm (.I .i64 l0_2), .imm (.T l0_3)]] [] = ((laws_toIntS.f k l0_1).bind fun t1 => ((laws_toIntS.f k l0_2).bind fun t2 => ((laws_toStepS.f k l0_3).bind fun t3 => (some (laws_toAutomaton.en (a0_0, t1, t2, t3)))))) := by kernel_rfl
theorem laws_toAutomaton.sf (k : Nat) (a0_0 : Int) (l0_1 : List Int) (l0_2 : List Int) (l0_3 : List Stp) : R.start Try.prog xhn laws_toAutomaton.O 0 Try.f6 laws_toAutomaton.fh k [.agg [.int .i64 a0_0, .imm (.I .i64 l0_1), .imm (.I .i64 l0_2), .imm (.T l0_3)]] [] = (laws_toAutomaton.f k a0_0 l0_1 l0_2 l0_3).map (laws_toAutomaton.en) := by
  rw [laws_toAutomaton.ef]
  simp only [laws_toAutomaton.f, R.map_ite, R.map_bind, R.map_none, R.map_some, R.wr64_eq]
theorem laws_toAutomaton.ok (k : Nat) : laws_toAutomaton.tw.Ok Try.prog k := by
  intro md hmd a r h
  refine fn_ok (H := xhn) (fh := laws_toAutomaton.fh) (O := laws_toAutomaton.O) (k := k) Try.func6 (by kernel_rfl) (by kernel_rfl) (fun j _ => (Tw.orc_sound laws_toIntS.dok (laws_toIntS.ok j) (fun _ => rfl) (Tw.orc_sound laws_toStepS.dok (laws_toStepS.ok j) (fun _ => rfl) noO_sound))) (by kernel_rfl) (m := 0) rfl ?_
  refine (laws_toAutomaton.sf k a.1 a.2.1 a.2.2.1 a.2.2.2).trans ?_
  exact congrArg (Option.map _) h
def spec_l1In.f (a0 : Int) (a1 : Int) (a2 : Int) : Option (Bool) := (if a0 ≥ a1 then (some (decide (a0 ≤ a2))) else (some false))
def spec_l1In.en (r : Bool) : Res := (.lit r, [])
def spec_l1In.dec : List AV → List R.Obj → Option (Int × Int × Int)
  | [.int .i64 a0, .int .i64 a1, .int .i64 a2], [] => some (a0, a1, a2)
  | _, _ => none
def spec_l1In.tw : Tw := ⟨48, Int × Int × Int, Bool, spec_l1In.dec, fun a => [.int .i64 a.1, .int .i64 a.2.1, .int .i64 a.2.2], fun a => [], fun k a => spec_l1In.f a.1 a.2.1 a.2.2, fun a r => spec_l1In.en r, true⟩
theorem spec_l1In.dok : spec_l1In.tw.DecOk := by
  intro args hc a h
  have h : spec_l1In.dec args hc = some a := h
  unfold spec_l1In.dec at h
  split at h
  · cases h; exact ⟨rfl, rfl⟩
  · cases h
noncomputable def spec_l1In.O (k : Nat) : Oracle := noO
def spec_l1In.fh : FH := ⟨fun i => match i with | _ => none, [], false⟩
set_option maxRecDepth 100000 in
theorem spec_l1In.ef (k : Nat) (a0 : Int) (a1 : Int) (a2 : Int) : R.start Try.prog xhn spec_l1In.O 0 Try.f48 spec_l1In.fh k [.int .i64 a0, .int .i64 a1, .int .i64 a2] [] = (if a0 ≥ a1 then (some (spec_l1In.en (decide (a0 ≤ a2)))) else (some (spec_l1In.en false))) := by kernel_rfl
theorem spec_l1In.sf (k : Nat) (a0 : Int) (a1 : Int) (a2 : Int) : R.start Try.prog xhn spec_l1In.O 0 Try.f48 spec_l1In.fh k [.int .i64 a0, .int .i64 a1, .int .i64 a2] [] = (spec_l1In.f a0 a1 a2).map (spec_l1In.en) := by
  rw [spec_l1In.ef]
  simp only [spec_l1In.f, R.map_ite, R.map_bind, R.map_none, R.map_some, R.wr64_eq]
theorem spec_l1In.ok (k : Nat) : spec_l1In.tw.Ok Try.prog k := by
  intro md hmd a r h
  refine fn_ok (H := xhn) (fh := spec_l1In.fh) (O := spec_l1In.O) (k := k) Try.func48 (by kernel_rfl) (by kernel_rfl) (fun j _ => noO_sound) (by kernel_rfl) (m := 0) rfl ?_
  refine (spec_l1In.sf k a.1 a.2.1 a.2.2).trans ?_
  exact congrArg (Option.map _) h
def spec_l3Marks.l0 : Nat → Int → (List Int) → (List Int) → Int → Int → Option (Bool)
  | 0, _, _, _, _, _ => none
  | k + 1, x0, x1, x7, x8, x9 => (if x9 < x8 then (if 0 ≤ x9 then (if x9 < (x7.length : Int) then ((spec_l1In.f (rdI x7 x9) 0 (wrap64 (x0 - 1))).bind fun t1 => (if t1 = true then (if x9 > 0 then (if 0 ≤ (wrap64 (x9 - 1)) then (if (wrap64 (x9 - 1)) < (x1.length : Int) then (if (rdI x1 (wrap64 (x9 - 1))) ≥ (rdI x7 x9) then (some false) else (spec_l3Marks.l0 k x0 x1 x7 x8 (wrap64 (x9 + 1)))) else none) else none) else (spec_l3Marks.l0 k x0 x1 x7 x8 (wrap64 (x9 + 1)))) else (some false))) else none) else none) else (some true))
def spec_l3Marks.f (k : Nat) (a0 : Int) (l1 : List Int) : Option (Bool) := (spec_l3Marks.l0 k a0 l1 l1 (l1.length : Int) 0)
def spec_l3Marks.en (r : Bool) : Res := (.lit r, [])
def spec_l3Marks.dec : List AV → List R.Obj → Option (Int × (List Int))
  | [.int .i64 a0, .imm (.I .i64 l1)], [] => some (a0, l1)
  | _, _ => none
def spec_l3Marks.tw : Tw := ⟨49, Int × (List Int), Bool, spec_l3Marks.dec, fun a => [.int .i64 a.1, .imm (.I .i64 a.2)], fun a => [], fun k a => spec_l3Marks.f k a.1 a.2, fun a r => spec_l3Marks.en r, true⟩
theorem spec_l3Marks.dok : spec_l3Marks.tw.DecOk := by
  intro args hc a h
  have h : spec_l3Marks.dec args hc = some a := h
  unfold spec_l3Marks.dec at h
  split at h
  · cases h; exact ⟨rfl, rfl⟩
  · cases h
noncomputable def spec_l3Marks.O (k : Nat) : Oracle := (spec_l1In.tw.orc k noO)
def spec_l3Marks.fh : FH := ⟨fun i => match i with | 2 => some [(0, 0), (1, 0), (7, 0), (8, 0), (9, 0)] | _ => none, [], false⟩
noncomputable def spec_l3Marks.x0 (k : Nat) (x0 : Int) (x1 : List Int) (x7 : List Int) (x8 : Int) (x9 : Int) : Option Res := R.exec Try.prog xhn spec_l3Marks.O 0 Try.f49 spec_l3Marks.fh k (R.point Try.f49 2) ⟨[(0, .int .i64 x0), (1, .imm (.I .i64 x1)), (7, .imm (.I .i64 x7)), (8, .int .i64 x8), (9, .int .i64 x9)], [], 2⟩
set_option maxRecDepth 100000 in
theorem spec_l3Marks.e0 (k : Nat) (x0 : Int) (x1 : List Int) (x7 : List Int) (x8 : Int) (x9 : Int) : spec_l3Marks.x0 (k + 1) x0 x1 x7 x8 x9 = (if x9 < x8 then (if 0 ≤ x9 then (if x9 < (x7.length : Int) then ((spec_l1In.f (rdI x7 x9) 0 (wr64 (x0 - 1))).bind fun t1 => (if t1 = true then (if x9 > 0 then (if 0 ≤ (wr64 (x9 - 1)) then (if (wr64 (x9 - 1)) < (x1.length : Int) then (if (rdI x1 (wr64 (x9 - 1))) ≥ (rdI x7 x9) then (some (spec_l3Marks.en false)) else (spec_l3Marks.x0 k x0 x1 x7 x8 (wr64 (x9 + 1)))) else none) else none) else (spec_l3Marks.x0 k x0 x1 x7 x8 (wr64 (x9 + 1)))) else (some (spec_l3Marks.en false)))) else none) else none) else (some (spec_l3Marks.en true))) := by kernel_rfl
set_option maxRecDepth 100000 in
theorem spec_l3Marks.ef (k : Nat) (a0 : Int) (l1 : List Int) : R.start Try.prog xhn spec_l3Marks.O 0 Try.f49 spec_l3Marks.fh k [.int .i64 a0, .imm (.I .i64 l1)] [] = (spec_l3Marks.x0 k a0 l1 l1 (l1.length : Int) 0) := by kernel_rfl
theorem spec_l3Marks.link : ∀ k, (∀ (x0 : Int) (x1 : List Int) (x7 : List Int) (x8 : Int) (x9 : Int), spec_l3Marks.x0 k x0 x1 x7 x8 x9 = (spec_l3Marks.l0 k x0 x1 x7 x8 x9).map (spec_l3Marks.en))
  | 0 => fun _ _ _ _ _ => by simp only [spec_l3Marks.l0, R.map_none]; rfl
  | k + 1 => by
    have ih0 := spec_l3Marks.link k
    · intro x0 x1 x7 x8 x9
      rw [spec_l3Marks.e0]
      simp only [spec_l3Marks.l0, R.map_ite, R.map_bind, R.map_none, R.map_some, R.wr64_eq, ← ih0]
theorem spec_l3Marks.sf (k : Nat) (a0 : Int) (l1 : List Int) : R.start Try.prog xhn spec_l3Marks.O 0 Try.f49 spec_l3Marks.fh k [.int .i64 a0, .imm (.I .i64 l1)] [] = (spec_l3Marks.f k a0 l1).map (spec_l3Marks.en) := by
  have ih0 := spec_l3Marks.link k
  rw [spec_l3Marks.ef]
  simp only [spec_l3Marks.f, R.map_ite, R.map_bind, R.map_none, R.map_some, R.wr64_eq, ← ih0]
theorem spec_l3Marks.ok (k : Nat) : spec_l3Marks.tw.Ok Try.prog k := by
  intro md hmd a r h
  refine fn_ok (H := xhn) (fh := spec_l3Marks.fh) (O := spec_l3Marks.O) (k := k) Try.func49 (by kernel_rfl) (by kernel_rfl) (fun j _ => (Tw.orc_sound spec_l1In.dok (spec_l1In.ok j) (fun _ => rfl) noO_sound)) (by kernel_rfl) (m := 0) rfl ?_
  refine (spec_l3Marks.sf k a.1 a.2).trans ?_
  exact congrArg (Option.map _) h
def spec_l3Step.f (a0 : Int) (a1_0 : Int) (a1_1 : ByteArray) (a1_2 : Int) (a1_3 : Int) : Option (Bool) := ((spec_l1In.f a1_0 0 (wrap64 (a0 - 1))).bind fun t1 => (if t1 = true then ((spec_l1In.f a1_2 0 (wrap64 (a0 - 1))).bind fun t2 => (if t2 = true then ((spec_l1In.f a1_3 0 3).bind fun t3 => (if t3 = true then (if a1_1.toList = ([97] : List UInt8) then (some true) else (some (decide (a1_1.toList = ([98] : List UInt8))))) else (some false))) else (some false))) else (some false)))
def spec_l3Step.en (r : Bool) : Res := (.lit r, [])
def spec_l3Step.dec : List AV → List R.Obj → Option (Int × Int × ByteArray × Int × Int)
  | [.int .i64 a0, .agg [.int .i64 a1_0, .str a1_1, .int .i64 a1_2, .int .i64 a1_3]], [] => some (a0, a1_0, a1_1, a1_2, a1_3)
  | _, _ => none
def spec_l3Step.tw : Tw := ⟨50, Int × Int × ByteArray × Int × Int, Bool, spec_l3Step.dec, fun a => [.int .i64 a.1, .agg [.int .i64 a.2.1, .str a.2.2.1, .int .i64 a.2.2.2.1, .int .i64 a.2.2.2.2]], fun a => [], fun k a => spec_l3Step.f a.1 a.2.1 a.2.2.1 a.2.2.2.1 a.2.2.2.2, fun a r => spec_l3Step.en r, true⟩
theorem spec_l3Step.dok : spec_l3Step.tw.DecOk := by
  intro args hc a h
  have h : spec_l3Step.dec args hc = some a := h
  unfold spec_l3Step.dec at h
  split at h
  · cases h; exact ⟨rfl, rfl⟩
  · cases h
noncomputable def spec_l3Step.O (k : Nat) : Oracle := (spec_l1In.tw.orc k noO)
def spec_l3Step.fh : FH := ⟨fun i => match i with | _ => none, [], false⟩
set_option maxRecDepth 100000 in
theorem spec_l3Step.ef (k : Nat) (a0 : Int) (a1_0 : Int) (a1_1 : ByteArray) (a1_2 : Int) (a1_3 : Int) : R.start Try.prog xhn spec_l3Step.O 0 Try.f50 spec_l3Step.fh k [.int .i64 a0, .agg [.int .i64 a1_0, .str a1_1, .int .i64 a1_2, .int .i64 a1_3]] [] = ((spec_l1In.f a1_0 0 (wr64 (a0 - 1))).bind fun t1 => (if t1 = true then ((spec_l1In.f a1_2 0 (wr64 (a0 - 1))).bind fun t2 => (if t2 = true then ((spec_l1In.f a1_3 0 3).bind fun t3 => (if t3 = true then (if a1_1.toList = ([97] : List UInt8) then (some (spec_l3Step.en true)) else (some (spec_l3Step.en (decide (a1_1.toList = ([98] : List UInt8)))))) else (some (spec_l3Step.en false)))) else (some (spec_l3Step.en false)))) else (some (spec_l3Step.en false)))) := by kernel_rfl
theorem spec_l3Step.sf (k : Nat) (a0 : Int) (a1_0 : Int) (a1_1 : ByteArray) (a1_2 : Int) (a1_3 : Int) : R.start Try.prog xhn spec_l3Step.O 0 Try.f50 spec_l3Step.fh k [.int .i64 a0, .agg [.int .i64 a1_0, .str a1_1, .int .i64 a1_2, .int .i64 a1_3]] [] = (spec_l3Step.f a0 a1_0 a1_1 a1_2 a1_3).map (spec_l3Step.en) := by
  rw [spec_l3Step.ef]
  simp only [spec_l3Step.f, R.map_ite, R.map_bind, R.map_none, R.map_some, R.wr64_eq]
theorem spec_l3Step.ok (k : Nat) : spec_l3Step.tw.Ok Try.prog k := by
  intro md hmd a r h
  refine fn_ok (H := xhn) (fh := spec_l3Step.fh) (O := spec_l3Step.O) (k := k) Try.func50 (by kernel_rfl) (by kernel_rfl) (fun j _ => (Tw.orc_sound spec_l1In.dok (spec_l1In.ok j) (fun _ => rfl) noO_sound)) (by kernel_rfl) (m := 0) rfl ?_
  refine (spec_l3Step.sf k a.1 a.2.1 a.2.2.1 a.2.2.2.1 a.2.2.2.2).trans ?_
  exact congrArg (Option.map _) h
def spec_l3Before.f (a0_0 : Int) (a0_1 : ByteArray) (a0_2 : Int) (a0_3 : Int) (a1_0 : Int) (a1_1 : ByteArray) (a1_2 : Int) (a1_3 : Int) : Option (Bool) := (if a0_0 = a1_0 then (if a0_1.toList = a1_1.toList then (some (decide (a0_2 < a1_2))) else (some (Op.bytesLess a0_1.toList a1_1.toList))) else (some (decide (a0_0 < a1_0))))
def spec_l3Before.en (r : Bool) : Res := (.lit r, [])
def spec_l3Before.dec : List AV → List R.Obj → Option (Int × ByteArray × Int × Int × Int × ByteArray × Int × Int)
  | [.agg [.int .i64 a0_0, .str a0_1, .int .i64 a0_2, .int .i64 a0_3], .agg [.int .i64 a1_0, .str a1_1, .int .i64 a1_2, .int .i64 a1_3]], [] => some (a0_0, a0_1, a0_2, a0_3, a1_0, a1_1, a1_2, a1_3)
  | _, _ => none
def spec_l3Before.tw : Tw := ⟨51, Int × ByteArray × Int × Int × Int × ByteArray × Int × Int, Bool, spec_l3Before.dec, fun a => [.agg [.int .i64 a.1, .str a.2.1, .int .i64 a.2.2.1, .int .i64 a.2.2.2.1], .agg [.int .i64 a.2.2.2.2.1, .str a.2.2.2.2.2.1, .int .i64 a.2.2.2.2.2.2.1, .int .i64 a.2.2.2.2.2.2.2]], fun a => [], fun k a => spec_l3Before.f a.1 a.2.1 a.2.2.1 a.2.2.2.1 a.2.2.2.2.1 a.2.2.2.2.2.1 a.2.2.2.2.2.2.1 a.2.2.2.2.2.2.2, fun a r => spec_l3Before.en r, true⟩
theorem spec_l3Before.dok : spec_l3Before.tw.DecOk := by
  intro args hc a h
  have h : spec_l3Before.dec args hc = some a := h
  unfold spec_l3Before.dec at h
  split at h
  · cases h; exact ⟨rfl, rfl⟩
  · cases h
noncomputable def spec_l3Before.O (k : Nat) : Oracle := noO
def spec_l3Before.fh : FH := ⟨fun i => match i with | _ => none, [], false⟩
set_option maxRecDepth 100000 in
theorem spec_l3Before.ef (k : Nat) (a0_0 : Int) (a0_1 : ByteArray) (a0_2 : Int) (a0_3 : Int) (a1_0 : Int) (a1_1 : ByteArray) (a1_2 : Int) (a1_3 : Int) : R.start Try.prog xhn spec_l3Before.O 0 Try.f51 spec_l3Before.fh k [.agg [.int .i64 a0_0, .str a0_1, .int .i64 a0_2, .int .i64 a0_3], .agg [.int .i64 a1_0, .str a1_1, .int .i64 a1_2, .int .i64 a1_3]] [] = (if a0_0 = a1_0 then (if a0_1.toList = a1_1.toList then (some (spec_l3Before.en (decide (a0_2 < a1_2)))) else (some (spec_l3Before.en (Op.bytesLess a0_1.toList a1_1.toList)))) else (some (spec_l3Before.en (decide (a0_0 < a1_0))))) := by kernel_rfl
theorem spec_l3Before.sf (k : Nat) (a0_0 : Int) (a0_1 : ByteArray) (a0_2 : Int) (a0_3 : Int) (a1_0 : Int) (a1_1 : ByteArray) (a1_2 : Int) (a1_3 : Int) : R.start Try.prog xhn spec_l3Before.O 0 Try.f51 spec_l3Before.fh k [.agg [.int .i64 a0_0, .str a0_1, .int .i64 a0_2, .int .i64 a0_3], .agg [.int .i64 a1_0, .str a1_1, .int .i64 a1_2, .int .i64 a1_3]] [] = (spec_l3Before.f a0_0 a0_1 a0_2 a0_3 a1_0 a1_1 a1_2 a1_3).map (spec_l3Before.en) := by
  rw [spec_l3Before.ef]
  simp only [spec_l3Before.f, R.map_ite, R.map_bind, R.map_none, R.map_some, R.wr64_eq]
theorem spec_l3Before.ok (k : Nat) : spec_l3Before.tw.Ok Try.prog k := by
  intro md hmd a r h
  refine fn_ok (H := xhn) (fh := spec_l3Before.fh) (O := spec_l3Before.O) (k := k) Try.func51 (by kernel_rfl) (by kernel_rfl) (fun j _ => noO_sound) (by kernel_rfl) (m := 0) rfl ?_
  refine (spec_l3Before.sf k a.1 a.2.1 a.2.2.1 a.2.2.2.1 a.2.2.2.2.1 a.2.2.2.2.2.1 a.2.2.2.2.2.2.1 a.2.2.2.2.2.2.2).trans ?_
  exact congrArg (Option.map _) h
def spec_AutomatonValid.l0 : Nat → (List Stp) → Int → Int → Int → (List Int) → (List Int) → (List Stp) → Option (Bool)
  | 0, _, _, _, _, _, _, _ => none
  | k + 1, x32, x33, x34, y0_0, y0_1, y0_2, y0_3 => (if x34 < x33 then (if 0 ≤ x34 then (if x34 < (x32.length : Int) then ((spec_l3Step.f y0_0 ((rdT x32 x34).f0) ((rdT x32 x34).f1) ((rdT x32 x34).f2) ((rdT x32 x34).f3)).bind fun t4 => (if t4 = true then (if x34 > 0 then (if 0 ≤ (wrap64 (x34 - 1)) then (if (wrap64 (x34 - 1)) < (y0_3.length : Int) then ((spec_l3Before.f ((rdT y0_3 (wrap64 (x34 - 1))).f0) ((rdT y0_3 (wrap64 (x34 - 1))).f1) ((rdT y0_3 (wrap64 (x34 - 1))).f2) ((rdT y0_3 (wrap64 (x34 - 1))).f3) ((rdT x32 x34).f0) ((rdT x32 x34).f1) ((rdT x32 x34).f2) ((rdT x32 x34).f3)).bind fun t5 => (if t5 = true then (spec_AutomatonValid.l0 k x32 x33 (wrap64 (x34 + 1)) y0_0 y0_1 y0_2 y0_3) else (some false))) else none) else none) else (spec_AutomatonValid.l0 k x32 x33 (wrap64 (x34 + 1)) y0_0 y0_1 y0_2 y0_3)) else (some false))) else none) else none) else (some true))
def spec_AutomatonValid.f (k : Nat) (a0_0 : Int) (l0_1 : List Int) (l0_2 : List Int) (l0_3 : List Stp) : Option (Bool) := ((spec_l1In.f a0_0 1 4).bind fun t1 => (if t1 = true then ((spec_l3Marks.f k a0_0 l0_1).bind fun t2 => (if t2 = true then ((spec_l3Marks.f k a0_0 l0_2).bind fun t3 => (if t3 = true then (if (l0_3.length : Int) > 24 then (some false) else (spec_AutomatonValid.l0 k l0_3 (l0_3.length : Int) 0 a0_0 l0_1 l0_2 l0_3)) else (some false))) else (some false))) else (some false)))
def spec_AutomatonValid.en (r : Bool) : Res := (.lit r, [])
def spec_AutomatonValid.dec : List AV → List R.Obj → Option (Int × (List Int) × (List Int) × (List Stp))
  | [.agg [.int .i64 a0_0, .imm (.I .i64 l0_1), .imm (.I .i64 l0_2), .imm (.T l0_3)]], [] => some (a0_0, l0_1, l0_2, l0_3)
  | _, _ => none
def spec_AutomatonValid.tw : Tw := ⟨32, Int × (List Int) × (List Int) × (List Stp), Bool, spec_AutomatonValid.dec, fun a => [.agg [.int .i64 a.1, .imm (.I .i64 a.2.1), .imm (.I .i64 a.2.2.1), .imm (.T a.2.2.2)]], fun a => [], fun k a => spec_AutomatonValid.f k a.1 a.2.1 a.2.2.1 a.2.2.2, fun a r => spec_AutomatonValid.en r, true⟩
theorem spec_AutomatonValid.dok : spec_AutomatonValid.tw.DecOk := by
  intro args hc a h
  have h : spec_AutomatonValid.dec args hc = some a := h
  unfold spec_AutomatonValid.dec at h
  split at h
  · cases h; exact ⟨rfl, rfl⟩
  · cases h
noncomputable def spec_AutomatonValid.O (k : Nat) : Oracle := (spec_l1In.tw.orc k (spec_l3Marks.tw.orc k (spec_l3Step.tw.orc k (spec_l3Before.tw.orc k noO))))
def spec_AutomatonValid.fh : FH := ⟨fun i => match i with | 4 => some [(1, 0), (32, 0), (33, 0), (34, 0)] | _ => none, [], false⟩
noncomputable def spec_AutomatonValid.x0 (k : Nat) (x32 : List Stp) (x33 : Int) (x34 : Int) (y0_0 : Int) (y0_1 : List Int) (y0_2 : List Int) (y0_3 : List Stp) : Option Res := R.exec Try.prog xhn spec_AutomatonValid.O 0 Try.f32 spec_AutomatonValid.fh k (R.point Try.f32 4) ⟨[(1, .ptr 0 0), (32, .imm (.T x32)), (33, .int .i64 x33), (34, .int .i64 x34)], [(0, .box false [.int .i64 y0_0, .imm (.I .i64 y0_1), .imm (.I .i64 y0_2), .imm (.T y0_3)])], 3⟩
set_option maxRecDepth 100000 in
theorem spec_AutomatonValid.e0 (k : Nat) (x32 : List Stp) (x33 : Int) (x34 : Int) (y0_0 : Int) (y0_1 : List Int) (y0_2 : List Int) (y0_3 : List Stp) : spec_AutomatonValid.x0 (k + 1) x32 x33 x34 y0_0 y0_1 y0_2 y0_3 = (if x34 < x33 then (if 0 ≤ x34 then (if x34 < (x32.length : Int) then ((spec_l3Step.f y0_0 ((rdT x32 x34).f0) ((rdT x32 x34).f1) ((rdT x32 x34).f2) ((rdT x32 x34).f3)).bind fun t4 => (if t4 = true then (if x34 > 0 then (if 0 ≤ (wr64 (x34 - 1)) then (if (wr64 (x34 - 1)) < (y0_3.length : Int) then ((spec_l3Before.f ((rdT y0_3 (wr64 (x34 - 1))).f0) ((rdT y0_3 (wr64 (x34 - 1))).f1) ((rdT y0_3 (wr64 (x34 - 1))).f2) ((rdT y0_3 (wr64 (x34 - 1))).f3) ((rdT x32 x34).f0) ((rdT x32 x34).f1) ((rdT x32 x34).f2) ((rdT x32 x34).f3)).bind fun t5 => (if t5 = true then (spec_AutomatonValid.x0 k x32 x33 (wr64 (x34 + 1)) y0_0 y0_1 y0_2 y0_3) else (some (spec_AutomatonValid.en false)))) else none) else none) else (spec_AutomatonValid.x0 k x32 x33 (wr64 (x34 + 1)) y0_0 y0_1 y0_2 y0_3)) else (some (spec_AutomatonValid.en false)))) else none) else none) else (some (spec_AutomatonValid.en true))) := by kernel_rfl
set_option maxRecDepth 100000 in
theorem spec_AutomatonValid.ef (k : Nat) (a0_0 : Int) (l0_1 : List Int) (l0_2 : List Int) (l0_3 : List Stp) : R.start Try.prog xhn spec_AutomatonValid.O 0 Try.f32 spec_AutomatonValid.fh k [.agg [.int .i64 a0_0, .imm (.I .i64 l0_1), .imm (.I .i64 l0_2), .imm (.T l0_3)]] [] = ((spec_l1In.f a0_0 1 4).bind fun t1 => (if t1 = true then ((spec_l3Marks.f k a0_0 l0_1).bind fun t2 => (if t2 = true then ((spec_l3Marks.f k a0_0 l0_2).bind fun t3 => (if t3 = true then (if (l0_3.length : Int) > 24 then (some (spec_AutomatonValid.en false)) else (spec_AutomatonValid.x0 k l0_3 (l0_3.length : Int) 0 a0_0 l0_1 l0_2 l0_3)) else (some (spec_AutomatonValid.en false)))) else (some (spec_AutomatonValid.en false)))) else (some (spec_AutomatonValid.en false)))) := by kernel_rfl
theorem spec_AutomatonValid.link : ∀ k, (∀ (x32 : List Stp) (x33 : Int) (x34 : Int) (y0_0 : Int) (y0_1 : List Int) (y0_2 : List Int) (y0_3 : List Stp), spec_AutomatonValid.x0 k x32 x33 x34 y0_0 y0_1 y0_2 y0_3 = (spec_AutomatonValid.l0 k x32 x33 x34 y0_0 y0_1 y0_2 y0_3).map (spec_AutomatonValid.en))
  | 0 => fun _ _ _ _ _ _ _ => by simp only [spec_AutomatonValid.l0, R.map_none]; rfl
  | k + 1 => by
    have ih0 := spec_AutomatonValid.link k
    · intro x32 x33 x34 y0_0 y0_1 y0_2 y0_3
      rw [spec_AutomatonValid.e0]
      simp only [spec_AutomatonValid.l0, R.map_ite, R.map_bind, R.map_none, R.map_some, R.wr64_eq, ← ih0]
theorem spec_AutomatonValid.sf (k : Nat) (a0_0 : Int) (l0_1 : List Int) (l0_2 : List Int) (l0_3 : List Stp) : R.start Try.prog xhn spec_AutomatonValid.O 0 Try.f32 spec_AutomatonValid.fh k [.agg [.int .i64 a0_0, .imm (.I .i64 l0_1), .imm (.I .i64 l0_2), .imm (.T l0_3)]] [] = (spec_AutomatonValid.f k a0_0 l0_1 l0_2 l0_3).map (spec_AutomatonValid.en) := by
  have ih0 := spec_AutomatonValid.link k
  rw [spec_AutomatonValid.ef]
  simp only [spec_AutomatonValid.f, R.map_ite, R.map_bind, R.map_none, R.map_some, R.wr64_eq, ← ih0]
theorem spec_AutomatonValid.ok (k : Nat) : spec_AutomatonValid.tw.Ok Try.prog k := by
  intro md hmd a r h
  refine fn_ok (H := xhn) (fh := spec_AutomatonValid.fh) (O := spec_AutomatonValid.O) (k := k) Try.func32 (by kernel_rfl) (by kernel_rfl) (fun j _ => (Tw.orc_sound spec_l1In.dok (spec_l1In.ok j) (fun _ => rfl) (Tw.orc_sound spec_l3Marks.dok (spec_l3Marks.ok j) (fun _ => rfl) (Tw.orc_sound spec_l3Step.dok (spec_l3Step.ok j) (fun _ => rfl) (Tw.orc_sound spec_l3Before.dok (spec_l3Before.ok j) (fun _ => rfl) noO_sound))))) (by kernel_rfl) (m := 0) rfl ?_
  refine (spec_AutomatonValid.sf k a.1 a.2.1 a.2.2.1 a.2.2.2).trans ?_
  exact congrArg (Option.map _) h
mutual
def spec_l3Matrix.l0 : Nat → ByteArray → Int → Int → Int → (List Int) → (List Int) → (List Stp) → Int → (List Int) → Option (Int × (List Int))
  | 0, _, _, _, _, _, _, _, _, _ => none
  | k + 1, x1, x15, x16, y0_0, y0_1, y0_2, y0_3, y2_0, y4 => (if x16 < x15 then (if y4.length < 17592186044416 then (spec_l3Matrix.l0 k x1 x15 (wrap64 (x16 + 1)) y0_0 y0_1 y0_2 y0_3 y2_0 (y4 ++ [1000000])) else none) else (spec_l3Matrix.l1 k x1 y0_3 (y0_3.length : Int) 0 y0_0 y0_1 y0_2 y0_3 y2_0 y4))
def spec_l3Matrix.l1 : Nat → ByteArray → (List Stp) → Int → Int → Int → (List Int) → (List Int) → (List Stp) → Int → (List Int) → Option (Int × (List Int))
  | 0, _, _, _, _, _, _, _, _, _, _ => none
  | k + 1, x1, x25, x26, x27, y0_0, y0_1, y0_2, y0_3, y2_0, y4 => (if x27 < x26 then (if 0 ≤ x27 then (if x27 < (x25.length : Int) then (if (rdT x25 x27).f1.toList = x1.toList then (if 0 ≤ (wrap64 ((wrap64 ((rdT x25 x27).f0 * y0_0)) + (rdT x25 x27).f2)) then (if (wrap64 ((wrap64 ((rdT x25 x27).f0 * y0_0)) + (rdT x25 x27).f2)) < (y4.length : Int) then (spec_l3Matrix.l1 k x1 x25 x26 (wrap64 (x27 + 1)) y0_0 y0_1 y0_2 y0_3 y2_0 (y4.set (wrap64 ((wrap64 ((rdT x25 x27).f0 * y0_0)) + (rdT x25 x27).f2)).toNat (rdT x25 x27).f3)) else none) else none) else (spec_l3Matrix.l1 k x1 x25 x26 (wrap64 (x27 + 1)) y0_0 y0_1 y0_2 y0_3 y2_0 y4)) else none) else none) else (some (y2_0, y4)))
end
def spec_l3Matrix.f (k : Nat) (a0_0 : Int) (l0_1 : List Int) (l0_2 : List Int) (l0_3 : List Stp) (a1 : ByteArray) : Option (Int × (List Int)) := (spec_l3Matrix.l0 k a1 (wrap64 (a0_0 * a0_0)) 0 a0_0 l0_1 l0_2 l0_3 a0_0 ([] : List Int))
def spec_l3Matrix.en (r : Int × (List Int)) : Res := (.agg [.int .i64 r.1, .sl 0 0], [.arr 3 0 (.I .i64 r.2) false])
def spec_l3Matrix.dec : List AV → List R.Obj → Option (Int × (List Int) × (List Int) × (List Stp) × ByteArray)
  | [.agg [.int .i64 a0_0, .imm (.I .i64 l0_1), .imm (.I .i64 l0_2), .imm (.T l0_3)], .str a1], [] => some (a0_0, l0_1, l0_2, l0_3, a1)
  | _, _ => none
def spec_l3Matrix.tw : Tw := ⟨53, Int × (List Int) × (List Int) × (List Stp) × ByteArray, Int × (List Int), spec_l3Matrix.dec, fun a => [.agg [.int .i64 a.1, .imm (.I .i64 a.2.1), .imm (.I .i64 a.2.2.1), .imm (.T a.2.2.2.1)], .str a.2.2.2.2], fun a => [], fun k a => spec_l3Matrix.f k a.1 a.2.1 a.2.2.1 a.2.2.2.1 a.2.2.2.2, fun a r => spec_l3Matrix.en r, true⟩
theorem spec_l3Matrix.dok : spec_l3Matrix.tw.DecOk := by
  intro args hc a h
  have h : spec_l3Matrix.dec args hc = some a := h
  unfold spec_l3Matrix.dec at h
  split at h
  · cases h; exact ⟨rfl, rfl⟩
  · cases h
noncomputable def spec_l3Matrix.O (k : Nat) : Oracle := noO
def spec_l3Matrix.fh : FH := ⟨fun i => match i with | 3 => some [(1, 0), (2, 0), (4, 0), (5, 0), (15, 0), (16, 0)] | 7 => some [(1, 0), (2, 0), (4, 0), (5, 0), (25, 0), (26, 0), (27, 0)] | _ => none, [(true, 3)], false⟩
noncomputable def spec_l3Matrix.x0 (k : Nat) (x1 : ByteArray) (x15 : Int) (x16 : Int) (y0_0 : Int) (y0_1 : List Int) (y0_2 : List Int) (y0_3 : List Stp) (y2_0 : Int) (y4 : List Int) : Option Res := R.exec Try.prog xhn spec_l3Matrix.O 0 Try.f53 spec_l3Matrix.fh k (R.point Try.f53 3) ⟨[(1, .str x1), (2, .ptr 0 0), (4, .ptr 1 0), (5, .ptr 2 0), (15, .int .i64 x15), (16, .int .i64 x16)], [(0, .box false [.int .i64 y0_0, .imm (.I .i64 y0_1), .imm (.I .i64 y0_2), .imm (.T y0_3)]), (1, .box false [.int .i64 0, .sl 3 0]), (2, .box false [.int .i64 y2_0, .sl 4 0]), (3, .arr 3 0 (.I .i64 ([] : List Int)) false), (4, .arr 3 0 (.I .i64 y4) false)], 7⟩
noncomputable def spec_l3Matrix.x1 (k : Nat) (x1 : ByteArray) (x25 : List Stp) (x26 : Int) (x27 : Int) (y0_0 : Int) (y0_1 : List Int) (y0_2 : List Int) (y0_3 : List Stp) (y2_0 : Int) (y4 : List Int) : Option Res := R.exec Try.prog xhn spec_l3Matrix.O 0 Try.f53 spec_l3Matrix.fh k (R.point Try.f53 7) ⟨[(1, .str x1), (2, .ptr 0 0), (4, .ptr 1 0), (5, .ptr 2 0), (25, .imm (.T x25)), (26, .int .i64 x26), (27, .int .i64 x27)], [(0, .box false [.int .i64 y0_0, .imm (.I .i64 y0_1), .imm (.I .i64 y0_2), .imm (.T y0_3)]), (1, .box false [.int .i64 0, .sl 3 0]), (2, .box false [.int .i64 y2_0, .sl 4 0]), (3, .arr 3 0 (.I .i64 ([] : List Int)) false), (4, .arr 3 0 (.I .i64 y4) false)], 7⟩
set_option maxRecDepth 100000 in
theorem spec_l3Matrix.e0 (k : Nat) (x1 : ByteArray) (x15 : Int) (x16 : Int) (y0_0 : Int) (y0_1 : List Int) (y0_2 : List Int) (y0_3 : List Stp) (y2_0 : Int) (y4 : List Int) : spec_l3Matrix.x0 (k + 1) x1 x15 x16 y0_0 y0_1 y0_2 y0_3 y2_0 y4 = (if x16 < x15 then (if y4.length < 17592186044416 then (spec_l3Matrix.x0 k x1 x15 (wr64 (x16 + 1)) y0_0 y0_1 y0_2 y0_3 y2_0 (y4 ++ [1000000])) else none) else (spec_l3Matrix.x1 k x1 y0_3 (y0_3.length : Int) 0 y0_0 y0_1 y0_2 y0_3 y2_0 y4)) := by kernel_rfl
set_option maxRecDepth 100000 in
theorem spec_l3Matrix.e1 (k : Nat) (x1 : ByteArray) (x25 : List Stp) (x26 : Int) (x27 : Int) (y0_0 : Int) (y0_1 : List Int) (y0_2 : List Int) (y0_3 : List Stp) (y2_0 : Int) (y4 : List Int) : spec_l3Matrix.x1 (k + 1) x1 x25 x26 x27 y0_0 y0_1 y0_2 y0_3 y2_0 y4 = (if x27 < x26 then (if 0 ≤ x27 then (if x27 < (x25.length : Int) then (if (rdT x25 x27).f1.toList = x1.toList then (if 0 ≤ (wr64 ((wr64 ((rdT x25 x27).f0 * y0_0)) + (rdT x25 x27).f2)) then (if (wr64 ((wr64 ((rdT x25 x27).f0 * y0_0)) + (rdT x25 x27).f2)) < (y4.length : Int) then (spec_l3Matrix.x1 k x1 x25 x26 (wr64 (x27 + 1)) y0_0 y0_1 y0_2 y0_3 y2_0 (y4.set (wr64 ((wr64 ((rdT x25 x27).f0 * y0_0)) + (rdT x25 x27).f2)).toNat (rdT x25 x27).f3)) else none) else none) else (spec_l3Matrix.x1 k x1 x25 x26 (wr64 (x27 + 1)) y0_0 y0_1 y0_2 y0_3 y2_0 y4)) else none) else none) else (some (spec_l3Matrix.en (y2_0, y4)))) := by kernel_rfl
set_option maxRecDepth 100000 in
theorem spec_l3Matrix.ef (k : Nat) (a0_0 : Int) (l0_1 : List Int) (l0_2 : List Int) (l0_3 : List Stp) (a1 : ByteArray) : R.start Try.prog xhn spec_l3Matrix.O 0 Try.f53 spec_l3Matrix.fh k [.agg [.int .i64 a0_0, .imm (.I .i64 l0_1), .imm (.I .i64 l0_2), .imm (.T l0_3)], .str a1] [] = (spec_l3Matrix.x0 k a1 (wr64 (a0_0 * a0_0)) 0 a0_0 l0_1 l0_2 l0_3 a0_0 ([] : List Int)) := by kernel_rfl
theorem spec_l3Matrix.link : ∀ k, (∀ (x1 : ByteArray) (x15 : Int) (x16 : Int) (y0_0 : Int) (y0_1 : List Int) (y0_2 : List Int) (y0_3 : List Stp) (y2_0 : Int) (y4 : List Int), spec_l3Matrix.x0 k x1 x15 x16 y0_0 y0_1 y0_2 y0_3 y2_0 y4 = (spec_l3Matrix.l0 k x1 x15 x16 y0_0 y0_1 y0_2 y0_3 y2_0 y4).map (spec_l3Matrix.en)) ∧ (∀ (x1 : ByteArray) (x25 : List Stp) (x26 : Int) (x27 : Int) (y0_0 : Int) (y0_1 : List Int) (y0_2 : List Int) (y0_3 : List Stp) (y2_0 : Int) (y4 : List Int), spec_l3Matrix.x1 k x1 x25 x26 x27 y0_0 y0_1 y0_2 y0_3 y2_0 y4 = (spec_l3Matrix.l1 k x1 x25 x26 x27 y0_0 y0_1 y0_2 y0_3 y2_0 y4).map (spec_l3Matrix.en))
  | 0 => ⟨fun _ _ _ _ _ _ _ _ _ => by simp only [spec_l3Matrix.l0, R.map_none]; rfl, fun _ _ _ _ _ _ _ _ _ _ => by simp only [spec_l3Matrix.l1, R.map_none]; rfl⟩
  | k + 1 => by
    obtain ⟨ih0, ih1⟩ := spec_l3Matrix.link k
    refine ⟨?_, ?_⟩
    · intro x1 x15 x16 y0_0 y0_1 y0_2 y0_3 y2_0 y4
      rw [spec_l3Matrix.e0]
      simp only [spec_l3Matrix.l0, R.map_ite, R.map_bind, R.map_none, R.map_some, R.wr64_eq, ← ih0, ← ih1]
    · intro x1 x25 x26 x27 y0_0 y0_1 y0_2 y0_3 y2_0 y4
      rw [spec_l3Matrix.e1]
      simp only [spec_l3Matrix.l1, R.map_ite, R.map_bind, R.map_none, R.map_some, R.wr64_eq, ← ih0, ← ih1]
theorem spec_l3Matrix.sf (k : Nat) (a0_0 : Int) (l0_1 : List Int) (l0_2 : List Int) (l0_3 : List Stp) (a1 : ByteArray) : R.start Try.prog xhn spec_l3Matrix.O 0 Try.f53 spec_l3Matrix.fh k [.agg [.int .i64 a0_0, .imm (.I .i64 l0_1), .imm (.I .i64 l0_2), .imm (.T l0_3)], .str a1] [] = (spec_l3Matrix.f k a0_0 l0_1 l0_2 l0_3 a1).map (spec_l3Matrix.en) := by
  obtain ⟨ih0, ih1⟩ := spec_l3Matrix.link k
  rw [spec_l3Matrix.ef]
  simp only [spec_l3Matrix.f, R.map_ite, R.map_bind, R.map_none, R.map_some, R.wr64_eq, ← ih0, ← ih1]
theorem spec_l3Matrix.ok (k : Nat) : spec_l3Matrix.tw.Ok Try.prog k := by
  intro md hmd a r h
  refine fn_ok (H := xhn) (fh := spec_l3Matrix.fh) (O := spec_l3Matrix.O) (k := k) Try.func53 (by kernel_rfl) (by kernel_rfl) (fun j _ => noO_sound) (by kernel_rfl) (m := 0) rfl ?_
  refine (spec_l3Matrix.sf k a.1 a.2.1 a.2.2.1 a.2.2.2.1 a.2.2.2.2).trans ?_
  exact congrArg (Option.map _) h
def spec_l6Grades.l0 : Nat → (List Int) → Int → Int → Int → (List Int) → Option (Int × (List Int))
  | 0, _, _, _, _, _ => none
  | k + 1, x10, x11, x12, y1_0, y3 => (if x12 < x11 then (if 0 ≤ x12 then (if x12 < (x10.length : Int) then (if (rdI x10 x12) = 0 then (if y3.length < 17592186044416 then (spec_l6Grades.l0 k x10 x11 (wrap64 (x12 + 1)) y1_0 (y3 ++ [0])) else none) else (if (rdI x10 x12) = 1000000 then (if y3.length < 17592186044416 then (spec_l6Grades.l0 k x10 x11 (wrap64 (x12 + 1)) y1_0 (y3 ++ [3])) else none) else (if y3.length < 17592186044416 then (spec_l6Grades.l0 k x10 x11 (wrap64 (x12 + 1)) y1_0 (y3 ++ [1])) else none))) else none) else none) else (some (y1_0, y3)))
def spec_l6Grades.f (k : Nat) (a0_0 : Int) (l0_1 : List Int) : Option (Int × (List Int)) := (spec_l6Grades.l0 k l0_1 (l0_1.length : Int) 0 a0_0 ([] : List Int))
def spec_l6Grades.en (r : Int × (List Int)) : Res := (.agg [.int .i64 r.1, .sl 0 0], [.arr 3 0 (.I .i64 r.2) false])
def spec_l6Grades.dec : List AV → List R.Obj → Option (Int × (List Int))
  | [.agg [.int .i64 a0_0, .imm (.I .i64 l0_1)]], [] => some (a0_0, l0_1)
  | _, _ => none
def spec_l6Grades.tw : Tw := ⟨52, Int × (List Int), Int × (List Int), spec_l6Grades.dec, fun a => [.agg [.int .i64 a.1, .imm (.I .i64 a.2)]], fun a => [], fun k a => spec_l6Grades.f k a.1 a.2, fun a r => spec_l6Grades.en r, true⟩
theorem spec_l6Grades.dok : spec_l6Grades.tw.DecOk := by
  intro args hc a h
  have h : spec_l6Grades.dec args hc = some a := h
  unfold spec_l6Grades.dec at h
  split at h
  · cases h; exact ⟨rfl, rfl⟩
  · cases h
noncomputable def spec_l6Grades.O (k : Nat) : Oracle := noO
def spec_l6Grades.fh : FH := ⟨fun i => match i with | 3 => some [(2, 0), (3, 0), (10, 0), (11, 0), (12, 0)] | _ => none, [(true, 3)], false⟩
noncomputable def spec_l6Grades.x0 (k : Nat) (x10 : List Int) (x11 : Int) (x12 : Int) (y1_0 : Int) (y3 : List Int) : Option Res := R.exec Try.prog xhn spec_l6Grades.O 0 Try.f52 spec_l6Grades.fh k (R.point Try.f52 3) ⟨[(2, .ptr 0 0), (3, .ptr 1 0), (10, .imm (.I .i64 x10)), (11, .int .i64 x11), (12, .int .i64 x12)], [(0, .box false [.int .i64 0, .sl 2 0]), (1, .box false [.int .i64 y1_0, .sl 3 0]), (2, .arr 3 0 (.I .i64 ([] : List Int)) false), (3, .arr 3 0 (.I .i64 y3) false)], 6⟩
set_option maxRecDepth 100000 in
theorem spec_l6Grades.e0 (k : Nat) (x10 : List Int) (x11 : Int) (x12 : Int) (y1_0 : Int) (y3 : List Int) : spec_l6Grades.x0 (k + 1) x10 x11 x12 y1_0 y3 = (if x12 < x11 then (if 0 ≤ x12 then (if x12 < (x10.length : Int) then (if (rdI x10 x12) = 0 then (if y3.length < 17592186044416 then (spec_l6Grades.x0 k x10 x11 (wr64 (x12 + 1)) y1_0 (y3 ++ [0])) else none) else (if (rdI x10 x12) = 1000000 then (if y3.length < 17592186044416 then (spec_l6Grades.x0 k x10 x11 (wr64 (x12 + 1)) y1_0 (y3 ++ [3])) else none) else (if y3.length < 17592186044416 then (spec_l6Grades.x0 k x10 x11 (wr64 (x12 + 1)) y1_0 (y3 ++ [1])) else none))) else none) else none) else (some (spec_l6Grades.en (y1_0, y3)))) := by kernel_rfl
set_option maxRecDepth 100000 in
theorem spec_l6Grades.ef (k : Nat) (a0_0 : Int) (l0_1 : List Int) : R.start Try.prog xhn spec_l6Grades.O 0 Try.f52 spec_l6Grades.fh k [.agg [.int .i64 a0_0, .imm (.I .i64 l0_1)]] [] = (spec_l6Grades.x0 k l0_1 (l0_1.length : Int) 0 a0_0 ([] : List Int)) := by kernel_rfl
theorem spec_l6Grades.link : ∀ k, (∀ (x10 : List Int) (x11 : Int) (x12 : Int) (y1_0 : Int) (y3 : List Int), spec_l6Grades.x0 k x10 x11 x12 y1_0 y3 = (spec_l6Grades.l0 k x10 x11 x12 y1_0 y3).map (spec_l6Grades.en))
  | 0 => fun _ _ _ _ _ => by simp only [spec_l6Grades.l0, R.map_none]; rfl
  | k + 1 => by
    have ih0 := spec_l6Grades.link k
    · intro x10 x11 x12 y1_0 y3
      rw [spec_l6Grades.e0]
      simp only [spec_l6Grades.l0, R.map_ite, R.map_bind, R.map_none, R.map_some, R.wr64_eq, ← ih0]
theorem spec_l6Grades.sf (k : Nat) (a0_0 : Int) (l0_1 : List Int) : R.start Try.prog xhn spec_l6Grades.O 0 Try.f52 spec_l6Grades.fh k [.agg [.int .i64 a0_0, .imm (.I .i64 l0_1)]] [] = (spec_l6Grades.f k a0_0 l0_1).map (spec_l6Grades.en) := by
  have ih0 := spec_l6Grades.link k
  rw [spec_l6Grades.ef]
  simp only [spec_l6Grades.f, R.map_ite, R.map_bind, R.map_none, R.map_some, R.wr64_eq, ← ih0]
theorem spec_l6Grades.ok (k : Nat) : spec_l6Grades.tw.Ok Try.prog k := by
  intro md hmd a r h
  refine fn_ok (H := xhn) (fh := spec_l6Grades.fh) (O := spec_l6Grades.O) (k := k) Try.func52 (by kernel_rfl) (by kernel_rfl) (fun j _ => noO_sound) (by kernel_rfl) (m := 0) rfl ?_
  refine (spec_l6Grades.sf k a.1 a.2).trans ?_
  exact congrArg (Option.map _) h
def spec_l2Same.l0 : Nat → (List Int) → (List Int) → Int → Int → Option (Bool)
  | 0, _, _, _, _ => none
  | k + 1, x0, x1, x10, x11 => (if x11 < x10 then (if 0 ≤ x11 then (if x11 < (x0.length : Int) then (if x11 < (x1.length : Int) then (if (rdI x0 x11) = (rdI x1 x11) then (spec_l2Same.l0 k x0 x1 x10 (wrap64 (x11 + 1))) else (some false)) else none) else none) else none) else (some (decide ((x0.length : Int) = (x1.length : Int)))))
def spec_l2Same.f (k : Nat) (l0 : List Int) (l1 : List Int) : Option (Bool) := (spec_l2Same.l0 k l0 l1 (mn (l0.length : Int) (l1.length : Int)) 0)
def spec_l2Same.en (r : Bool) : Res := (.lit r, [])
def spec_l2Same.dec : List AV → List R.Obj → Option ((List Int) × (List Int))
  | [.imm (.I .i64 l0), .imm (.I .i64 l1)], [] => some (l0, l1)
  | _, _ => none
def spec_l2Same.tw : Tw := ⟨70, (List Int) × (List Int), Bool, spec_l2Same.dec, fun a => [.imm (.I .i64 a.1), .imm (.I .i64 a.2)], fun a => [], fun k a => spec_l2Same.f k a.1 a.2, fun a r => spec_l2Same.en r, true⟩
theorem spec_l2Same.dok : spec_l2Same.tw.DecOk := by
  intro args hc a h
  have h : spec_l2Same.dec args hc = some a := h
  unfold spec_l2Same.dec at h
  split at h
  · cases h; exact ⟨rfl, rfl⟩
  · cases h
noncomputable def spec_l2Same.O (k : Nat) : Oracle := noO
def spec_l2Same.fh : FH := ⟨fun i => match i with | 2 => some [(0, 0), (1, 0), (10, 0), (11, 0)] | _ => none, [], false⟩
noncomputable def spec_l2Same.x0 (k : Nat) (x0 : List Int) (x1 : List Int) (x10 : Int) (x11 : Int) : Option Res := R.exec Try.prog xhn spec_l2Same.O 0 Try.f70 spec_l2Same.fh k (R.point Try.f70 2) ⟨[(0, .imm (.I .i64 x0)), (1, .imm (.I .i64 x1)), (10, .int .i64 x10), (11, .int .i64 x11)], [], 2⟩
set_option maxRecDepth 100000 in
theorem spec_l2Same.e0 (k : Nat) (x0 : List Int) (x1 : List Int) (x10 : Int) (x11 : Int) : spec_l2Same.x0 (k + 1) x0 x1 x10 x11 = (if x11 < x10 then (if 0 ≤ x11 then (if x11 < (x0.length : Int) then (if x11 < (x1.length : Int) then (if (rdI x0 x11) = (rdI x1 x11) then (spec_l2Same.x0 k x0 x1 x10 (wr64 (x11 + 1))) else (some (spec_l2Same.en false))) else none) else none) else none) else (some (spec_l2Same.en (decide ((x0.length : Int) = (x1.length : Int)))))) := by
  refine Eq.trans ?_ (R.icong (fun h0 => (R.icong (fun h1 => (R.icong (fun h2 => (R.idropT (p := 0 ≤ x11) (z := none) h1 rfl)) (fun h2 => rfl))) (fun h1 => rfl))) (fun h0 => rfl))
  kernel_rfl
set_option maxRecDepth 100000 in
theorem spec_l2Same.ef (k : Nat) (l0 : List Int) (l1 : List Int) : R.start Try.prog xhn spec_l2Same.O 0 Try.f70 spec_l2Same.fh k [.imm (.I .i64 l0), .imm (.I .i64 l1)] [] = (spec_l2Same.x0 k l0 l1 (mn (l0.length : Int) (l1.length : Int)) 0) := by kernel_rfl
theorem spec_l2Same.link : ∀ k, (∀ (x0 : List Int) (x1 : List Int) (x10 : Int) (x11 : Int), spec_l2Same.x0 k x0 x1 x10 x11 = (spec_l2Same.l0 k x0 x1 x10 x11).map (spec_l2Same.en))
  | 0 => fun _ _ _ _ => by simp only [spec_l2Same.l0, R.map_none]; rfl
  | k + 1 => by
    have ih0 := spec_l2Same.link k
    · intro x0 x1 x10 x11
      rw [spec_l2Same.e0]
      simp only [spec_l2Same.l0, R.map_ite, R.map_bind, R.map_none, R.map_some, R.wr64_eq, ← ih0]
theorem spec_l2Same.sf (k : Nat) (l0 : List Int) (l1 : List Int) : R.start Try.prog xhn spec_l2Same.O 0 Try.f70 spec_l2Same.fh k [.imm (.I .i64 l0), .imm (.I .i64 l1)] [] = (spec_l2Same.f k l0 l1).map (spec_l2Same.en) := by
  have ih0 := spec_l2Same.link k
  rw [spec_l2Same.ef]
  simp only [spec_l2Same.f, R.map_ite, R.map_bind, R.map_none, R.map_some, R.wr64_eq, ← ih0]
theorem spec_l2Same.ok (k : Nat) : spec_l2Same.tw.Ok Try.prog k := by
  intro md hmd a r h
  refine fn_ok (H := xhn) (fh := spec_l2Same.fh) (O := spec_l2Same.O) (k := k) Try.func70 (by kernel_rfl) (by kernel_rfl) (fun j _ => noO_sound) (by kernel_rfl) (m := 0) rfl ?_
  refine (spec_l2Same.sf k a.1 a.2).trans ?_
  exact congrArg (Option.map _) h
def spec_l8Closer_put.l0 : Nat → ByteArray → (List Elm) → Int → Int → Bool → Int → (List Int) → Option ((List Elm) × Bool)
  | 0, _, _, _, _, _, _, _ => none
  | k + 1, x2, y1, x12, x13, y0_1, y2_0, y2_1 => (if x13 < x12 then (if 0 ≤ x13 then (if x13 < (y1.length : Int) then ((spec_l2Same.f k ((rdE y1 x13).f1) y2_1).bind fun t1 => (if t1 = true then (some (y1, y0_1)) else (spec_l8Closer_put.l0 k x2 y1 x12 (wrap64 (x13 + 1)) y0_1 y2_0 y2_1))) else none) else none) else (if y0_1 = true then (some (y1, true)) else (if (y1.length : Int) ≥ 120 then (some (y1, true)) else (if (decide ((x2.size : Int) > 120)) = true then (some (y1, (decide ((x2.size : Int) > 120)))) else (if y1.length < 2932031007402 then (some ((y1 ++ [(⟨y2_0, y2_1, x2⟩ : Elm)]), (decide ((x2.size : Int) > 120)))) else none)))))
def spec_l8Closer_put.f (k : Nat) (a1_0 : Int) (l1_1 : List Int) (a2 : ByteArray) (l4 : List Elm) (a3_1 : Bool) : Option ((List Elm) × Bool) := (spec_l8Closer_put.l0 k a2 l4 (l4.length : Int) 0 a3_1 a1_0 l1_1)
def spec_l8Closer_put.en (r : (List Elm) × Bool) : Res := (.tup [], [.box false [.sl 1 1, .lit r.2], .arr 49 1 (.E r.1) false])
def spec_l8Closer_put.dec : List AV → List R.Obj → Option (Int × (List Int) × ByteArray × (List Elm) × Bool)
  | [.ptr 0 0, .agg [.int .i64 a1_0, .row (.I .i64 l1_1)], .str a2], [.box false [.sl 1 0, .lit a3_1], .arr 49 0 (.E l4) false] => some (a1_0, l1_1, a2, l4, a3_1)
  | _, _ => none
def spec_l8Closer_put.tw : Tw := ⟨54, Int × (List Int) × ByteArray × (List Elm) × Bool, (List Elm) × Bool, spec_l8Closer_put.dec, fun a => [.ptr 0 0, .agg [.int .i64 a.1, .row (.I .i64 a.2.1)], .str a.2.2.1], fun a => [.box false [.sl 1 0, .lit a.2.2.2.2], .arr 49 0 (.E a.2.2.2.1) false], fun k a => spec_l8Closer_put.f k a.1 a.2.1 a.2.2.1 a.2.2.2.1 a.2.2.2.2, fun a r => spec_l8Closer_put.en r, true⟩
theorem spec_l8Closer_put.dok : spec_l8Closer_put.tw.DecOk := by
  intro args hc a h
  have h : spec_l8Closer_put.dec args hc = some a := h
  unfold spec_l8Closer_put.dec at h
  split at h
  · cases h; exact ⟨rfl, rfl⟩
  · cases h
noncomputable def spec_l8Closer_put.O (k : Nat) : Oracle := (spec_l2Same.tw.orc k noO)
def spec_l8Closer_put.fh : FH := ⟨fun i => match i with | 2 => some [(0, 0), (2, 0), (4, 0), (11, 0), (12, 0), (13, 0)] | _ => none, [], true⟩
noncomputable def spec_l8Closer_put.x0 (k : Nat) (x2 : ByteArray) (y1 : List Elm) (x12 : Int) (x13 : Int) (y0_1 : Bool) (y2_0 : Int) (y2_1 : List Int) : Option Res := R.exec Try.prog xhn spec_l8Closer_put.O 2 Try.f54 spec_l8Closer_put.fh k (R.point Try.f54 2) ⟨[(0, .ptr 0 0), (2, .str x2), (4, .ptr 2 0), (11, .sl 1 1), (12, .int .i64 x12), (13, .int .i64 x13)], [(0, .box false [.sl 1 1, .lit y0_1]), (1, .arr 49 1 (.E y1) false), (2, .box false [.int .i64 y2_0, .row (.I .i64 y2_1)])], 5⟩
set_option maxRecDepth 100000 in
theorem spec_l8Closer_put.e0 (k : Nat) (x2 : ByteArray) (y1 : List Elm) (x12 : Int) (x13 : Int) (y0_1 : Bool) (y2_0 : Int) (y2_1 : List Int) : spec_l8Closer_put.x0 (k + 1) x2 y1 x12 x13 y0_1 y2_0 y2_1 = (if x13 < x12 then (if 0 ≤ x13 then (if x13 < (y1.length : Int) then ((spec_l2Same.f k ((rdE y1 x13).f1) y2_1).bind fun t1 => (if t1 = true then (some (spec_l8Closer_put.en (y1, y0_1))) else (spec_l8Closer_put.x0 k x2 y1 x12 (wr64 (x13 + 1)) y0_1 y2_0 y2_1))) else none) else none) else (if y0_1 = true then (some (spec_l8Closer_put.en (y1, true))) else (if (y1.length : Int) ≥ 120 then (some (spec_l8Closer_put.en (y1, true))) else (if (decide ((x2.size : Int) > 120)) = true then (some (spec_l8Closer_put.en (y1, (decide ((x2.size : Int) > 120))))) else (if y1.length < 2932031007402 then (some (spec_l8Closer_put.en ((y1 ++ [(⟨y2_0, y2_1, x2⟩ : Elm)]), (decide ((x2.size : Int) > 120))))) else none))))) := by kernel_rfl
set_option maxRecDepth 100000 in
theorem spec_l8Closer_put.ef (k : Nat) (a1_0 : Int) (l1_1 : List Int) (a2 : ByteArray) (l4 : List Elm) (a3_1 : Bool) : R.start Try.prog xhn spec_l8Closer_put.O 2 Try.f54 spec_l8Closer_put.fh k [.ptr 0 0, .agg [.int .i64 a1_0, .row (.I .i64 l1_1)], .str a2] [.box false [.sl 1 0, .lit a3_1], .arr 49 0 (.E l4) false] = (spec_l8Closer_put.x0 k a2 l4 (l4.length : Int) 0 a3_1 a1_0 l1_1) := by kernel_rfl
theorem spec_l8Closer_put.link : ∀ k, (∀ (x2 : ByteArray) (y1 : List Elm) (x12 : Int) (x13 : Int) (y0_1 : Bool) (y2_0 : Int) (y2_1 : List Int), spec_l8Closer_put.x0 k x2 y1 x12 x13 y0_1 y2_0 y2_1 = (spec_l8Closer_put.l0 k x2 y1 x12 x13 y0_1 y2_0 y2_1).map (spec_l8Closer_put.en))
  | 0 => fun _ _ _ _ _ _ _ => by simp only [spec_l8Closer_put.l0, R.map_none]; rfl
  | k + 1 => by
    have ih0 := spec_l8Closer_put.link k
    · intro x2 y1 x12 x13 y0_1 y2_0 y2_1
      rw [spec_l8Closer_put.e0]
      simp only [spec_l8Closer_put.l0, R.map_ite, R.map_bind, R.map_none, R.map_some, R.wr64_eq, ← ih0]
theorem spec_l8Closer_put.sf (k : Nat) (a1_0 : Int) (l1_1 : List Int) (a2 : ByteArray) (l4 : List Elm) (a3_1 : Bool) : R.start Try.prog xhn spec_l8Closer_put.O 2 Try.f54 spec_l8Closer_put.fh k [.ptr 0 0, .agg [.int .i64 a1_0, .row (.I .i64 l1_1)], .str a2] [.box false [.sl 1 0, .lit a3_1], .arr 49 0 (.E l4) false] = (spec_l8Closer_put.f k a1_0 l1_1 a2 l4 a3_1).map (spec_l8Closer_put.en) := by
  have ih0 := spec_l8Closer_put.link k
  rw [spec_l8Closer_put.ef]
  simp only [spec_l8Closer_put.f, R.map_ite, R.map_bind, R.map_none, R.map_some, R.wr64_eq, ← ih0]
theorem spec_l8Closer_put.ok (k : Nat) : spec_l8Closer_put.tw.Ok Try.prog k := by
  intro md hmd a r h
  refine fn_ok (H := xhn) (fh := spec_l8Closer_put.fh) (O := spec_l8Closer_put.O) (k := k) Try.func54 (by kernel_rfl) (by kernel_rfl) (fun j _ => (Tw.orc_sound spec_l2Same.dok (spec_l2Same.ok j) (fun _ => rfl) noO_sound)) (by kernel_rfl) (m := 2) rfl ?_
  refine (spec_l8Closer_put.sf k a.1 a.2.1 a.2.2.1 a.2.2.2.1 a.2.2.2.2).trans ?_
  exact congrArg (Option.map _) h
mutual
def spec_l6Mul.l0 : Nat → Int → Int → Int → (List Int) → Int → (List Int) → Int → (List Int) → Option (Int × (List Int))
  | 0, _, _, _, _, _, _, _, _ => none
  | k + 1, x16, x17, y0_0, y0_1, y1_0, y1_1, y3_0, y5 => (if x17 < x16 then (spec_l6Mul.l1 k x17 3 x16 x17 y0_0 0 y0_0 y0_1 y1_0 y1_1 y3_0 y5) else (some (y3_0, y5)))
def spec_l6Mul.l1 : Nat → Int → Int → Int → Int → Int → Int → Int → (List Int) → Int → (List Int) → Int → (List Int) → Option (Int × (List Int))
  | 0, _, _, _, _, _, _, _, _, _, _, _, _ => none
  | k + 1, x6, x7, x16, x17, x21, x22, y0_0, y0_1, y1_0, y1_1, y3_0, y5 => (if x22 < x21 then (if y0_0 = 0 then none else (if 0 ≤ (wrap64 ((wrap64 ((wrap64 (x6.tdiv y0_0)) * y0_0)) + x22)) then (if (wrap64 ((wrap64 ((wrap64 (x6.tdiv y0_0)) * y0_0)) + x22)) < (y0_1.length : Int) then (if 0 ≤ (wrap64 ((wrap64 (x22 * y0_0)) + (x6.tmod y0_0))) then (if (wrap64 ((wrap64 (x22 * y0_0)) + (x6.tmod y0_0))) < (y1_1.length : Int) then (spec_l6Mul.l1 k x6 (mn x7 (mx (rdI y0_1 (wrap64 ((wrap64 ((wrap64 (x6.tdiv y0_0)) * y0_0)) + x22))) (rdI y1_1 (wrap64 ((wrap64 (x22 * y0_0)) + (x6.tmod y0_0)))))) x16 x17 x21 (wrap64 (x22 + 1)) y0_0 y0_1 y1_0 y1_1 y3_0 y5) else none) else none) else none) else none)) else (if y5.length < 17592186044416 then (spec_l6Mul.l0 k x16 (wrap64 (x17 + 1)) y0_0 y0_1 y1_0 y1_1 y3_0 (y5 ++ [x7])) else none))
end
def spec_l6Mul.f (k : Nat) (a0_0 : Int) (l0_1 : List Int) (a1_0 : Int) (l1_1 : List Int) : Option (Int × (List Int)) := (spec_l6Mul.l0 k (wrap64 (a0_0 * a0_0)) 0 a0_0 l0_1 a1_0 l1_1 a0_0 ([] : List Int))
def spec_l6Mul.en (r : Int × (List Int)) : Res := (.agg [.int .i64 r.1, .sl 0 0], [.arr 3 0 (.I .i64 r.2) false])
def spec_l6Mul.dec : List AV → List R.Obj → Option (Int × (List Int) × Int × (List Int))
  | [.agg [.int .i64 a0_0, .imm (.I .i64 l0_1)], .agg [.int .i64 a1_0, .imm (.I .i64 l1_1)]], [] => some (a0_0, l0_1, a1_0, l1_1)
  | _, _ => none
def spec_l6Mul.tw : Tw := ⟨57, Int × (List Int) × Int × (List Int), Int × (List Int), spec_l6Mul.dec, fun a => [.agg [.int .i64 a.1, .imm (.I .i64 a.2.1)], .agg [.int .i64 a.2.2.1, .imm (.I .i64 a.2.2.2)]], fun a => [], fun k a => spec_l6Mul.f k a.1 a.2.1 a.2.2.1 a.2.2.2, fun a r => spec_l6Mul.en r, true⟩
theorem spec_l6Mul.dok : spec_l6Mul.tw.DecOk := by
  intro args hc a h
  have h : spec_l6Mul.dec args hc = some a := h
  unfold spec_l6Mul.dec at h
  split at h
  · cases h; exact ⟨rfl, rfl⟩
  · cases h
noncomputable def spec_l6Mul.O (k : Nat) : Oracle := noO
def spec_l6Mul.fh : FH := ⟨fun i => match i with | 3 => some [(2, 0), (3, 0), (4, 0), (5, 0), (16, 0), (17, 0)] | 7 => some [(2, 0), (3, 0), (4, 0), (5, 0), (6, 0), (7, 0), (16, 0), (17, 0), (21, 0), (22, 0)] | _ => none, [(true, 3)], false⟩
noncomputable def spec_l6Mul.x0 (k : Nat) (x16 : Int) (x17 : Int) (y0_0 : Int) (y0_1 : List Int) (y1_0 : Int) (y1_1 : List Int) (y3_0 : Int) (y5 : List Int) : Option Res := R.exec Try.prog xhn spec_l6Mul.O 0 Try.f57 spec_l6Mul.fh k (R.point Try.f57 3) ⟨[(2, .ptr 0 0), (3, .ptr 1 0), (4, .ptr 2 0), (5, .ptr 3 0), (16, .int .i64 x16), (17, .int .i64 x17)], [(0, .box false [.int .i64 y0_0, .imm (.I .i64 y0_1)]), (1, .box false [.int .i64 y1_0, .imm (.I .i64 y1_1)]), (2, .box false [.int .i64 0, .sl 4 0]), (3, .box false [.int .i64 y3_0, .sl 5 0]), (4, .arr 3 0 (.I .i64 ([] : List Int)) false), (5, .arr 3 0 (.I .i64 y5) false)], 8⟩
noncomputable def spec_l6Mul.x1 (k : Nat) (x6 : Int) (x7 : Int) (x16 : Int) (x17 : Int) (x21 : Int) (x22 : Int) (y0_0 : Int) (y0_1 : List Int) (y1_0 : Int) (y1_1 : List Int) (y3_0 : Int) (y5 : List Int) : Option Res := R.exec Try.prog xhn spec_l6Mul.O 0 Try.f57 spec_l6Mul.fh k (R.point Try.f57 7) ⟨[(2, .ptr 0 0), (3, .ptr 1 0), (4, .ptr 2 0), (5, .ptr 3 0), (6, .int .i64 x6), (7, .int .i64 x7), (16, .int .i64 x16), (17, .int .i64 x17), (21, .int .i64 x21), (22, .int .i64 x22)], [(0, .box false [.int .i64 y0_0, .imm (.I .i64 y0_1)]), (1, .box false [.int .i64 y1_0, .imm (.I .i64 y1_1)]), (2, .box false [.int .i64 0, .sl 4 0]), (3, .box false [.int .i64 y3_0, .sl 5 0]), (4, .arr 3 0 (.I .i64 ([] : List Int)) false), (5, .arr 3 0 (.I .i64 y5) false)], 8⟩
set_option maxRecDepth 100000 in
theorem spec_l6Mul.e0 (k : Nat) (x16 : Int) (x17 : Int) (y0_0 : Int) (y0_1 : List Int) (y1_0 : Int) (y1_1 : List Int) (y3_0 : Int) (y5 : List Int) : spec_l6Mul.x0 (k + 1) x16 x17 y0_0 y0_1 y1_0 y1_1 y3_0 y5 = (if x17 < x16 then (spec_l6Mul.x1 k x17 3 x16 x17 y0_0 0 y0_0 y0_1 y1_0 y1_1 y3_0 y5) else (some (spec_l6Mul.en (y3_0, y5)))) := by kernel_rfl
set_option maxRecDepth 100000 in
theorem spec_l6Mul.e1 (k : Nat) (x6 : Int) (x7 : Int) (x16 : Int) (x17 : Int) (x21 : Int) (x22 : Int) (y0_0 : Int) (y0_1 : List Int) (y1_0 : Int) (y1_1 : List Int) (y3_0 : Int) (y5 : List Int) : spec_l6Mul.x1 (k + 1) x6 x7 x16 x17 x21 x22 y0_0 y0_1 y1_0 y1_1 y3_0 y5 = (if x22 < x21 then (if y0_0 = 0 then none else (if 0 ≤ (wr64 ((wr64 ((wr64 (x6.tdiv y0_0)) * y0_0)) + x22)) then (if (wr64 ((wr64 ((wr64 (x6.tdiv y0_0)) * y0_0)) + x22)) < (y0_1.length : Int) then (if 0 ≤ (wr64 ((wr64 (x22 * y0_0)) + (x6.tmod y0_0))) then (if (wr64 ((wr64 (x22 * y0_0)) + (x6.tmod y0_0))) < (y1_1.length : Int) then (spec_l6Mul.x1 k x6 (mn x7 (mx (rdI y0_1 (wr64 ((wr64 ((wr64 (x6.tdiv y0_0)) * y0_0)) + x22))) (rdI y1_1 (wr64 ((wr64 (x22 * y0_0)) + (x6.tmod y0_0)))))) x16 x17 x21 (wr64 (x22 + 1)) y0_0 y0_1 y1_0 y1_1 y3_0 y5) else none) else none) else none) else none)) else (if y5.length < 17592186044416 then (spec_l6Mul.x0 k x16 (wr64 (x17 + 1)) y0_0 y0_1 y1_0 y1_1 y3_0 (y5 ++ [x7])) else none)) := by
  refine Eq.trans ?_ (R.icong (fun h0 => (R.icong (fun h1 => rfl) (fun h1 => (R.icong (fun h2 => (R.icong (fun h3 => (R.idropF (p := y0_0 = 0) (z := none) h1 rfl)) (fun h3 => rfl))) (fun h2 => rfl))))) (fun h0 => rfl))
  kernel_rfl
set_option maxRecDepth 100000 in
theorem spec_l6Mul.ef (k : Nat) (a0_0 : Int) (l0_1 : List Int) (a1_0 : Int) (l1_1 : List Int) : R.start Try.prog xhn spec_l6Mul.O 0 Try.f57 spec_l6Mul.fh k [.agg [.int .i64 a0_0, .imm (.I .i64 l0_1)], .agg [.int .i64 a1_0, .imm (.I .i64 l1_1)]] [] = (spec_l6Mul.x0 k (wr64 (a0_0 * a0_0)) 0 a0_0 l0_1 a1_0 l1_1 a0_0 ([] : List Int)) := by kernel_rfl
theorem spec_l6Mul.link : ∀ k, (∀ (x16 : Int) (x17 : Int) (y0_0 : Int) (y0_1 : List Int) (y1_0 : Int) (y1_1 : List Int) (y3_0 : Int) (y5 : List Int), spec_l6Mul.x0 k x16 x17 y0_0 y0_1 y1_0 y1_1 y3_0 y5 = (spec_l6Mul.l0 k x16 x17 y0_0 y0_1 y1_0 y1_1 y3_0 y5).map (spec_l6Mul.en)) ∧ (∀ (x6 : Int) (x7 : Int) (x16 : Int) (x17 : Int) (x21 : Int) (x22 : Int) (y0_0 : Int) (y0_1 : List Int) (y1_0 : Int) (y1_1 : List Int) (y3_0 : Int) (y5 : List Int), spec_l6Mul.x1 k x6 x7 x16 x17 x21 x22 y0_0 y0_1 y1_0 y1_1 y3_0 y5 = (spec_l6Mul.l1 k x6 x7 x16 x17 x21 x22 y0_0 y0_1 y1_0 y1_1 y3_0 y5).map (spec_l6Mul.en))
  | 0 => ⟨fun _ _ _ _ _ _ _ _ => by simp only [spec_l6Mul.l0, R.map_none]; rfl, fun _ _ _ _ _ _ _ _ _ _ _ _ => by simp only [spec_l6Mul.l1, R.map_none]; rfl⟩
  | k + 1 => by
    obtain ⟨ih0, ih1⟩ := spec_l6Mul.link k
    refine ⟨?_, ?_⟩
    · intro x16 x17 y0_0 y0_1 y1_0 y1_1 y3_0 y5
      rw [spec_l6Mul.e0]
      simp only [spec_l6Mul.l0, R.map_ite, R.map_bind, R.map_none, R.map_some, R.wr64_eq, ← ih0, ← ih1]
    · intro x6 x7 x16 x17 x21 x22 y0_0 y0_1 y1_0 y1_1 y3_0 y5
      rw [spec_l6Mul.e1]
      simp only [spec_l6Mul.l1, R.map_ite, R.map_bind, R.map_none, R.map_some, R.wr64_eq, ← ih0, ← ih1]
theorem spec_l6Mul.sf (k : Nat) (a0_0 : Int) (l0_1 : List Int) (a1_0 : Int) (l1_1 : List Int) : R.start Try.prog xhn spec_l6Mul.O 0 Try.f57 spec_l6Mul.fh k [.agg [.int .i64 a0_0, .imm (.I .i64 l0_1)], .agg [.int .i64 a1_0, .imm (.I .i64 l1_1)]] [] = (spec_l6Mul.f k a0_0 l0_1 a1_0 l1_1).map (spec_l6Mul.en) := by
  obtain ⟨ih0, ih1⟩ := spec_l6Mul.link k
  rw [spec_l6Mul.ef]
  simp only [spec_l6Mul.f, R.map_ite, R.map_bind, R.map_none, R.map_some, R.wr64_eq, ← ih0, ← ih1]
theorem spec_l6Mul.ok (k : Nat) : spec_l6Mul.tw.Ok Try.prog k := by
  intro md hmd a r h
  refine fn_ok (H := xhn) (fh := spec_l6Mul.fh) (O := spec_l6Mul.O) (k := k) Try.func57 (by kernel_rfl) (by kernel_rfl) (fun j _ => noO_sound) (by kernel_rfl) (m := 0) rfl ?_
  refine (spec_l6Mul.sf k a.1 a.2.1 a.2.2.1 a.2.2.2).trans ?_
  exact congrArg (Option.map _) h
def spec_l6Idempotent.f (k : Nat) (a0_0 : Int) (l0_1 : List Int) : Option (Bool) := ((spec_l6Mul.f k a0_0 l0_1 a0_0 l0_1).bind fun t1 => ((spec_l2Same.f k t1.2 l0_1).bind fun t2 => (some t2)))
def spec_l6Idempotent.en (r : Bool) : Res := (.lit r, [])
def spec_l6Idempotent.dec : List AV → List R.Obj → Option (Int × (List Int))
  | [.agg [.int .i64 a0_0, .imm (.I .i64 l0_1)]], [] => some (a0_0, l0_1)
  | _, _ => none
def spec_l6Idempotent.tw : Tw := ⟨55, Int × (List Int), Bool, spec_l6Idempotent.dec, fun a => [.agg [.int .i64 a.1, .imm (.I .i64 a.2)]], fun a => [], fun k a => spec_l6Idempotent.f k a.1 a.2, fun a r => spec_l6Idempotent.en r, true⟩
theorem spec_l6Idempotent.dok : spec_l6Idempotent.tw.DecOk := by
  intro args hc a h
  have h : spec_l6Idempotent.dec args hc = some a := h
  unfold spec_l6Idempotent.dec at h
  split at h
  · cases h; exact ⟨rfl, rfl⟩
  · cases h
noncomputable def spec_l6Idempotent.O (k : Nat) : Oracle := (spec_l6Mul.tw.orc k (spec_l2Same.tw.orc k noO))
def spec_l6Idempotent.fh : FH := ⟨fun i => match i with | _ => none, [], false⟩
set_option maxRecDepth 100000 in
theorem spec_l6Idempotent.ef (k : Nat) (a0_0 : Int) (l0_1 : List Int) : R.start Try.prog xhn spec_l6Idempotent.O 0 Try.f55 spec_l6Idempotent.fh k [.agg [.int .i64 a0_0, .imm (.I .i64 l0_1)]] [] = ((spec_l6Mul.f k a0_0 l0_1 a0_0 l0_1).bind fun t1 => ((spec_l2Same.f k t1.2 l0_1).bind fun t2 => (some (spec_l6Idempotent.en t2)))) := by kernel_rfl
theorem spec_l6Idempotent.sf (k : Nat) (a0_0 : Int) (l0_1 : List Int) : R.start Try.prog xhn spec_l6Idempotent.O 0 Try.f55 spec_l6Idempotent.fh k [.agg [.int .i64 a0_0, .imm (.I .i64 l0_1)]] [] = (spec_l6Idempotent.f k a0_0 l0_1).map (spec_l6Idempotent.en) := by
  rw [spec_l6Idempotent.ef]
  simp only [spec_l6Idempotent.f, R.map_ite, R.map_bind, R.map_none, R.map_some, R.wr64_eq]
theorem spec_l6Idempotent.ok (k : Nat) : spec_l6Idempotent.tw.Ok Try.prog k := by
  intro md hmd a r h
  refine fn_ok (H := xhn) (fh := spec_l6Idempotent.fh) (O := spec_l6Idempotent.O) (k := k) Try.func55 (by kernel_rfl) (by kernel_rfl) (fun j _ => (Tw.orc_sound spec_l6Mul.dok (spec_l6Mul.ok j) (fun _ => rfl) (Tw.orc_sound spec_l2Same.dok (spec_l2Same.ok j) (fun _ => rfl) noO_sound))) (by kernel_rfl) (m := 0) rfl ?_
  refine (spec_l6Idempotent.sf k a.1 a.2).trans ?_
  exact congrArg (Option.map _) h
def spec_l6Again.f (a0 : Int) : Option (Int) := (if a0 = 1 then (some 2) else (some a0))
def spec_l6Again.en (r : Int) : Res := (.int .i64 r, [])
def spec_l6Again.dec : List AV → List R.Obj → Option (Int)
  | [.int .i64 a0], [] => some a0
  | _, _ => none
def spec_l6Again.tw : Tw := ⟨71, Int, Int, spec_l6Again.dec, fun a => [.int .i64 a], fun a => [], fun k a => spec_l6Again.f a, fun a r => spec_l6Again.en r, true⟩
theorem spec_l6Again.dok : spec_l6Again.tw.DecOk := by
  intro args hc a h
  have h : spec_l6Again.dec args hc = some a := h
  unfold spec_l6Again.dec at h
  split at h
  · cases h; exact ⟨rfl, rfl⟩
  · cases h
noncomputable def spec_l6Again.O (k : Nat) : Oracle := noO
def spec_l6Again.fh : FH := ⟨fun i => match i with | _ => none, [], false⟩
set_option maxRecDepth 100000 in
theorem spec_l6Again.ef (k : Nat) (a0 : Int) : R.start Try.prog xhn spec_l6Again.O 0 Try.f71 spec_l6Again.fh k [.int .i64 a0] [] = (if a0 = 1 then (some (spec_l6Again.en 2)) else (some (spec_l6Again.en a0))) := by kernel_rfl
theorem spec_l6Again.sf (k : Nat) (a0 : Int) : R.start Try.prog xhn spec_l6Again.O 0 Try.f71 spec_l6Again.fh k [.int .i64 a0] [] = (spec_l6Again.f a0).map (spec_l6Again.en) := by
  rw [spec_l6Again.ef]
  simp only [spec_l6Again.f, R.map_ite, R.map_bind, R.map_none, R.map_some, R.wr64_eq]
theorem spec_l6Again.ok (k : Nat) : spec_l6Again.tw.Ok Try.prog k := by
  intro md hmd a r h
  refine fn_ok (H := xhn) (fh := spec_l6Again.fh) (O := spec_l6Again.O) (k := k) Try.func71 (by kernel_rfl) (by kernel_rfl) (fun j _ => noO_sound) (by kernel_rfl) (m := 0) rfl ?_
  refine (spec_l6Again.sf k a).trans ?_
  exact congrArg (Option.map _) h
mutual
def spec_l6Stable.l0 : Nat → Int → Int → Int → (List Int) → Int → (List Int) → Option (Int × (List Int))
  | 0, _, _, _, _, _, _ => none
  | k + 1, x14, x15, y0_0, y0_1, y2_0, y4 => (if x15 < x14 then (spec_l6Stable.l1 k x15 3 x14 x15 y0_0 0 y0_0 y0_1 y2_0 y4) else (some (y2_0, y4)))
def spec_l6Stable.l1 : Nat → Int → Int → Int → Int → Int → Int → Int → (List Int) → Int → (List Int) → Option (Int × (List Int))
  | 0, _, _, _, _, _, _, _, _, _, _ => none
  | k + 1, x4, x5, x14, x15, x19, x20, y0_0, y0_1, y2_0, y4 => (if x20 < x19 then (if y0_0 = 0 then none else (if 0 ≤ (wrap64 ((wrap64 ((wrap64 (x4.tdiv y0_0)) * y0_0)) + x20)) then (if (wrap64 ((wrap64 ((wrap64 (x4.tdiv y0_0)) * y0_0)) + x20)) < (y0_1.length : Int) then (if 0 ≤ (wrap64 ((wrap64 (x20 * y0_0)) + x20)) then (if (wrap64 ((wrap64 (x20 * y0_0)) + x20)) < (y0_1.length : Int) then ((spec_l6Again.f (rdI y0_1 (wrap64 ((wrap64 (x20 * y0_0)) + x20)))).bind fun t1 => (if 0 ≤ (wrap64 ((wrap64 (x20 * y0_0)) + (x4.tmod y0_0))) then (if (wrap64 ((wrap64 (x20 * y0_0)) + (x4.tmod y0_0))) < (y0_1.length : Int) then (spec_l6Stable.l1 k x4 (mn x5 (mx (mx (rdI y0_1 (wrap64 ((wrap64 ((wrap64 (x4.tdiv y0_0)) * y0_0)) + x20))) t1) (rdI y0_1 (wrap64 ((wrap64 (x20 * y0_0)) + (x4.tmod y0_0)))))) x14 x15 x19 (wrap64 (x20 + 1)) y0_0 y0_1 y2_0 y4) else none) else none)) else none) else none) else none) else none)) else (if y4.length < 17592186044416 then (spec_l6Stable.l0 k x14 (wrap64 (x15 + 1)) y0_0 y0_1 y2_0 (y4 ++ [x5])) else none))
end
def spec_l6Stable.f (k : Nat) (a0_0 : Int) (l0_1 : List Int) : Option (Int × (List Int)) := (spec_l6Stable.l0 k (wrap64 (a0_0 * a0_0)) 0 a0_0 l0_1 a0_0 ([] : List Int))
def spec_l6Stable.en (r : Int × (List Int)) : Res := (.agg [.int .i64 r.1, .sl 0 0], [.arr 3 0 (.I .i64 r.2) false])
def spec_l6Stable.dec : List AV → List R.Obj → Option (Int × (List Int))
  | [.agg [.int .i64 a0_0, .imm (.I .i64 l0_1)]], [] => some (a0_0, l0_1)
  | _, _ => none
def spec_l6Stable.tw : Tw := ⟨56, Int × (List Int), Int × (List Int), spec_l6Stable.dec, fun a => [.agg [.int .i64 a.1, .imm (.I .i64 a.2)]], fun a => [], fun k a => spec_l6Stable.f k a.1 a.2, fun a r => spec_l6Stable.en r, true⟩
theorem spec_l6Stable.dok : spec_l6Stable.tw.DecOk := by
  intro args hc a h
  have h : spec_l6Stable.dec args hc = some a := h
  unfold spec_l6Stable.dec at h
  split at h
  · cases h; exact ⟨rfl, rfl⟩
  · cases h
noncomputable def spec_l6Stable.O (k : Nat) : Oracle := (spec_l6Again.tw.orc k noO)
def spec_l6Stable.fh : FH := ⟨fun i => match i with | 3 => some [(1, 0), (2, 0), (3, 0), (14, 0), (15, 0)] | 7 => some [(1, 0), (2, 0), (3, 0), (4, 0), (5, 0), (14, 0), (15, 0), (19, 0), (20, 0)] | _ => none, [(true, 3)], false⟩
noncomputable def spec_l6Stable.x0 (k : Nat) (x14 : Int) (x15 : Int) (y0_0 : Int) (y0_1 : List Int) (y2_0 : Int) (y4 : List Int) : Option Res := R.exec Try.prog xhn spec_l6Stable.O 0 Try.f56 spec_l6Stable.fh k (R.point Try.f56 3) ⟨[(1, .ptr 0 0), (2, .ptr 1 0), (3, .ptr 2 0), (14, .int .i64 x14), (15, .int .i64 x15)], [(0, .box false [.int .i64 y0_0, .imm (.I .i64 y0_1)]), (1, .box false [.int .i64 0, .sl 3 0]), (2, .box false [.int .i64 y2_0, .sl 4 0]), (3, .arr 3 0 (.I .i64 ([] : List Int)) false), (4, .arr 3 0 (.I .i64 y4) false)], 7⟩
noncomputable def spec_l6Stable.x1 (k : Nat) (x4 : Int) (x5 : Int) (x14 : Int) (x15 : Int) (x19 : Int) (x20 : Int) (y0_0 : Int) (y0_1 : List Int) (y2_0 : Int) (y4 : List Int) : Option Res := R.exec Try.prog xhn spec_l6Stable.O 0 Try.f56 spec_l6Stable.fh k (R.point Try.f56 7) ⟨[(1, .ptr 0 0), (2, .ptr 1 0), (3, .ptr 2 0), (4, .int .i64 x4), (5, .int .i64 x5), (14, .int .i64 x14), (15, .int .i64 x15), (19, .int .i64 x19), (20, .int .i64 x20)], [(0, .box false [.int .i64 y0_0, .imm (.I .i64 y0_1)]), (1, .box false [.int .i64 0, .sl 3 0]), (2, .box false [.int .i64 y2_0, .sl 4 0]), (3, .arr 3 0 (.I .i64 ([] : List Int)) false), (4, .arr 3 0 (.I .i64 y4) false)], 7⟩
set_option maxRecDepth 100000 in
theorem spec_l6Stable.e0 (k : Nat) (x14 : Int) (x15 : Int) (y0_0 : Int) (y0_1 : List Int) (y2_0 : Int) (y4 : List Int) : spec_l6Stable.x0 (k + 1) x14 x15 y0_0 y0_1 y2_0 y4 = (if x15 < x14 then (spec_l6Stable.x1 k x15 3 x14 x15 y0_0 0 y0_0 y0_1 y2_0 y4) else (some (spec_l6Stable.en (y2_0, y4)))) := by kernel_rfl
set_option maxRecDepth 100000 in
theorem spec_l6Stable.e1 (k : Nat) (x4 : Int) (x5 : Int) (x14 : Int) (x15 : Int) (x19 : Int) (x20 : Int) (y0_0 : Int) (y0_1 : List Int) (y2_0 : Int) (y4 : List Int) : spec_l6Stable.x1 (k + 1) x4 x5 x14 x15 x19 x20 y0_0 y0_1 y2_0 y4 = (if x20 < x19 then (if y0_0 = 0 then none else (if 0 ≤ (wr64 ((wr64 ((wr64 (x4.tdiv y0_0)) * y0_0)) + x20)) then (if (wr64 ((wr64 ((wr64 (x4.tdiv y0_0)) * y0_0)) + x20)) < (y0_1.length : Int) then (if 0 ≤ (wr64 ((wr64 (x20 * y0_0)) + x20)) then (if (wr64 ((wr64 (x20 * y0_0)) + x20)) < (y0_1.length : Int) then ((spec_l6Again.f (rdI y0_1 (wr64 ((wr64 (x20 * y0_0)) + x20)))).bind fun t1 => (if 0 ≤ (wr64 ((wr64 (x20 * y0_0)) + (x4.tmod y0_0))) then (if (wr64 ((wr64 (x20 * y0_0)) + (x4.tmod y0_0))) < (y0_1.length : Int) then (spec_l6Stable.x1 k x4 (mn x5 (mx (mx (rdI y0_1 (wr64 ((wr64 ((wr64 (x4.tdiv y0_0)) * y0_0)) + x20))) t1) (rdI y0_1 (wr64 ((wr64 (x20 * y0_0)) + (x4.tmod y0_0)))))) x14 x15 x19 (wr64 (x20 + 1)) y0_0 y0_1 y2_0 y4) else none) else none)) else none) else none) else none) else none)) else (if y4.length < 17592186044416 then (spec_l6Stable.x0 k x14 (wr64 (x15 + 1)) y0_0 y0_1 y2_0 (y4 ++ [x5])) else none)) := by
  refine Eq.trans ?_ (R.icong (fun h0 => (R.icong (fun h1 => rfl) (fun h1 => (R.icong (fun h2 => (R.icong (fun h3 => (R.icong (fun h4 => (R.icong (fun h5 => (R.bcong fun t1 => (R.idropF (p := y0_0 = 0) (z := none) h1 rfl))) (fun h5 => rfl))) (fun h4 => rfl))) (fun h3 => rfl))) (fun h2 => rfl))))) (fun h0 => rfl))
  kernel_rfl
set_option maxRecDepth 100000 in
theorem spec_l6Stable.ef (k : Nat) (a0_0 : Int) (l0_1 : List Int) : R.start Try.prog xhn spec_l6Stable.O 0 Try.f56 spec_l6Stable.fh k [.agg [.int .i64 a0_0, .imm (.I .i64 l0_1)]] [] = (spec_l6Stable.x0 k (wr64 (a0_0 * a0_0)) 0 a0_0 l0_1 a0_0 ([] : List Int)) := by kernel_rfl
theorem spec_l6Stable.link : ∀ k, (∀ (x14 : Int) (x15 : Int) (y0_0 : Int) (y0_1 : List Int) (y2_0 : Int) (y4 : List Int), spec_l6Stable.x0 k x14 x15 y0_0 y0_1 y2_0 y4 = (spec_l6Stable.l0 k x14 x15 y0_0 y0_1 y2_0 y4).map (spec_l6Stable.en)) ∧ (∀ (x4 : Int) (x5 : Int) (x14 : Int) (x15 : Int) (x19 : Int) (x20 : Int) (y0_0 : Int) (y0_1 : List Int) (y2_0 : Int) (y4 : List Int), spec_l6Stable.x1 k x4 x5 x14 x15 x19 x20 y0_0 y0_1 y2_0 y4 = (spec_l6Stable.l1 k x4 x5 x14 x15 x19 x20 y0_0 y0_1 y2_0 y4).map (spec_l6Stable.en))
  | 0 => ⟨fun _ _ _ _ _ _ => by simp only [spec_l6Stable.l0, R.map_none]; rfl, fun _ _ _ _ _ _ _ _ _ _ => by simp only [spec_l6Stable.l1, R.map_none]; rfl⟩
  | k + 1 => by
    obtain ⟨ih0, ih1⟩ := spec_l6Stable.link k
    refine ⟨?_, ?_⟩
    · intro x14 x15 y0_0 y0_1 y2_0 y4
      rw [spec_l6Stable.e0]
      simp only [spec_l6Stable.l0, R.map_ite, R.map_bind, R.map_none, R.map_some, R.wr64_eq, ← ih0, ← ih1]
    · intro x4 x5 x14 x15 x19 x20 y0_0 y0_1 y2_0 y4
      rw [spec_l6Stable.e1]
      simp only [spec_l6Stable.l1, R.map_ite, R.map_bind, R.map_none, R.map_some, R.wr64_eq, ← ih0, ← ih1]
theorem spec_l6Stable.sf (k : Nat) (a0_0 : Int) (l0_1 : List Int) : R.start Try.prog xhn spec_l6Stable.O 0 Try.f56 spec_l6Stable.fh k [.agg [.int .i64 a0_0, .imm (.I .i64 l0_1)]] [] = (spec_l6Stable.f k a0_0 l0_1).map (spec_l6Stable.en) := by
  obtain ⟨ih0, ih1⟩ := spec_l6Stable.link k
  rw [spec_l6Stable.ef]
  simp only [spec_l6Stable.f, R.map_ite, R.map_bind, R.map_none, R.map_some, R.wr64_eq, ← ih0, ← ih1]
theorem spec_l6Stable.ok (k : Nat) : spec_l6Stable.tw.Ok Try.prog k := by
  intro md hmd a r h
  refine fn_ok (H := xhn) (fh := spec_l6Stable.fh) (O := spec_l6Stable.O) (k := k) Try.func56 (by kernel_rfl) (by kernel_rfl) (fun j _ => (Tw.orc_sound spec_l6Again.dok (spec_l6Again.ok j) (fun _ => rfl) noO_sound)) (by kernel_rfl) (m := 0) rfl ?_
  refine (spec_l6Stable.sf k a.1 a.2).trans ?_
  exact congrArg (Option.map _) h
def spec_l8Closer_put_b.l0 : Nat → ByteArray → (List Elm) → Int → Int → Bool → Int → (List Int) → Option ((List Elm) × Bool)
  | 0, _, _, _, _, _, _, _ => none
  | k + 1, x2, y1, x12, x13, y0_1, y2_0, y2_1 => (if x13 < x12 then (if 0 ≤ x13 then (if x13 < (y1.length : Int) then ((spec_l2Same.f k ((rdE y1 x13).f1) y2_1).bind fun t1 => (if t1 = true then (some (y1, y0_1)) else (spec_l8Closer_put_b.l0 k x2 y1 x12 (wrap64 (x13 + 1)) y0_1 y2_0 y2_1))) else none) else none) else (if y0_1 = true then (some (y1, true)) else (if (y1.length : Int) ≥ 120 then (some (y1, true)) else (if (decide ((x2.size : Int) > 120)) = true then (some (y1, (decide ((x2.size : Int) > 120)))) else (if y1.length < 2932031007402 then (some ((y1 ++ [(⟨y2_0, y2_1, x2⟩ : Elm)]), (decide ((x2.size : Int) > 120)))) else none)))))
def spec_l8Closer_put_b.f (k : Nat) (a1_0 : Int) (l1_1 : List Int) (a2 : ByteArray) (l4 : List Elm) (a3_1 : Bool) : Option ((List Elm) × Bool) := (spec_l8Closer_put_b.l0 k a2 l4 (l4.length : Int) 0 a3_1 a1_0 l1_1)
def spec_l8Closer_put_b.en (r : (List Elm) × Bool) : Res := (.tup [], [.box false [.sl 1 1, .lit r.2], .arr 49 1 (.E r.1) true])
def spec_l8Closer_put_b.dec : List AV → List R.Obj → Option (Int × (List Int) × ByteArray × (List Elm) × Bool)
  | [.ptr 0 0, .agg [.int .i64 a1_0, .row (.I .i64 l1_1)], .str a2], [.box false [.sl 1 0, .lit a3_1], .arr 49 0 (.E l4) true] => some (a1_0, l1_1, a2, l4, a3_1)
  | _, _ => none
def spec_l8Closer_put_b.tw : Tw := ⟨54, Int × (List Int) × ByteArray × (List Elm) × Bool, (List Elm) × Bool, spec_l8Closer_put_b.dec, fun a => [.ptr 0 0, .agg [.int .i64 a.1, .row (.I .i64 a.2.1)], .str a.2.2.1], fun a => [.box false [.sl 1 0, .lit a.2.2.2.2], .arr 49 0 (.E a.2.2.2.1) true], fun k a => spec_l8Closer_put_b.f k a.1 a.2.1 a.2.2.1 a.2.2.2.1 a.2.2.2.2, fun a r => spec_l8Closer_put_b.en r, true⟩
theorem spec_l8Closer_put_b.dok : spec_l8Closer_put_b.tw.DecOk := by
  intro args hc a h
  have h : spec_l8Closer_put_b.dec args hc = some a := h
  unfold spec_l8Closer_put_b.dec at h
  split at h
  · cases h; exact ⟨rfl, rfl⟩
  · cases h
noncomputable def spec_l8Closer_put_b.O (k : Nat) : Oracle := (spec_l2Same.tw.orc k noO)
def spec_l8Closer_put_b.fh : FH := ⟨fun i => match i with | 2 => some [(0, 0), (2, 0), (4, 0), (11, 0), (12, 0), (13, 0)] | _ => none, [], true⟩
noncomputable def spec_l8Closer_put_b.x0 (k : Nat) (x2 : ByteArray) (y1 : List Elm) (x12 : Int) (x13 : Int) (y0_1 : Bool) (y2_0 : Int) (y2_1 : List Int) : Option Res := R.exec Try.prog xhn spec_l8Closer_put_b.O 2 Try.f54 spec_l8Closer_put_b.fh k (R.point Try.f54 2) ⟨[(0, .ptr 0 0), (2, .str x2), (4, .ptr 2 0), (11, .sl 1 1), (12, .int .i64 x12), (13, .int .i64 x13)], [(0, .box false [.sl 1 1, .lit y0_1]), (1, .arr 49 1 (.E y1) true), (2, .box false [.int .i64 y2_0, .row (.I .i64 y2_1)])], 5⟩
set_option maxRecDepth 100000 in
theorem spec_l8Closer_put_b.e0 (k : Nat) (x2 : ByteArray) (y1 : List Elm) (x12 : Int) (x13 : Int) (y0_1 : Bool) (y2_0 : Int) (y2_1 : List Int) : spec_l8Closer_put_b.x0 (k + 1) x2 y1 x12 x13 y0_1 y2_0 y2_1 = (if x13 < x12 then (if 0 ≤ x13 then (if x13 < (y1.length : Int) then ((spec_l2Same.f k ((rdE y1 x13).f1) y2_1).bind fun t1 => (if t1 = true then (some (spec_l8Closer_put_b.en (y1, y0_1))) else (spec_l8Closer_put_b.x0 k x2 y1 x12 (wr64 (x13 + 1)) y0_1 y2_0 y2_1))) else none) else none) else (if y0_1 = true then (some (spec_l8Closer_put_b.en (y1, true))) else (if (y1.length : Int) ≥ 120 then (some (spec_l8Closer_put_b.en (y1, true))) else (if (decide ((x2.size : Int) > 120)) = true then (some (spec_l8Closer_put_b.en (y1, (decide ((x2.size : Int) > 120))))) else (if y1.length < 2932031007402 then (some (spec_l8Closer_put_b.en ((y1 ++ [(⟨y2_0, y2_1, x2⟩ : Elm)]), (decide ((x2.size : Int) > 120))))) else none))))) := by kernel_rfl
set_option maxRecDepth 100000 in
theorem spec_l8Closer_put_b.ef (k : Nat) (a1_0 : Int) (l1_1 : List Int) (a2 : ByteArray) (l4 : List Elm) (a3_1 : Bool) : R.start Try.prog xhn spec_l8Closer_put_b.O 2 Try.f54 spec_l8Closer_put_b.fh k [.ptr 0 0, .agg [.int .i64 a1_0, .row (.I .i64 l1_1)], .str a2] [.box false [.sl 1 0, .lit a3_1], .arr 49 0 (.E l4) true] = (spec_l8Closer_put_b.x0 k a2 l4 (l4.length : Int) 0 a3_1 a1_0 l1_1) := by kernel_rfl
theorem spec_l8Closer_put_b.link : ∀ k, (∀ (x2 : ByteArray) (y1 : List Elm) (x12 : Int) (x13 : Int) (y0_1 : Bool) (y2_0 : Int) (y2_1 : List Int), spec_l8Closer_put_b.x0 k x2 y1 x12 x13 y0_1 y2_0 y2_1 = (spec_l8Closer_put_b.l0 k x2 y1 x12 x13 y0_1 y2_0 y2_1).map (spec_l8Closer_put_b.en))
  | 0 => fun _ _ _ _ _ _ _ => by simp only [spec_l8Closer_put_b.l0, R.map_none]; rfl
  | k + 1 => by
    have ih0 := spec_l8Closer_put_b.link k
    · intro x2 y1 x12 x13 y0_1 y2_0 y2_1
      rw [spec_l8Closer_put_b.e0]
      simp only [spec_l8Closer_put_b.l0, R.map_ite, R.map_bind, R.map_none, R.map_some, R.wr64_eq, ← ih0]
theorem spec_l8Closer_put_b.sf (k : Nat) (a1_0 : Int) (l1_1 : List Int) (a2 : ByteArray) (l4 : List Elm) (a3_1 : Bool) : R.start Try.prog xhn spec_l8Closer_put_b.O 2 Try.f54 spec_l8Closer_put_b.fh k [.ptr 0 0, .agg [.int .i64 a1_0, .row (.I .i64 l1_1)], .str a2] [.box false [.sl 1 0, .lit a3_1], .arr 49 0 (.E l4) true] = (spec_l8Closer_put_b.f k a1_0 l1_1 a2 l4 a3_1).map (spec_l8Closer_put_b.en) := by
  have ih0 := spec_l8Closer_put_b.link k
  rw [spec_l8Closer_put_b.ef]
  simp only [spec_l8Closer_put_b.f, R.map_ite, R.map_bind, R.map_none, R.map_some, R.wr64_eq, ← ih0]
theorem spec_l8Closer_put_b.ok (k : Nat) : spec_l8Closer_put_b.tw.Ok Try.prog k := by
  intro md hmd a r h
  refine fn_ok (H := xhn) (fh := spec_l8Closer_put_b.fh) (O := spec_l8Closer_put_b.O) (k := k) Try.func54 (by kernel_rfl) (by kernel_rfl) (fun j _ => (Tw.orc_sound spec_l2Same.dok (spec_l2Same.ok j) (fun _ => rfl) noO_sound)) (by kernel_rfl) (m := 2) rfl ?_
  refine (spec_l8Closer_put_b.sf k a.1 a.2.1 a.2.2.1 a.2.2.2.1 a.2.2.2.2).trans ?_
  exact congrArg (Option.map _) h
mutual
def spec_l8Elements.l0 : Nat → Bool → (List Elm) → (List ByteArray) → Int → Int → Int → (List Int) → (List Int) → (List Stp) → (List Elm) → Bool → Option ((List Elm) × Bool)
  | 0, _, _, _, _, _, _, _, _, _, _, _ => none
  | k + 1, x1, y2, y3, x21, x22, y0_0, y0_1, y0_2, y0_3, y4, y1_1 => (if x22 < x21 then (if 0 ≤ x22 then (if x22 < (y3.length : Int) then ((spec_l3Matrix.f k y0_0 y0_1 y0_2 y0_3 (rdS y3 x22)).bind fun t1 => ((spec_l6Grades.f k t1.1 t1.2).bind fun t2 => (if y2.length < 2932031007402 then ((spec_l8Closer_put.f k t2.1 t2.2 (rdS y3 x22) y4 y1_1).bind fun t3 => (spec_l8Elements.l0 k x1 (y2 ++ [(⟨t2.1, t2.2, (rdS y3 x22)⟩ : Elm)]) y3 x21 (wrap64 (x22 + 1)) y0_0 y0_1 y0_2 y0_3 t3.1 t3.2)) else none))) else none) else none) else (spec_l8Elements.l1 k x1 y2 0 y4 y1_1))
def spec_l8Elements.l1 : Nat → Bool → (List Elm) → Int → (List Elm) → Bool → Option ((List Elm) × Bool)
  | 0, _, _, _, _, _ => none
  | k + 1, x1, y1, x11, y2, y0_1 => (if x11 < (y2.length : Int) then (if y0_1 = true then (some (y2, (!decide (y0_1 = true)))) else (if 0 ≤ x11 then (if x1 = true then ((spec_l6Idempotent.f k ((rdE y2 x11).f0) ((rdE y2 x11).f1)).bind fun t4 => (if t4 = true then ((spec_l6Stable.f k ((rdE y2 x11).f0) ((rdE y2 x11).f1)).bind fun t5 => (if 1 + (rdE y2 x11).f2.size ≤ 9223372036854775807 then (if ((⟨#[40]⟩ : ByteArray) ++ (rdE y2 x11).f2).size + 2 ≤ 9223372036854775807 then ((spec_l8Closer_put_b.f k t5.1 t5.2 (((⟨#[40]⟩ : ByteArray) ++ (rdE y2 x11).f2) ++ (⟨#[41, 35]⟩ : ByteArray)) y2 y0_1).bind fun t6 => (if 0 ≤ (wrap64 (x11 + 1)) then (if (wrap64 (x11 + 1)) ≤ (t6.1.length : Int) then (if ([] : List Elm).length + ((t6.1.drop 0).take ((wrap64 (x11 + 1)).toNat - 0)).length ≤ 2932031007402 then (spec_l8Elements.l2 k x1 y1 x11 (([] : List Elm) ++ ((t6.1.drop 0).take ((wrap64 (x11 + 1)).toNat - 0))) ((([] : List Elm) ++ ((t6.1.drop 0).take ((wrap64 (x11 + 1)).toNat - 0))).length : Int) 0 t6.1 t6.2 ((rdE y2 x11).f0) ((rdE y2 x11).f1) ((rdE y2 x11).f2)) else none) else none) else none)) else none) else none)) else (if 0 ≤ (wrap64 (x11 + 1)) then (if (wrap64 (x11 + 1)) ≤ (y2.length : Int) then (if ([] : List Elm).length + ((y2.drop 0).take ((wrap64 (x11 + 1)).toNat - 0)).length ≤ 2932031007402 then (spec_l8Elements.l2 k x1 y1 x11 (([] : List Elm) ++ ((y2.drop 0).take ((wrap64 (x11 + 1)).toNat - 0))) ((([] : List Elm) ++ ((y2.drop 0).take ((wrap64 (x11 + 1)).toNat - 0))).length : Int) 0 y2 y0_1 ((rdE y2 x11).f0) ((rdE y2 x11).f1) ((rdE y2 x11).f2)) else none) else none) else none))) else (spec_l8Elements.l2 k x1 y1 x11 y1 (y1.length : Int) 0 y2 y0_1 ((rdE y2 x11).f0) ((rdE y2 x11).f1) ((rdE y2 x11).f2))) else none)) else (some (y2, (!decide (y0_1 = true)))))
def spec_l8Elements.l2 : Nat → Bool → (List Elm) → Int → (List Elm) → Int → Int → (List Elm) → Bool → Int → (List Int) → ByteArray → Option ((List Elm) × Bool)
  | 0, _, _, _, _, _, _, _, _, _, _, _ => none
  | k + 1, x1, y1, x11, x90, x91, x92, y3, y0_1, y2_0, y2_1, y2_2 => (if x92 < x91 then (if 0 ≤ x92 then (if x92 < (x90.length : Int) then ((spec_l6Mul.f k y2_0 y2_1 ((rdE x90 x92).f0) ((rdE x90 x92).f1)).bind fun t7 => (if y2_2.size + (rdE x90 x92).f2.size ≤ 9223372036854775807 then ((spec_l8Closer_put_b.f k t7.1 t7.2 (y2_2 ++ (rdE x90 x92).f2) y3 y0_1).bind fun t8 => (if x1 = true then ((spec_l6Mul.f k ((rdE x90 x92).f0) ((rdE x90 x92).f1) y2_0 y2_1).bind fun t9 => (if (rdE x90 x92).f2.size + y2_2.size ≤ 9223372036854775807 then ((spec_l8Closer_put_b.f k t9.1 t9.2 ((rdE x90 x92).f2 ++ y2_2) t8.1 t8.2).bind fun t10 => (spec_l8Elements.l2 k x1 y1 x11 x90 x91 (wrap64 (x92 + 1)) t10.1 t10.2 y2_0 y2_1 y2_2)) else none)) else (spec_l8Elements.l2 k x1 y1 x11 x90 x91 (wrap64 (x92 + 1)) t8.1 t8.2 y2_0 y2_1 y2_2))) else none)) else none) else none) else (spec_l8Elements.l1 k x1 y1 (wrap64 (x11 + 1)) y3 y0_1))
end
def spec_l8Elements.f (k : Nat) (a0_0 : Int) (l0_1 : List Int) (l0_2 : List Int) (l0_3 : List Stp) (a1 : Bool) : Option ((List Elm) × Bool) := (spec_l8Elements.l0 k a1 ([] : List Elm) ([(⟨#[97]⟩ : ByteArray), (⟨#[98]⟩ : ByteArray)]) ([(⟨#[97]⟩ : ByteArray), (⟨#[98]⟩ : ByteArray)].length : Int) 0 a0_0 l0_1 l0_2 l0_3 ([] : List Elm) false)
def spec_l8Elements.en (r : (List Elm) × Bool) : Res := (.tup [.imm (.E r.1), .lit r.2], [])
def spec_l8Elements.dec : List AV → List R.Obj → Option (Int × (List Int) × (List Int) × (List Stp) × Bool)
  | [.agg [.int .i64 a0_0, .imm (.I .i64 l0_1), .imm (.I .i64 l0_2), .imm (.T l0_3)], .lit a1], [] => some (a0_0, l0_1, l0_2, l0_3, a1)
  | _, _ => none
def spec_l8Elements.tw : Tw := ⟨33, Int × (List Int) × (List Int) × (List Stp) × Bool, (List Elm) × Bool, spec_l8Elements.dec, fun a => [.agg [.int .i64 a.1, .imm (.I .i64 a.2.1), .imm (.I .i64 a.2.2.1), .imm (.T a.2.2.2.1)], .lit a.2.2.2.2], fun a => [], fun k a => spec_l8Elements.f k a.1 a.2.1 a.2.2.1 a.2.2.2.1 a.2.2.2.2, fun a r => spec_l8Elements.en r, true⟩
theorem spec_l8Elements.dok : spec_l8Elements.tw.DecOk := by
  intro args hc a h
  have h : spec_l8Elements.dec args hc = some a := h
  unfold spec_l8Elements.dec at h
  split at h
  · cases h; exact ⟨rfl, rfl⟩
  · cases h
noncomputable def spec_l8Elements.O (k : Nat) : Oracle := (spec_l3Matrix.tw.orc k (spec_l6Grades.tw.orc k (spec_l8Closer_put.tw.orc k (spec_l6Idempotent.tw.orc k (spec_l6Stable.tw.orc k (spec_l8Closer_put_b.tw.orc k (spec_l6Mul.tw.orc k noO)))))))
def spec_l8Elements.fh : FH := ⟨fun i => match i with | 4 => some [(1, 0), (2, 0), (6, 0), (7, 0), (20, 0), (21, 0), (22, 0)] | 11 => some [(1, 0), (6, 2), (7, 2), (11, 0)] | 20 => some [(1, 0), (6, 2), (7, 2), (11, 0), (12, 0), (90, 1), (91, 0), (92, 0)] | _ => none, [(false, 49)], false⟩
noncomputable def spec_l8Elements.x0 (k : Nat) (x1 : Bool) (y2 : List Elm) (y3 : List ByteArray) (x21 : Int) (x22 : Int) (y0_0 : Int) (y0_1 : List Int) (y0_2 : List Int) (y0_3 : List Stp) (y4 : List Elm) (y1_1 : Bool) : Option Res := R.exec Try.prog xhn spec_l8Elements.O 0 Try.f33 spec_l8Elements.fh k (R.point Try.f33 4) ⟨[(1, .lit x1), (2, .ptr 0 0), (6, .ptr 1 0), (7, .sl 2 0), (20, .sl 3 0), (21, .int .i64 x21), (22, .int .i64 x22)], [(0, .box false [.int .i64 y0_0, .imm (.I .i64 y0_1), .imm (.I .i64 y0_2), .imm (.T y0_3)]), (1, .box false [.sl 4 0, .lit y1_1]), (2, .arr 49 0 (.E y2) false), (3, .arr 9 0 (.S y3) false), (4, .arr 49 0 (.E y4) false)], 7⟩
noncomputable def spec_l8Elements.x1 (k : Nat) (x1 : Bool) (y1 : List Elm) (x11 : Int) (y2 : List Elm) (y0_1 : Bool) : Option Res := R.exec Try.prog xhn spec_l8Elements.O 0 Try.f33 spec_l8Elements.fh k (R.point Try.f33 11) ⟨[(1, .lit x1), (6, .ptr 0 0), (7, .sl 1 0), (11, .int .i64 x11)], [(0, .box false [.sl 2 0, .lit y0_1]), (1, .arr 49 0 (.E y1) true), (2, .arr 49 0 (.E y2) true)], 5⟩
noncomputable def spec_l8Elements.x2 (k : Nat) (x1 : Bool) (y1 : List Elm) (x11 : Int) (x90 : List Elm) (x91 : Int) (x92 : Int) (y3 : List Elm) (y0_1 : Bool) (y2_0 : Int) (y2_1 : List Int) (y2_2 : ByteArray) : Option Res := R.exec Try.prog xhn spec_l8Elements.O 0 Try.f33 spec_l8Elements.fh k (R.point Try.f33 20) ⟨[(1, .lit x1), (6, .ptr 0 0), (7, .sl 1 0), (11, .int .i64 x11), (12, .ptr 2 0), (90, .imm (.E x90)), (91, .int .i64 x91), (92, .int .i64 x92)], [(0, .box false [.sl 3 0, .lit y0_1]), (1, .arr 49 0 (.E y1) true), (2, .box false [.int .i64 y2_0, .imm (.I .i64 y2_1), .str y2_2]), (3, .arr 49 0 (.E y3) true)], 6⟩
set_option maxRecDepth 100000 in
theorem spec_l8Elements.e0 (k : Nat) (x1 : Bool) (y2 : List Elm) (y3 : List ByteArray) (x21 : Int) (x22 : Int) (y0_0 : Int) (y0_1 : List Int) (y0_2 : List Int) (y0_3 : List Stp) (y4 : List Elm) (y1_1 : Bool) : spec_l8Elements.x0 (k + 1) x1 y2 y3 x21 x22 y0_0 y0_1 y0_2 y0_3 y4 y1_1 = (if x22 < x21 then (if 0 ≤ x22 then (if x22 < (y3.length : Int) then ((spec_l3Matrix.f k y0_0 y0_1 y0_2 y0_3 (rdS y3 x22)).bind fun t1 => ((spec_l6Grades.f k t1.1 t1.2).bind fun t2 => (if y2.length < 2932031007402 then ((spec_l8Closer_put.f k t2.1 t2.2 (rdS y3 x22) y4 y1_1).bind fun t3 => (spec_l8Elements.x0 k x1 (y2 ++ [(⟨t2.1, t2.2, (rdS y3 x22)⟩ : Elm)]) y3 x21 (wr64 (x22 + 1)) y0_0 y0_1 y0_2 y0_3 t3.1 t3.2)) else none))) else none) else none) else (spec_l8Elements.x1 k x1 y2 0 y4 y1_1)) := by kernel_rfl
set_option maxRecDepth 100000 in
theorem spec_l8Elements.e1 (k : Nat) (x1 : Bool) (y1 : List Elm) (x11 : Int) (y2 : List Elm) (y0_1 : Bool) : spec_l8Elements.x1 (k + 1) x1 y1 x11 y2 y0_1 = (if x11 < (y2.length : Int) then (if y0_1 = true then (some (spec_l8Elements.en (y2, (!decide (y0_1 = true))))) else (if 0 ≤ x11 then (if x1 = true then ((spec_l6Idempotent.f k ((rdE y2 x11).f0) ((rdE y2 x11).f1)).bind fun t4 => (if t4 = true then ((spec_l6Stable.f k ((rdE y2 x11).f0) ((rdE y2 x11).f1)).bind fun t5 => (if 1 + (rdE y2 x11).f2.size ≤ 9223372036854775807 then (if ((⟨#[40]⟩ : ByteArray) ++ (rdE y2 x11).f2).size + 2 ≤ 9223372036854775807 then ((spec_l8Closer_put_b.f k t5.1 t5.2 (((⟨#[40]⟩ : ByteArray) ++ (rdE y2 x11).f2) ++ (⟨#[41, 35]⟩ : ByteArray)) y2 y0_1).bind fun t6 => (if 0 ≤ (wr64 (x11 + 1)) then (if (wr64 (x11 + 1)) ≤ (t6.1.length : Int) then (if ([] : List Elm).length + ((t6.1.drop 0).take ((wr64 (x11 + 1)).toNat - 0)).length ≤ 2932031007402 then (spec_l8Elements.x2 k x1 y1 x11 (([] : List Elm) ++ ((t6.1.drop 0).take ((wr64 (x11 + 1)).toNat - 0))) ((([] : List Elm) ++ ((t6.1.drop 0).take ((wr64 (x11 + 1)).toNat - 0))).length : Int) 0 t6.1 t6.2 ((rdE y2 x11).f0) ((rdE y2 x11).f1) ((rdE y2 x11).f2)) else none) else none) else none)) else none) else none)) else (if 0 ≤ (wr64 (x11 + 1)) then (if (wr64 (x11 + 1)) ≤ (y2.length : Int) then (if ([] : List Elm).length + ((y2.drop 0).take ((wr64 (x11 + 1)).toNat - 0)).length ≤ 2932031007402 then (spec_l8Elements.x2 k x1 y1 x11 (([] : List Elm) ++ ((y2.drop 0).take ((wr64 (x11 + 1)).toNat - 0))) ((([] : List Elm) ++ ((y2.drop 0).take ((wr64 (x11 + 1)).toNat - 0))).length : Int) 0 y2 y0_1 ((rdE y2 x11).f0) ((rdE y2 x11).f1) ((rdE y2 x11).f2)) else none) else none) else none))) else (spec_l8Elements.x2 k x1 y1 x11 y1 (y1.length : Int) 0 y2 y0_1 ((rdE y2 x11).f0) ((rdE y2 x11).f1) ((rdE y2 x11).f2))) else none)) else (some (spec_l8Elements.en (y2, (!decide (y0_1 = true)))))) := by
  refine Eq.trans ?_ (R.icong (fun h0 => (R.icong (fun h1 => rfl) (fun h1 => (R.icong (fun h2 => (R.idropT (p := x11 < (y2.length : Int)) (z := none) h0 (R.icong (fun h3 => (R.bcong fun t4 => (R.icong (fun h4 => (R.bcong fun t5 => (R.icong (fun h5 => (R.icong (fun h6 => (R.bcong fun t6 => (R.idropT (p := x1 = true) (z := (spec_l8Elements.x2 k x1 y1 x11 y1 (y1.length : Int) 0 t6.1 t6.2 ((rdE y2 x11).f0) ((rdE y2 x11).f1) ((rdE y2 x11).f2))) h3 rfl))) (fun h6 => rfl))) (fun h5 => rfl)))) (fun h4 => (R.idropT (p := x1 = true) (z := (spec_l8Elements.x2 k x1 y1 x11 y1 (y1.length : Int) 0 y2 y0_1 ((rdE y2 x11).f0) ((rdE y2 x11).f1) ((rdE y2 x11).f2))) h3 rfl))))) (fun h3 => (R.idropF (p := x1 = true) (z := (if 0 ≤ (wr64 (x11 + 1)) then (if (wr64 (x11 + 1)) ≤ (y2.length : Int) then (if ([] : List Elm).length + ((y2.drop 0).take ((wr64 (x11 + 1)).toNat - 0)).length ≤ 2932031007402 then (spec_l8Elements.x2 k x1 y1 x11 (([] : List Elm) ++ ((y2.drop 0).take ((wr64 (x11 + 1)).toNat - 0))) ((([] : List Elm) ++ ((y2.drop 0).take ((wr64 (x11 + 1)).toNat - 0))).length : Int) 0 y2 y0_1 ((rdE y2 x11).f0) ((rdE y2 x11).f1) ((rdE y2 x11).f2)) else none) else none) else none)) h3 rfl))))) (fun h2 => rfl))))) (fun h0 => rfl))
  kernel_rfl
set_option maxRecDepth 100000 in
theorem spec_l8Elements.e2 (k : Nat) (x1 : Bool) (y1 : List Elm) (x11 : Int) (x90 : List Elm) (x91 : Int) (x92 : Int) (y3 : List Elm) (y0_1 : Bool) (y2_0 : Int) (y2_1 : List Int) (y2_2 : ByteArray) : spec_l8Elements.x2 (k + 1) x1 y1 x11 x90 x91 x92 y3 y0_1 y2_0 y2_1 y2_2 = (if x92 < x91 then (if 0 ≤ x92 then (if x92 < (x90.length : Int) then ((spec_l6Mul.f k y2_0 y2_1 ((rdE x90 x92).f0) ((rdE x90 x92).f1)).bind fun t7 => (if y2_2.size + (rdE x90 x92).f2.size ≤ 9223372036854775807 then ((spec_l8Closer_put_b.f k t7.1 t7.2 (y2_2 ++ (rdE x90 x92).f2) y3 y0_1).bind fun t8 => (if x1 = true then ((spec_l6Mul.f k ((rdE x90 x92).f0) ((rdE x90 x92).f1) y2_0 y2_1).bind fun t9 => (if (rdE x90 x92).f2.size + y2_2.size ≤ 9223372036854775807 then ((spec_l8Closer_put_b.f k t9.1 t9.2 ((rdE x90 x92).f2 ++ y2_2) t8.1 t8.2).bind fun t10 => (spec_l8Elements.x2 k x1 y1 x11 x90 x91 (wr64 (x92 + 1)) t10.1 t10.2 y2_0 y2_1 y2_2)) else none)) else (spec_l8Elements.x2 k x1 y1 x11 x90 x91 (wr64 (x92 + 1)) t8.1 t8.2 y2_0 y2_1 y2_2))) else none)) else none) else none) else (spec_l8Elements.x1 k x1 y1 (wr64 (x11 + 1)) y3 y0_1)) := by kernel_rfl
set_option maxRecDepth 100000 in
theorem spec_l8Elements.ef (k : Nat) (a0_0 : Int) (l0_1 : List Int) (l0_2 : List Int) (l0_3 : List Stp) (a1 : Bool) : R.start Try.prog xhn spec_l8Elements.O 0 Try.f33 spec_l8Elements.fh k [.agg [.int .i64 a0_0, .imm (.I .i64 l0_1), .imm (.I .i64 l0_2), .imm (.T l0_3)], .lit a1] [] = (spec_l8Elements.x0 k a1 ([] : List Elm) ([(⟨#[97]⟩ : ByteArray), (⟨#[98]⟩ : ByteArray)]) ([(⟨#[97]⟩ : ByteArray), (⟨#[98]⟩ : ByteArray)].length : Int) 0 a0_0 l0_1 l0_2 l0_3 ([] : List Elm) false) := by kernel_rfl
theorem spec_l8Elements.link : ∀ k, (∀ (x1 : Bool) (y2 : List Elm) (y3 : List ByteArray) (x21 : Int) (x22 : Int) (y0_0 : Int) (y0_1 : List Int) (y0_2 : List Int) (y0_3 : List Stp) (y4 : List Elm) (y1_1 : Bool), spec_l8Elements.x0 k x1 y2 y3 x21 x22 y0_0 y0_1 y0_2 y0_3 y4 y1_1 = (spec_l8Elements.l0 k x1 y2 y3 x21 x22 y0_0 y0_1 y0_2 y0_3 y4 y1_1).map (spec_l8Elements.en)) ∧ (∀ (x1 : Bool) (y1 : List Elm) (x11 : Int) (y2 : List Elm) (y0_1 : Bool), spec_l8Elements.x1 k x1 y1 x11 y2 y0_1 = (spec_l8Elements.l1 k x1 y1 x11 y2 y0_1).map (spec_l8Elements.en)) ∧ (∀ (x1 : Bool) (y1 : List Elm) (x11 : Int) (x90 : List Elm) (x91 : Int) (x92 : Int) (y3 : List Elm) (y0_1 : Bool) (y2_0 : Int) (y2_1 : List Int) (y2_2 : ByteArray), spec_l8Elements.x2 k x1 y1 x11 x90 x91 x92 y3 y0_1 y2_0 y2_1 y2_2 = (spec_l8Elements.l2 k x1 y1 x11 x90 x91 x92 y3 y0_1 y2_0 y2_1 y2_2).map (spec_l8Elements.en))
  | 0 => ⟨fun _ _ _ _ _ _ _ _ _ _ _ => by simp only [spec_l8Elements.l0, R.map_none]; rfl, fun _ _ _ _ _ => by simp only [spec_l8Elements.l1, R.map_none]; rfl, fun _ _ _ _ _ _ _ _ _ _ _ => by simp only [spec_l8Elements.l2, R.map_none]; rfl⟩
  | k + 1 => by
    obtain ⟨ih0, ih1, ih2⟩ := spec_l8Elements.link k
    refine ⟨?_, ?_, ?_⟩
    · intro x1 y2 y3 x21 x22 y0_0 y0_1 y0_2 y0_3 y4 y1_1
      rw [spec_l8Elements.e0]
      simp only [spec_l8Elements.l0, R.map_ite, R.map_bind, R.map_none, R.map_some, R.wr64_eq, ← ih0, ← ih1, ← ih2]
    · intro x1 y1 x11 y2 y0_1
      rw [spec_l8Elements.e1]
      simp only [spec_l8Elements.l1, R.map_ite, R.map_bind, R.map_none, R.map_some, R.wr64_eq, ← ih0, ← ih1, ← ih2]
    · intro x1 y1 x11 x90 x91 x92 y3 y0_1 y2_0 y2_1 y2_2
      rw [spec_l8Elements.e2]
      simp only [spec_l8Elements.l2, R.map_ite, R.map_bind, R.map_none, R.map_some, R.wr64_eq, ← ih0, ← ih1, ← ih2]
theorem spec_l8Elements.sf (k : Nat) (a0_0 : Int) (l0_1 : List Int) (l0_2 : List Int) (l0_3 : List Stp) (a1 : Bool) : R.start Try.prog xhn spec_l8Elements.O 0 Try.f33 spec_l8Elements.fh k [.agg [.int .i64 a0_0, .imm (.I .i64 l0_1), .imm (.I .i64 l0_2), .imm (.T l0_3)], .lit a1] [] = (spec_l8Elements.f k a0_0 l0_1 l0_2 l0_3 a1).map (spec_l8Elements.en) := by
  obtain ⟨ih0, ih1, ih2⟩ := spec_l8Elements.link k
  rw [spec_l8Elements.ef]
  simp only [spec_l8Elements.f, R.map_ite, R.map_bind, R.map_none, R.map_some, R.wr64_eq, ← ih0, ← ih1, ← ih2]
theorem spec_l8Elements.ok (k : Nat) : spec_l8Elements.tw.Ok Try.prog k := by
  intro md hmd a r h
  refine fn_ok (H := xhn) (fh := spec_l8Elements.fh) (O := spec_l8Elements.O) (k := k) Try.func33 (by kernel_rfl) (by kernel_rfl) (fun j _ => (Tw.orc_sound spec_l3Matrix.dok (spec_l3Matrix.ok j) (fun _ => rfl) (Tw.orc_sound spec_l6Grades.dok (spec_l6Grades.ok j) (fun _ => rfl) (Tw.orc_sound spec_l8Closer_put.dok (spec_l8Closer_put.ok j) (fun _ => rfl) (Tw.orc_sound spec_l6Idempotent.dok (spec_l6Idempotent.ok j) (fun _ => rfl) (Tw.orc_sound spec_l6Stable.dok (spec_l6Stable.ok j) (fun _ => rfl) (Tw.orc_sound spec_l8Closer_put_b.dok (spec_l8Closer_put_b.ok j) (fun _ => rfl) (Tw.orc_sound spec_l6Mul.dok (spec_l6Mul.ok j) (fun _ => rfl) noO_sound)))))))) (by kernel_rfl) (m := 0) rfl ?_
  refine (spec_l8Elements.sf k a.1 a.2.1 a.2.2.1 a.2.2.2.1 a.2.2.2.2).trans ?_
  exact congrArg (Option.map _) h
def spec_l8RawWordElements.f (k : Nat) (a0_0 : Int) (l0_1 : List Int) (l0_2 : List Int) (l0_3 : List Stp) : Option ((List Elm) × Bool) := ((spec_AutomatonValid.f k a0_0 l0_1 l0_2 l0_3).bind fun t1 => (if t1 = true then ((spec_l8Elements.f k a0_0 l0_1 l0_2 l0_3 false).bind fun t2 => (if t2.2 = true then (some (t2.1, true)) else (some (([] : List Elm), false)))) else (some (([] : List Elm), false))))
def spec_l8RawWordElements.en (r : (List Elm) × Bool) : Res := (.tup [.imm (.E r.1), .lit r.2], [])
def spec_l8RawWordElements.dec : List AV → List R.Obj → Option (Int × (List Int) × (List Int) × (List Stp))
  | [.agg [.int .i64 a0_0, .imm (.I .i64 l0_1), .imm (.I .i64 l0_2), .imm (.T l0_3)]], [] => some (a0_0, l0_1, l0_2, l0_3)
  | _, _ => none
def spec_l8RawWordElements.tw : Tw := ⟨15, Int × (List Int) × (List Int) × (List Stp), (List Elm) × Bool, spec_l8RawWordElements.dec, fun a => [.agg [.int .i64 a.1, .imm (.I .i64 a.2.1), .imm (.I .i64 a.2.2.1), .imm (.T a.2.2.2)]], fun a => [], fun k a => spec_l8RawWordElements.f k a.1 a.2.1 a.2.2.1 a.2.2.2, fun a r => spec_l8RawWordElements.en r, true⟩
theorem spec_l8RawWordElements.dok : spec_l8RawWordElements.tw.DecOk := by
  intro args hc a h
  have h : spec_l8RawWordElements.dec args hc = some a := h
  unfold spec_l8RawWordElements.dec at h
  split at h
  · cases h; exact ⟨rfl, rfl⟩
  · cases h
noncomputable def spec_l8RawWordElements.O (k : Nat) : Oracle := (spec_AutomatonValid.tw.orc k (spec_l8Elements.tw.orc k noO))
def spec_l8RawWordElements.fh : FH := ⟨fun i => match i with | _ => none, [(false, 49)], false⟩
set_option maxRecDepth 100000 in
theorem spec_l8RawWordElements.ef (k : Nat) (a0_0 : Int) (l0_1 : List Int) (l0_2 : List Int) (l0_3 : List Stp) : R.start Try.prog xhn spec_l8RawWordElements.O 0 Try.f15 spec_l8RawWordElements.fh k [.agg [.int .i64 a0_0, .imm (.I .i64 l0_1), .imm (.I .i64 l0_2), .imm (.T l0_3)]] [] = ((spec_AutomatonValid.f k a0_0 l0_1 l0_2 l0_3).bind fun t1 => (if t1 = true then ((spec_l8Elements.f k a0_0 l0_1 l0_2 l0_3 false).bind fun t2 => (if t2.2 = true then (some (spec_l8RawWordElements.en (t2.1, true))) else (some (spec_l8RawWordElements.en (([] : List Elm), false))))) else (some (spec_l8RawWordElements.en (([] : List Elm), false))))) := by kernel_rfl
theorem spec_l8RawWordElements.sf (k : Nat) (a0_0 : Int) (l0_1 : List Int) (l0_2 : List Int) (l0_3 : List Stp) : R.start Try.prog xhn spec_l8RawWordElements.O 0 Try.f15 spec_l8RawWordElements.fh k [.agg [.int .i64 a0_0, .imm (.I .i64 l0_1), .imm (.I .i64 l0_2), .imm (.T l0_3)]] [] = (spec_l8RawWordElements.f k a0_0 l0_1 l0_2 l0_3).map (spec_l8RawWordElements.en) := by
  rw [spec_l8RawWordElements.ef]
  simp only [spec_l8RawWordElements.f, R.map_ite, R.map_bind, R.map_none, R.map_some, R.wr64_eq]
theorem spec_l8RawWordElements.ok (k : Nat) : spec_l8RawWordElements.tw.Ok Try.prog k := by
  intro md hmd a r h
  refine fn_ok (H := xhn) (fh := spec_l8RawWordElements.fh) (O := spec_l8RawWordElements.O) (k := k) Try.func15 (by kernel_rfl) (by kernel_rfl) (fun j _ => (Tw.orc_sound spec_AutomatonValid.dok (spec_AutomatonValid.ok j) (fun _ => rfl) (Tw.orc_sound spec_l8Elements.dok (spec_l8Elements.ok j) (fun _ => rfl) noO_sound))) (by kernel_rfl) (m := 0) rfl ?_
  refine (spec_l8RawWordElements.sf k a.1 a.2.1 a.2.2.1 a.2.2.2).trans ?_
  exact congrArg (Option.map _) h
def spec_l13OwnMatrix.f (a0_0 : Int) (l0_1 : List Int) : Option (Int × (List Int)) := (if ([] : List Int).length + l0_1.length ≤ 17592186044416 then (some (a0_0, (([] : List Int) ++ l0_1))) else none)
def spec_l13OwnMatrix.en (r : Int × (List Int)) : Res := (.agg [.int .i64 r.1, .sl 0 0], [.arr 3 0 (.I .i64 r.2) false])
def spec_l13OwnMatrix.dec : List AV → List R.Obj → Option (Int × (List Int))
  | [.agg [.int .i64 a0_0, .imm (.I .i64 l0_1)]], [] => some (a0_0, l0_1)
  | _, _ => none
def spec_l13OwnMatrix.tw : Tw := ⟨58, Int × (List Int), Int × (List Int), spec_l13OwnMatrix.dec, fun a => [.agg [.int .i64 a.1, .imm (.I .i64 a.2)]], fun a => [], fun k a => spec_l13OwnMatrix.f a.1 a.2, fun a r => spec_l13OwnMatrix.en r, true⟩
theorem spec_l13OwnMatrix.dok : spec_l13OwnMatrix.tw.DecOk := by
  intro args hc a h
  have h : spec_l13OwnMatrix.dec args hc = some a := h
  unfold spec_l13OwnMatrix.dec at h
  split at h
  · cases h; exact ⟨rfl, rfl⟩
  · cases h
noncomputable def spec_l13OwnMatrix.O (k : Nat) : Oracle := noO
def spec_l13OwnMatrix.fh : FH := ⟨fun i => match i with | _ => none, [(true, 3)], false⟩
set_option maxRecDepth 100000 in
theorem spec_l13OwnMatrix.ef (k : Nat) (a0_0 : Int) (l0_1 : List Int) : R.start Try.prog xhn spec_l13OwnMatrix.O 0 Try.f58 spec_l13OwnMatrix.fh k [.agg [.int .i64 a0_0, .imm (.I .i64 l0_1)]] [] = (if ([] : List Int).length + l0_1.length ≤ 17592186044416 then (some (spec_l13OwnMatrix.en (a0_0, (([] : List Int) ++ l0_1)))) else none) := by kernel_rfl
theorem spec_l13OwnMatrix.sf (k : Nat) (a0_0 : Int) (l0_1 : List Int) : R.start Try.prog xhn spec_l13OwnMatrix.O 0 Try.f58 spec_l13OwnMatrix.fh k [.agg [.int .i64 a0_0, .imm (.I .i64 l0_1)]] [] = (spec_l13OwnMatrix.f a0_0 l0_1).map (spec_l13OwnMatrix.en) := by
  rw [spec_l13OwnMatrix.ef]
  simp only [spec_l13OwnMatrix.f, R.map_ite, R.map_bind, R.map_none, R.map_some, R.wr64_eq]
theorem spec_l13OwnMatrix.ok (k : Nat) : spec_l13OwnMatrix.tw.Ok Try.prog k := by
  intro md hmd a r h
  refine fn_ok (H := xhn) (fh := spec_l13OwnMatrix.fh) (O := spec_l13OwnMatrix.O) (k := k) Try.func58 (by kernel_rfl) (by kernel_rfl) (fun j _ => noO_sound) (by kernel_rfl) (m := 0) rfl ?_
  refine (spec_l13OwnMatrix.sf k a.1 a.2).trans ?_
  exact congrArg (Option.map _) h
def spec_l13OwnElement.f (a0_0 : Int) (l0_1 : List Int) (a0_2 : ByteArray) : Option (Int × (List Int) × ByteArray) := ((spec_l13OwnMatrix.f a0_0 l0_1).bind fun t1 => (some (t1.1, t1.2, a0_2)))
def spec_l13OwnElement.en (r : Int × (List Int) × ByteArray) : Res := (.agg [.int .i64 r.1, .sl 0 0, .str r.2.2], [.arr 3 0 (.I .i64 r.2.1) false])
def spec_l13OwnElement.dec : List AV → List R.Obj → Option (Int × (List Int) × ByteArray)
  | [.agg [.int .i64 a0_0, .imm (.I .i64 l0_1), .str a0_2]], [] => some (a0_0, l0_1, a0_2)
  | _, _ => none
def spec_l13OwnElement.tw : Tw := ⟨34, Int × (List Int) × ByteArray, Int × (List Int) × ByteArray, spec_l13OwnElement.dec, fun a => [.agg [.int .i64 a.1, .imm (.I .i64 a.2.1), .str a.2.2]], fun a => [], fun k a => spec_l13OwnElement.f a.1 a.2.1 a.2.2, fun a r => spec_l13OwnElement.en r, true⟩
theorem spec_l13OwnElement.dok : spec_l13OwnElement.tw.DecOk := by
  intro args hc a h
  have h : spec_l13OwnElement.dec args hc = some a := h
  unfold spec_l13OwnElement.dec at h
  split at h
  · cases h; exact ⟨rfl, rfl⟩
  · cases h
noncomputable def spec_l13OwnElement.O (k : Nat) : Oracle := (spec_l13OwnMatrix.tw.orc k noO)
def spec_l13OwnElement.fh : FH := ⟨fun i => match i with | _ => none, [(true, 3)], false⟩
set_option maxRecDepth 100000 in
theorem spec_l13OwnElement.ef (k : Nat) (a0_0 : Int) (l0_1 : List Int) (a0_2 : ByteArray) : R.start Try.prog xhn spec_l13OwnElement.O 0 Try.f34 spec_l13OwnElement.fh k [.agg [.int .i64 a0_0, .imm (.I .i64 l0_1), .str a0_2]] [] = ((spec_l13OwnMatrix.f a0_0 l0_1).bind fun t1 => (some (spec_l13OwnElement.en (t1.1, t1.2, a0_2)))) := by kernel_rfl
theorem spec_l13OwnElement.sf (k : Nat) (a0_0 : Int) (l0_1 : List Int) (a0_2 : ByteArray) : R.start Try.prog xhn spec_l13OwnElement.O 0 Try.f34 spec_l13OwnElement.fh k [.agg [.int .i64 a0_0, .imm (.I .i64 l0_1), .str a0_2]] [] = (spec_l13OwnElement.f a0_0 l0_1 a0_2).map (spec_l13OwnElement.en) := by
  rw [spec_l13OwnElement.ef]
  simp only [spec_l13OwnElement.f, R.map_ite, R.map_bind, R.map_none, R.map_some, R.wr64_eq]
theorem spec_l13OwnElement.ok (k : Nat) : spec_l13OwnElement.tw.Ok Try.prog k := by
  intro md hmd a r h
  refine fn_ok (H := xhn) (fh := spec_l13OwnElement.fh) (O := spec_l13OwnElement.O) (k := k) Try.func34 (by kernel_rfl) (by kernel_rfl) (fun j _ => (Tw.orc_sound spec_l13OwnMatrix.dok (spec_l13OwnMatrix.ok j) (fun _ => rfl) noO_sound)) (by kernel_rfl) (m := 0) rfl ?_
  refine (spec_l13OwnElement.sf k a.1 a.2.1 a.2.2).trans ?_
  exact congrArg (Option.map _) h
def spec_l13OwnListElement.l0 : Nat → (List Elm) → (List Elm) → Int → Int → Option (List Elm)
  | 0, _, _, _, _ => none
  | k + 1, y0, x7, x8, x9 => (if x9 < x8 then (if 0 ≤ x9 then (if x9 < (x7.length : Int) then ((spec_l13OwnElement.f ((rdE x7 x9).f0) ((rdE x7 x9).f1) ((rdE x7 x9).f2)).bind fun t1 => (if y0.length < 2932031007402 then (spec_l13OwnListElement.l0 k (y0 ++ [(⟨t1.1, t1.2.1, t1.2.2⟩ : Elm)]) x7 x8 (wrap64 (x9 + 1))) else none)) else none) else none) else (some y0))
def spec_l13OwnListElement.f (k : Nat) (l0 : List Elm) : Option (List Elm) := (spec_l13OwnListElement.l0 k ([] : List Elm) l0 (l0.length : Int) 0)
def spec_l13OwnListElement.en (r : List Elm) : Res := (.sl 0 0, [.arr 49 0 (.E r) false])
def spec_l13OwnListElement.dec : List AV → List R.Obj → Option (List Elm)
  | [.imm (.E l0)], [] => some l0
  | _, _ => none
def spec_l13OwnListElement.tw : Tw := ⟨16, List Elm, List Elm, spec_l13OwnListElement.dec, fun a => [.imm (.E a)], fun a => [], fun k a => spec_l13OwnListElement.f k a, fun a r => spec_l13OwnListElement.en r, true⟩
theorem spec_l13OwnListElement.dok : spec_l13OwnListElement.tw.DecOk := by
  intro args hc a h
  have h : spec_l13OwnListElement.dec args hc = some a := h
  unfold spec_l13OwnListElement.dec at h
  split at h
  · cases h; exact ⟨rfl, rfl⟩
  · cases h
noncomputable def spec_l13OwnListElement.O (k : Nat) : Oracle := (spec_l13OwnElement.tw.orc k noO)
def spec_l13OwnListElement.fh : FH := ⟨fun i => match i with | 3 => some [(3, 0), (7, 0), (8, 0), (9, 0)] | _ => none, [(true, 49)], false⟩
noncomputable def spec_l13OwnListElement.x0 (k : Nat) (y0 : List Elm) (x7 : List Elm) (x8 : Int) (x9 : Int) : Option Res := R.exec Try.prog xhn spec_l13OwnListElement.O 0 Try.f16 spec_l13OwnListElement.fh k (R.point Try.f16 3) ⟨[(3, .sl 0 0), (7, .imm (.E x7)), (8, .int .i64 x8), (9, .int .i64 x9)], [(0, .arr 49 0 (.E y0) false)], 3⟩
set_option maxRecDepth 100000 in
theorem spec_l13OwnListElement.e0 (k : Nat) (y0 : List Elm) (x7 : List Elm) (x8 : Int) (x9 : Int) : spec_l13OwnListElement.x0 (k + 1) y0 x7 x8 x9 = (if x9 < x8 then (if 0 ≤ x9 then (if x9 < (x7.length : Int) then ((spec_l13OwnElement.f ((rdE x7 x9).f0) ((rdE x7 x9).f1) ((rdE x7 x9).f2)).bind fun t1 => (if y0.length < 2932031007402 then (spec_l13OwnListElement.x0 k (y0 ++ [(⟨t1.1, t1.2.1, t1.2.2⟩ : Elm)]) x7 x8 (wr64 (x9 + 1))) else none)) else none) else none) else (some (spec_l13OwnListElement.en y0))) := by kernel_rfl
set_option maxRecDepth 100000 in
theorem spec_l13OwnListElement.ef (k : Nat) (l0 : List Elm) : R.start Try.prog xhn spec_l13OwnListElement.O 0 Try.f16 spec_l13OwnListElement.fh k [.imm (.E l0)] [] = (spec_l13OwnListElement.x0 k ([] : List Elm) l0 (l0.length : Int) 0) := by kernel_rfl
theorem spec_l13OwnListElement.link : ∀ k, (∀ (y0 : List Elm) (x7 : List Elm) (x8 : Int) (x9 : Int), spec_l13OwnListElement.x0 k y0 x7 x8 x9 = (spec_l13OwnListElement.l0 k y0 x7 x8 x9).map (spec_l13OwnListElement.en))
  | 0 => fun _ _ _ _ => by simp only [spec_l13OwnListElement.l0, R.map_none]; rfl
  | k + 1 => by
    have ih0 := spec_l13OwnListElement.link k
    · intro y0 x7 x8 x9
      rw [spec_l13OwnListElement.e0]
      simp only [spec_l13OwnListElement.l0, R.map_ite, R.map_bind, R.map_none, R.map_some, R.wr64_eq, ← ih0]
theorem spec_l13OwnListElement.sf (k : Nat) (l0 : List Elm) : R.start Try.prog xhn spec_l13OwnListElement.O 0 Try.f16 spec_l13OwnListElement.fh k [.imm (.E l0)] [] = (spec_l13OwnListElement.f k l0).map (spec_l13OwnListElement.en) := by
  have ih0 := spec_l13OwnListElement.link k
  rw [spec_l13OwnListElement.ef]
  simp only [spec_l13OwnListElement.f, R.map_ite, R.map_bind, R.map_none, R.map_some, R.wr64_eq, ← ih0]
theorem spec_l13OwnListElement.ok (k : Nat) : spec_l13OwnListElement.tw.Ok Try.prog k := by
  intro md hmd a r h
  refine fn_ok (H := xhn) (fh := spec_l13OwnListElement.fh) (O := spec_l13OwnListElement.O) (k := k) Try.func16 (by kernel_rfl) (by kernel_rfl) (fun j _ => (Tw.orc_sound spec_l13OwnElement.dok (spec_l13OwnElement.ok j) (fun _ => rfl) noO_sound)) (by kernel_rfl) (m := 0) rfl ?_
  refine (spec_l13OwnListElement.sf k a).trans ?_
  exact congrArg (Option.map _) h
def spec_WordElements.f (k : Nat) (a0_0 : Int) (l0_1 : List Int) (l0_2 : List Int) (l0_3 : List Stp) : Option ((List Elm) × Bool) := ((spec_l8RawWordElements.f k a0_0 l0_1 l0_2 l0_3).bind fun t1 => ((spec_l13OwnListElement.f k t1.1).bind fun t2 => (some (t2, t1.2))))
def spec_WordElements.en (r : (List Elm) × Bool) : Res := (.tup [.sl 0 0, .lit r.2], [.arr 49 0 (.E r.1) false])
def spec_WordElements.dec : List AV → List R.Obj → Option (Int × (List Int) × (List Int) × (List Stp))
  | [.agg [.int .i64 a0_0, .imm (.I .i64 l0_1), .imm (.I .i64 l0_2), .imm (.T l0_3)]], [] => some (a0_0, l0_1, l0_2, l0_3)
  | _, _ => none
def spec_WordElements.tw : Tw := ⟨5, Int × (List Int) × (List Int) × (List Stp), (List Elm) × Bool, spec_WordElements.dec, fun a => [.agg [.int .i64 a.1, .imm (.I .i64 a.2.1), .imm (.I .i64 a.2.2.1), .imm (.T a.2.2.2)]], fun a => [], fun k a => spec_WordElements.f k a.1 a.2.1 a.2.2.1 a.2.2.2, fun a r => spec_WordElements.en r, true⟩
theorem spec_WordElements.dok : spec_WordElements.tw.DecOk := by
  intro args hc a h
  have h : spec_WordElements.dec args hc = some a := h
  unfold spec_WordElements.dec at h
  split at h
  · cases h; exact ⟨rfl, rfl⟩
  · cases h
noncomputable def spec_WordElements.O (k : Nat) : Oracle := (spec_l8RawWordElements.tw.orc k (spec_l13OwnListElement.tw.orc k noO))
def spec_WordElements.fh : FH := ⟨fun i => match i with | _ => none, [(true, 49)], false⟩
set_option maxRecDepth 100000 in
theorem spec_WordElements.ef (k : Nat) (a0_0 : Int) (l0_1 : List Int) (l0_2 : List Int) (l0_3 : List Stp) : R.start Try.prog xhn spec_WordElements.O 0 Try.f5 spec_WordElements.fh k [.agg [.int .i64 a0_0, .imm (.I .i64 l0_1), .imm (.I .i64 l0_2), .imm (.T l0_3)]] [] = ((spec_l8RawWordElements.f k a0_0 l0_1 l0_2 l0_3).bind fun t1 => ((spec_l13OwnListElement.f k t1.1).bind fun t2 => (some (spec_WordElements.en (t2, t1.2))))) := by kernel_rfl
theorem spec_WordElements.sf (k : Nat) (a0_0 : Int) (l0_1 : List Int) (l0_2 : List Int) (l0_3 : List Stp) : R.start Try.prog xhn spec_WordElements.O 0 Try.f5 spec_WordElements.fh k [.agg [.int .i64 a0_0, .imm (.I .i64 l0_1), .imm (.I .i64 l0_2), .imm (.T l0_3)]] [] = (spec_WordElements.f k a0_0 l0_1 l0_2 l0_3).map (spec_WordElements.en) := by
  rw [spec_WordElements.ef]
  simp only [spec_WordElements.f, R.map_ite, R.map_bind, R.map_none, R.map_some, R.wr64_eq]
theorem spec_WordElements.ok (k : Nat) : spec_WordElements.tw.Ok Try.prog k := by
  intro md hmd a r h
  refine fn_ok (H := xhn) (fh := spec_WordElements.fh) (O := spec_WordElements.O) (k := k) Try.func5 (by kernel_rfl) (by kernel_rfl) (fun j _ => (Tw.orc_sound spec_l8RawWordElements.dok (spec_l8RawWordElements.ok j) (fun _ => rfl) (Tw.orc_sound spec_l13OwnListElement.dok (spec_l13OwnListElement.ok j) (fun _ => rfl) noO_sound))) (by kernel_rfl) (m := 0) rfl ?_
  refine (spec_WordElements.sf k a.1 a.2.1 a.2.2.1 a.2.2.2).trans ?_
  exact congrArg (Option.map _) h
def laws_eqIntS.l0 : Nat → (List Int) → (List Int) → Int → Option (Bool)
  | 0, _, _, _ => none
  | k + 1, x0, x1, x5 => (if x5 < (x0.length : Int) then (if 0 ≤ x5 then (if x5 < (x1.length : Int) then (if (rdI x0 x5) = (rdI x1 x5) then (laws_eqIntS.l0 k x0 x1 (wrap64 (x5 + 1))) else (some false)) else none) else none) else (some true))
def laws_eqIntS.f (k : Nat) (l0 : List Int) (l1 : List Int) : Option (Bool) := (if (l0.length : Int) = (l1.length : Int) then (laws_eqIntS.l0 k l0 l1 0) else (some false))
def laws_eqIntS.en (r : Bool) : Res := (.lit r, [])
def laws_eqIntS.dec : List AV → List R.Obj → Option ((List Int) × (List Int))
  | [.imm (.I .i64 l0), .imm (.I .i64 l1)], [] => some (l0, l1)
  | _, _ => none
def laws_eqIntS.tw : Tw := ⟨25, (List Int) × (List Int), Bool, laws_eqIntS.dec, fun a => [.imm (.I .i64 a.1), .imm (.I .i64 a.2)], fun a => [], fun k a => laws_eqIntS.f k a.1 a.2, fun a r => laws_eqIntS.en r, true⟩
theorem laws_eqIntS.dok : laws_eqIntS.tw.DecOk := by
  intro args hc a h
  have h : laws_eqIntS.dec args hc = some a := h
  unfold laws_eqIntS.dec at h
  split at h
  · cases h; exact ⟨rfl, rfl⟩
  · cases h
noncomputable def laws_eqIntS.O (k : Nat) : Oracle := noO
def laws_eqIntS.fh : FH := ⟨fun i => match i with | 4 => some [(0, 0), (1, 0), (5, 0)] | _ => none, [], false⟩
noncomputable def laws_eqIntS.x0 (k : Nat) (x0 : List Int) (x1 : List Int) (x5 : Int) : Option Res := R.exec Try.prog xhn laws_eqIntS.O 0 Try.f25 laws_eqIntS.fh k (R.point Try.f25 4) ⟨[(0, .imm (.I .i64 x0)), (1, .imm (.I .i64 x1)), (5, .int .i64 x5)], [], 2⟩
set_option maxRecDepth 100000 in
theorem laws_eqIntS.e0 (k : Nat) (x0 : List Int) (x1 : List Int) (x5 : Int) : laws_eqIntS.x0 (k + 1) x0 x1 x5 = (if x5 < (x0.length : Int) then (if 0 ≤ x5 then (if x5 < (x1.length : Int) then (if (rdI x0 x5) = (rdI x1 x5) then (laws_eqIntS.x0 k x0 x1 (wr64 (x5 + 1))) else (some (laws_eqIntS.en false))) else none) else none) else (some (laws_eqIntS.en true))) := by
  refine Eq.trans ?_ (R.icong (fun h0 => (R.icong (fun h1 => (R.idropT (p := x5 < (x0.length : Int)) (z := none) h0 (R.idropT (p := 0 ≤ x5) (z := none) h1 rfl))) (fun h1 => rfl))) (fun h0 => rfl))
  kernel_rfl
set_option maxRecDepth 100000 in
theorem laws_eqIntS.ef (k : Nat) (l0 : List Int) (l1 : List Int) : R.start Try.prog xhn laws_eqIntS.O 0 Try.f25 laws_eqIntS.fh k [.imm (.I .i64 l0), .imm (.I .i64 l1)] [] = (if (l0.length : Int) = (l1.length : Int) then (laws_eqIntS.x0 k l0 l1 0) else (some (laws_eqIntS.en false))) := by kernel_rfl
theorem laws_eqIntS.link : ∀ k, (∀ (x0 : List Int) (x1 : List Int) (x5 : Int), laws_eqIntS.x0 k x0 x1 x5 = (laws_eqIntS.l0 k x0 x1 x5).map (laws_eqIntS.en))
  | 0 => fun _ _ _ => by simp only [laws_eqIntS.l0, R.map_none]; rfl
  | k + 1 => by
    have ih0 := laws_eqIntS.link k
    · intro x0 x1 x5
      rw [laws_eqIntS.e0]
      simp only [laws_eqIntS.l0, R.map_ite, R.map_bind, R.map_none, R.map_some, R.wr64_eq, ← ih0]
theorem laws_eqIntS.sf (k : Nat) (l0 : List Int) (l1 : List Int) : R.start Try.prog xhn laws_eqIntS.O 0 Try.f25 laws_eqIntS.fh k [.imm (.I .i64 l0), .imm (.I .i64 l1)] [] = (laws_eqIntS.f k l0 l1).map (laws_eqIntS.en) := by
  have ih0 := laws_eqIntS.link k
  rw [laws_eqIntS.ef]
  simp only [laws_eqIntS.f, R.map_ite, R.map_bind, R.map_none, R.map_some, R.wr64_eq, ← ih0]
theorem laws_eqIntS.ok (k : Nat) : laws_eqIntS.tw.Ok Try.prog k := by
  intro md hmd a r h
  refine fn_ok (H := xhn) (fh := laws_eqIntS.fh) (O := laws_eqIntS.O) (k := k) Try.func25 (by kernel_rfl) (by kernel_rfl) (fun j _ => noO_sound) (by kernel_rfl) (m := 0) rfl ?_
  refine (laws_eqIntS.sf k a.1 a.2).trans ?_
  exact congrArg (Option.map _) h
def laws_eqMatrix.f (k : Nat) (a0_0 : Int) (l0_1 : List Int) (a1_0 : Int) (l1_1 : List Int) : Option (Bool) := (if a0_0 = a1_0 then ((laws_eqIntS.f k l0_1 l1_1).bind fun t1 => (if t1 = true then (some true) else (some false))) else (some false))
def laws_eqMatrix.en (r : Bool) : Res := (.lit r, [])
def laws_eqMatrix.dec : List AV → List R.Obj → Option (Int × (List Int) × Int × (List Int))
  | [.agg [.int .i64 a0_0, .imm (.I .i64 l0_1)], .agg [.int .i64 a1_0, .imm (.I .i64 l1_1)]], [] => some (a0_0, l0_1, a1_0, l1_1)
  | _, _ => none
def laws_eqMatrix.tw : Tw := ⟨46, Int × (List Int) × Int × (List Int), Bool, laws_eqMatrix.dec, fun a => [.agg [.int .i64 a.1, .imm (.I .i64 a.2.1)], .agg [.int .i64 a.2.2.1, .imm (.I .i64 a.2.2.2)]], fun a => [], fun k a => laws_eqMatrix.f k a.1 a.2.1 a.2.2.1 a.2.2.2, fun a r => laws_eqMatrix.en r, true⟩
theorem laws_eqMatrix.dok : laws_eqMatrix.tw.DecOk := by
  intro args hc a h
  have h : laws_eqMatrix.dec args hc = some a := h
  unfold laws_eqMatrix.dec at h
  split at h
  · cases h; exact ⟨rfl, rfl⟩
  · cases h
noncomputable def laws_eqMatrix.O (k : Nat) : Oracle := (laws_eqIntS.tw.orc k noO)
def laws_eqMatrix.fh : FH := ⟨fun i => match i with | _ => none, [], false⟩
set_option maxRecDepth 100000 in
theorem laws_eqMatrix.ef (k : Nat) (a0_0 : Int) (l0_1 : List Int) (a1_0 : Int) (l1_1 : List Int) : R.start Try.prog xhn laws_eqMatrix.O 0 Try.f46 laws_eqMatrix.fh k [.agg [.int .i64 a0_0, .imm (.I .i64 l0_1)], .agg [.int .i64 a1_0, .imm (.I .i64 l1_1)]] [] = (if a0_0 = a1_0 then ((laws_eqIntS.f k l0_1 l1_1).bind fun t1 => (if t1 = true then (some (laws_eqMatrix.en true)) else (some (laws_eqMatrix.en false)))) else (some (laws_eqMatrix.en false))) := by kernel_rfl
theorem laws_eqMatrix.sf (k : Nat) (a0_0 : Int) (l0_1 : List Int) (a1_0 : Int) (l1_1 : List Int) : R.start Try.prog xhn laws_eqMatrix.O 0 Try.f46 laws_eqMatrix.fh k [.agg [.int .i64 a0_0, .imm (.I .i64 l0_1)], .agg [.int .i64 a1_0, .imm (.I .i64 l1_1)]] [] = (laws_eqMatrix.f k a0_0 l0_1 a1_0 l1_1).map (laws_eqMatrix.en) := by
  rw [laws_eqMatrix.ef]
  simp only [laws_eqMatrix.f, R.map_ite, R.map_bind, R.map_none, R.map_some, R.wr64_eq]
theorem laws_eqMatrix.ok (k : Nat) : laws_eqMatrix.tw.Ok Try.prog k := by
  intro md hmd a r h
  refine fn_ok (H := xhn) (fh := laws_eqMatrix.fh) (O := laws_eqMatrix.O) (k := k) Try.func46 (by kernel_rfl) (by kernel_rfl) (fun j _ => (Tw.orc_sound laws_eqIntS.dok (laws_eqIntS.ok j) (fun _ => rfl) noO_sound)) (by kernel_rfl) (m := 0) rfl ?_
  refine (laws_eqMatrix.sf k a.1 a.2.1 a.2.2.1 a.2.2.2).trans ?_
  exact congrArg (Option.map _) h
def laws_eqElement.f (k : Nat) (a0_0 : Int) (l0_1 : List Int) (a0_2 : ByteArray) (a1_0 : Int) (l1_1 : List Int) (a1_2 : ByteArray) : Option (Bool) := ((laws_eqMatrix.f k a0_0 l0_1 a1_0 l1_1).bind fun t1 => (if t1 = true then (if a0_2.toList = a1_2.toList then (some true) else (some false)) else (some false)))
def laws_eqElement.en (r : Bool) : Res := (.lit r, [])
def laws_eqElement.dec : List AV → List R.Obj → Option (Int × (List Int) × ByteArray × Int × (List Int) × ByteArray)
  | [.agg [.int .i64 a0_0, .imm (.I .i64 l0_1), .str a0_2], .agg [.int .i64 a1_0, .imm (.I .i64 l1_1), .str a1_2]], [] => some (a0_0, l0_1, a0_2, a1_0, l1_1, a1_2)
  | _, _ => none
def laws_eqElement.tw : Tw := ⟨24, Int × (List Int) × ByteArray × Int × (List Int) × ByteArray, Bool, laws_eqElement.dec, fun a => [.agg [.int .i64 a.1, .imm (.I .i64 a.2.1), .str a.2.2.1], .agg [.int .i64 a.2.2.2.1, .imm (.I .i64 a.2.2.2.2.1), .str a.2.2.2.2.2]], fun a => [], fun k a => laws_eqElement.f k a.1 a.2.1 a.2.2.1 a.2.2.2.1 a.2.2.2.2.1 a.2.2.2.2.2, fun a r => laws_eqElement.en r, true⟩
theorem laws_eqElement.dok : laws_eqElement.tw.DecOk := by
  intro args hc a h
  have h : laws_eqElement.dec args hc = some a := h
  unfold laws_eqElement.dec at h
  split at h
  · cases h; exact ⟨rfl, rfl⟩
  · cases h
noncomputable def laws_eqElement.O (k : Nat) : Oracle := (laws_eqMatrix.tw.orc k noO)
def laws_eqElement.fh : FH := ⟨fun i => match i with | _ => none, [], false⟩
set_option maxRecDepth 100000 in
theorem laws_eqElement.ef (k : Nat) (a0_0 : Int) (l0_1 : List Int) (a0_2 : ByteArray) (a1_0 : Int) (l1_1 : List Int) (a1_2 : ByteArray) : R.start Try.prog xhn laws_eqElement.O 0 Try.f24 laws_eqElement.fh k [.agg [.int .i64 a0_0, .imm (.I .i64 l0_1), .str a0_2], .agg [.int .i64 a1_0, .imm (.I .i64 l1_1), .str a1_2]] [] = ((laws_eqMatrix.f k a0_0 l0_1 a1_0 l1_1).bind fun t1 => (if t1 = true then (if a0_2.toList = a1_2.toList then (some (laws_eqElement.en true)) else (some (laws_eqElement.en false))) else (some (laws_eqElement.en false)))) := by kernel_rfl
theorem laws_eqElement.sf (k : Nat) (a0_0 : Int) (l0_1 : List Int) (a0_2 : ByteArray) (a1_0 : Int) (l1_1 : List Int) (a1_2 : ByteArray) : R.start Try.prog xhn laws_eqElement.O 0 Try.f24 laws_eqElement.fh k [.agg [.int .i64 a0_0, .imm (.I .i64 l0_1), .str a0_2], .agg [.int .i64 a1_0, .imm (.I .i64 l1_1), .str a1_2]] [] = (laws_eqElement.f k a0_0 l0_1 a0_2 a1_0 l1_1 a1_2).map (laws_eqElement.en) := by
  rw [laws_eqElement.ef]
  simp only [laws_eqElement.f, R.map_ite, R.map_bind, R.map_none, R.map_some, R.wr64_eq]
theorem laws_eqElement.ok (k : Nat) : laws_eqElement.tw.Ok Try.prog k := by
  intro md hmd a r h
  refine fn_ok (H := xhn) (fh := laws_eqElement.fh) (O := laws_eqElement.O) (k := k) Try.func24 (by kernel_rfl) (by kernel_rfl) (fun j _ => (Tw.orc_sound laws_eqMatrix.dok (laws_eqMatrix.ok j) (fun _ => rfl) noO_sound)) (by kernel_rfl) (m := 0) rfl ?_
  refine (laws_eqElement.sf k a.1 a.2.1 a.2.2.1 a.2.2.2.1 a.2.2.2.2.1 a.2.2.2.2.2).trans ?_
  exact congrArg (Option.map _) h
def laws_eqElementS.l0 : Nat → (List Elm) → (List Elm) → Int → Option (Bool)
  | 0, _, _, _ => none
  | k + 1, x0, x1, x5 => (if x5 < (x0.length : Int) then (if 0 ≤ x5 then (if x5 < (x1.length : Int) then ((laws_eqElement.f k ((rdE x0 x5).f0) ((rdE x0 x5).f1) ((rdE x0 x5).f2) ((rdE x1 x5).f0) ((rdE x1 x5).f1) ((rdE x1 x5).f2)).bind fun t1 => (if t1 = true then (laws_eqElementS.l0 k x0 x1 (wrap64 (x5 + 1))) else (some false))) else none) else none) else (some true))
def laws_eqElementS.f (k : Nat) (l0 : List Elm) (l1 : List Elm) : Option (Bool) := (if (l0.length : Int) = (l1.length : Int) then (laws_eqElementS.l0 k l0 l1 0) else (some false))
def laws_eqElementS.en (r : Bool) : Res := (.lit r, [])
def laws_eqElementS.dec : List AV → List R.Obj → Option ((List Elm) × (List Elm))
  | [.imm (.E l0), .imm (.E l1)], [] => some (l0, l1)
  | _, _ => none
def laws_eqElementS.tw : Tw := ⟨8, (List Elm) × (List Elm), Bool, laws_eqElementS.dec, fun a => [.imm (.E a.1), .imm (.E a.2)], fun a => [], fun k a => laws_eqElementS.f k a.1 a.2, fun a r => laws_eqElementS.en r, true⟩
theorem laws_eqElementS.dok : laws_eqElementS.tw.DecOk := by
  intro args hc a h
  have h : laws_eqElementS.dec args hc = some a := h
  unfold laws_eqElementS.dec at h
  split at h
  · cases h; exact ⟨rfl, rfl⟩
  · cases h
noncomputable def laws_eqElementS.O (k : Nat) : Oracle := (laws_eqElement.tw.orc k noO)
def laws_eqElementS.fh : FH := ⟨fun i => match i with | 4 => some [(0, 0), (1, 0), (5, 0)] | _ => none, [], false⟩
noncomputable def laws_eqElementS.x0 (k : Nat) (x0 : List Elm) (x1 : List Elm) (x5 : Int) : Option Res := R.exec Try.prog xhn laws_eqElementS.O 0 Try.f8 laws_eqElementS.fh k (R.point Try.f8 4) ⟨[(0, .imm (.E x0)), (1, .imm (.E x1)), (5, .int .i64 x5)], [], 2⟩
set_option maxRecDepth 100000 in
theorem laws_eqElementS.e0 (k : Nat) (x0 : List Elm) (x1 : List Elm) (x5 : Int) : laws_eqElementS.x0 (k + 1) x0 x1 x5 = (if x5 < (x0.length : Int) then (if 0 ≤ x5 then (if x5 < (x1.length : Int) then ((laws_eqElement.f k ((rdE x0 x5).f0) ((rdE x0 x5).f1) ((rdE x0 x5).f2) ((rdE x1 x5).f0) ((rdE x1 x5).f1) ((rdE x1 x5).f2)).bind fun t1 => (if t1 = true then (laws_eqElementS.x0 k x0 x1 (wr64 (x5 + 1))) else (some (laws_eqElementS.en false)))) else none) else none) else (some (laws_eqElementS.en true))) := by
  refine Eq.trans ?_ (R.icong (fun h0 => (R.icong (fun h1 => (R.idropT (p := x5 < (x0.length : Int)) (z := none) h0 (R.idropT (p := 0 ≤ x5) (z := none) h1 rfl))) (fun h1 => rfl))) (fun h0 => rfl))
  kernel_rfl
set_option maxRecDepth 100000 in
theorem laws_eqElementS.ef (k : Nat) (l0 : List Elm) (l1 : List Elm) : R.start Try.prog xhn laws_eqElementS.O 0 Try.f8 laws_eqElementS.fh k [.imm (.E l0), .imm (.E l1)] [] = (if (l0.length : Int) = (l1.length : Int) then (laws_eqElementS.x0 k l0 l1 0) else (some (laws_eqElementS.en false))) := by kernel_rfl
theorem laws_eqElementS.link : ∀ k, (∀ (x0 : List Elm) (x1 : List Elm) (x5 : Int), laws_eqElementS.x0 k x0 x1 x5 = (laws_eqElementS.l0 k x0 x1 x5).map (laws_eqElementS.en))
  | 0 => fun _ _ _ => by simp only [laws_eqElementS.l0, R.map_none]; rfl
  | k + 1 => by
    have ih0 := laws_eqElementS.link k
    · intro x0 x1 x5
      rw [laws_eqElementS.e0]
      simp only [laws_eqElementS.l0, R.map_ite, R.map_bind, R.map_none, R.map_some, R.wr64_eq, ← ih0]
theorem laws_eqElementS.sf (k : Nat) (l0 : List Elm) (l1 : List Elm) : R.start Try.prog xhn laws_eqElementS.O 0 Try.f8 laws_eqElementS.fh k [.imm (.E l0), .imm (.E l1)] [] = (laws_eqElementS.f k l0 l1).map (laws_eqElementS.en) := by
  have ih0 := laws_eqElementS.link k
  rw [laws_eqElementS.ef]
  simp only [laws_eqElementS.f, R.map_ite, R.map_bind, R.map_none, R.map_some, R.wr64_eq, ← ih0]
theorem laws_eqElementS.ok (k : Nat) : laws_eqElementS.tw.Ok Try.prog k := by
  intro md hmd a r h
  refine fn_ok (H := xhn) (fh := laws_eqElementS.fh) (O := laws_eqElementS.O) (k := k) Try.func8 (by kernel_rfl) (by kernel_rfl) (fun j _ => (Tw.orc_sound laws_eqElement.dok (laws_eqElement.ok j) (fun _ => rfl) noO_sound)) (by kernel_rfl) (m := 0) rfl ?_
  refine (laws_eqElementS.sf k a.1 a.2).trans ?_
  exact congrArg (Option.map _) h
def laws_eqStep.f (a0_0 : Int) (a0_1 : ByteArray) (a0_2 : Int) (a0_3 : Int) (a1_0 : Int) (a1_1 : ByteArray) (a1_2 : Int) (a1_3 : Int) : Option (Bool) := (if a0_0 = a1_0 then (if a0_1.toList = a1_1.toList then (if a0_2 = a1_2 then (if a0_3 = a1_3 then (some true) else (some false)) else (some false)) else (some false)) else (some false))
def laws_eqStep.en (r : Bool) : Res := (.lit r, [])
def laws_eqStep.dec : List AV → List R.Obj → Option (Int × ByteArray × Int × Int × Int × ByteArray × Int × Int)
  | [.agg [.int .i64 a0_0, .str a0_1, .int .i64 a0_2, .int .i64 a0_3], .agg [.int .i64 a1_0, .str a1_1, .int .i64 a1_2, .int .i64 a1_3]], [] => some (a0_0, a0_1, a0_2, a0_3, a1_0, a1_1, a1_2, a1_3)
  | _, _ => none
def laws_eqStep.tw : Tw := ⟨47, Int × ByteArray × Int × Int × Int × ByteArray × Int × Int, Bool, laws_eqStep.dec, fun a => [.agg [.int .i64 a.1, .str a.2.1, .int .i64 a.2.2.1, .int .i64 a.2.2.2.1], .agg [.int .i64 a.2.2.2.2.1, .str a.2.2.2.2.2.1, .int .i64 a.2.2.2.2.2.2.1, .int .i64 a.2.2.2.2.2.2.2]], fun a => [], fun k a => laws_eqStep.f a.1 a.2.1 a.2.2.1 a.2.2.2.1 a.2.2.2.2.1 a.2.2.2.2.2.1 a.2.2.2.2.2.2.1 a.2.2.2.2.2.2.2, fun a r => laws_eqStep.en r, true⟩
theorem laws_eqStep.dok : laws_eqStep.tw.DecOk := by
  intro args hc a h
  have h : laws_eqStep.dec args hc = some a := h
  unfold laws_eqStep.dec at h
  split at h
  · cases h; exact ⟨rfl, rfl⟩
  · cases h
noncomputable def laws_eqStep.O (k : Nat) : Oracle := noO
def laws_eqStep.fh : FH := ⟨fun i => match i with | _ => none, [], false⟩
set_option maxRecDepth 100000 in
theorem laws_eqStep.ef (k : Nat) (a0_0 : Int) (a0_1 : ByteArray) (a0_2 : Int) (a0_3 : Int) (a1_0 : Int) (a1_1 : ByteArray) (a1_2 : Int) (a1_3 : Int) : R.start Try.prog xhn laws_eqStep.O 0 Try.f47 laws_eqStep.fh k [.agg [.int .i64 a0_0, .str a0_1, .int .i64 a0_2, .int .i64 a0_3], .agg [.int .i64 a1_0, .str a1_1, .int .i64 a1_2, .int .i64 a1_3]] [] = (if a0_0 = a1_0 then (if a0_1.toList = a1_1.toList then (if a0_2 = a1_2 then (if a0_3 = a1_3 then (some (laws_eqStep.en true)) else (some (laws_eqStep.en false))) else (some (laws_eqStep.en false))) else (some (laws_eqStep.en false))) else (some (laws_eqStep.en false))) := by kernel_rfl
theorem laws_eqStep.sf (k : Nat) (a0_0 : Int) (a0_1 : ByteArray) (a0_2 : Int) (a0_3 : Int) (a1_0 : Int) (a1_1 : ByteArray) (a1_2 : Int) (a1_3 : Int) : R.start Try.prog xhn laws_eqStep.O 0 Try.f47 laws_eqStep.fh k [.agg [.int .i64 a0_0, .str a0_1, .int .i64 a0_2, .int .i64 a0_3], .agg [.int .i64 a1_0, .str a1_1, .int .i64 a1_2, .int .i64 a1_3]] [] = (laws_eqStep.f a0_0 a0_1 a0_2 a0_3 a1_0 a1_1 a1_2 a1_3).map (laws_eqStep.en) := by
  rw [laws_eqStep.ef]
  simp only [laws_eqStep.f, R.map_ite, R.map_bind, R.map_none, R.map_some, R.wr64_eq]
theorem laws_eqStep.ok (k : Nat) : laws_eqStep.tw.Ok Try.prog k := by
  intro md hmd a r h
  refine fn_ok (H := xhn) (fh := laws_eqStep.fh) (O := laws_eqStep.O) (k := k) Try.func47 (by kernel_rfl) (by kernel_rfl) (fun j _ => noO_sound) (by kernel_rfl) (m := 0) rfl ?_
  refine (laws_eqStep.sf k a.1 a.2.1 a.2.2.1 a.2.2.2.1 a.2.2.2.2.1 a.2.2.2.2.2.1 a.2.2.2.2.2.2.1 a.2.2.2.2.2.2.2).trans ?_
  exact congrArg (Option.map _) h
def laws_eqStepS.l0 : Nat → (List Stp) → (List Stp) → Int → Option (Bool)
  | 0, _, _, _ => none
  | k + 1, x0, x1, x5 => (if x5 < (x0.length : Int) then (if 0 ≤ x5 then (if x5 < (x1.length : Int) then ((laws_eqStep.f ((rdT x0 x5).f0) ((rdT x0 x5).f1) ((rdT x0 x5).f2) ((rdT x0 x5).f3) ((rdT x1 x5).f0) ((rdT x1 x5).f1) ((rdT x1 x5).f2) ((rdT x1 x5).f3)).bind fun t1 => (if t1 = true then (laws_eqStepS.l0 k x0 x1 (wrap64 (x5 + 1))) else (some false))) else none) else none) else (some true))
def laws_eqStepS.f (k : Nat) (l0 : List Stp) (l1 : List Stp) : Option (Bool) := (if (l0.length : Int) = (l1.length : Int) then (laws_eqStepS.l0 k l0 l1 0) else (some false))
def laws_eqStepS.en (r : Bool) : Res := (.lit r, [])
def laws_eqStepS.dec : List AV → List R.Obj → Option ((List Stp) × (List Stp))
  | [.imm (.T l0), .imm (.T l1)], [] => some (l0, l1)
  | _, _ => none
def laws_eqStepS.tw : Tw := ⟨26, (List Stp) × (List Stp), Bool, laws_eqStepS.dec, fun a => [.imm (.T a.1), .imm (.T a.2)], fun a => [], fun k a => laws_eqStepS.f k a.1 a.2, fun a r => laws_eqStepS.en r, true⟩
theorem laws_eqStepS.dok : laws_eqStepS.tw.DecOk := by
  intro args hc a h
  have h : laws_eqStepS.dec args hc = some a := h
  unfold laws_eqStepS.dec at h
  split at h
  · cases h; exact ⟨rfl, rfl⟩
  · cases h
noncomputable def laws_eqStepS.O (k : Nat) : Oracle := (laws_eqStep.tw.orc k noO)
def laws_eqStepS.fh : FH := ⟨fun i => match i with | 4 => some [(0, 0), (1, 0), (5, 0)] | _ => none, [], false⟩
noncomputable def laws_eqStepS.x0 (k : Nat) (x0 : List Stp) (x1 : List Stp) (x5 : Int) : Option Res := R.exec Try.prog xhn laws_eqStepS.O 0 Try.f26 laws_eqStepS.fh k (R.point Try.f26 4) ⟨[(0, .imm (.T x0)), (1, .imm (.T x1)), (5, .int .i64 x5)], [], 2⟩
set_option maxRecDepth 100000 in
theorem laws_eqStepS.e0 (k : Nat) (x0 : List Stp) (x1 : List Stp) (x5 : Int) : laws_eqStepS.x0 (k + 1) x0 x1 x5 = (if x5 < (x0.length : Int) then (if 0 ≤ x5 then (if x5 < (x1.length : Int) then ((laws_eqStep.f ((rdT x0 x5).f0) ((rdT x0 x5).f1) ((rdT x0 x5).f2) ((rdT x0 x5).f3) ((rdT x1 x5).f0) ((rdT x1 x5).f1) ((rdT x1 x5).f2) ((rdT x1 x5).f3)).bind fun t1 => (if t1 = true then (laws_eqStepS.x0 k x0 x1 (wr64 (x5 + 1))) else (some (laws_eqStepS.en false)))) else none) else none) else (some (laws_eqStepS.en true))) := by
  refine Eq.trans ?_ (R.icong (fun h0 => (R.icong (fun h1 => (R.idropT (p := x5 < (x0.length : Int)) (z := none) h0 (R.idropT (p := 0 ≤ x5) (z := none) h1 rfl))) (fun h1 => rfl))) (fun h0 => rfl))
  kernel_rfl
set_option maxRecDepth 100000 in
theorem laws_eqStepS.ef (k : Nat) (l0 : List Stp) (l1 : List Stp) : R.start Try.prog xhn laws_eqStepS.O 0 Try.f26 laws_eqStepS.fh k [.imm (.T l0), .imm (.T l1)] [] = (if (l0.length : Int) = (l1.length : Int) then (laws_eqStepS.x0 k l0 l1 0) else (some (laws_eqStepS.en false))) := by kernel_rfl
theorem laws_eqStepS.link : ∀ k, (∀ (x0 : List Stp) (x1 : List Stp) (x5 : Int), laws_eqStepS.x0 k x0 x1 x5 = (laws_eqStepS.l0 k x0 x1 x5).map (laws_eqStepS.en))
  | 0 => fun _ _ _ => by simp only [laws_eqStepS.l0, R.map_none]; rfl
  | k + 1 => by
    have ih0 := laws_eqStepS.link k
    · intro x0 x1 x5
      rw [laws_eqStepS.e0]
      simp only [laws_eqStepS.l0, R.map_ite, R.map_bind, R.map_none, R.map_some, R.wr64_eq, ← ih0]
theorem laws_eqStepS.sf (k : Nat) (l0 : List Stp) (l1 : List Stp) : R.start Try.prog xhn laws_eqStepS.O 0 Try.f26 laws_eqStepS.fh k [.imm (.T l0), .imm (.T l1)] [] = (laws_eqStepS.f k l0 l1).map (laws_eqStepS.en) := by
  have ih0 := laws_eqStepS.link k
  rw [laws_eqStepS.ef]
  simp only [laws_eqStepS.f, R.map_ite, R.map_bind, R.map_none, R.map_some, R.wr64_eq, ← ih0]
theorem laws_eqStepS.ok (k : Nat) : laws_eqStepS.tw.Ok Try.prog k := by
  intro md hmd a r h
  refine fn_ok (H := xhn) (fh := laws_eqStepS.fh) (O := laws_eqStepS.O) (k := k) Try.func26 (by kernel_rfl) (by kernel_rfl) (fun j _ => (Tw.orc_sound laws_eqStep.dok (laws_eqStep.ok j) (fun _ => rfl) noO_sound)) (by kernel_rfl) (m := 0) rfl ?_
  refine (laws_eqStepS.sf k a.1 a.2).trans ?_
  exact congrArg (Option.map _) h
def laws_eqAutomaton.f (k : Nat) (a0_0 : Int) (l0_1 : List Int) (l0_2 : List Int) (l0_3 : List Stp) (a1_0 : Int) (l1_1 : List Int) (l1_2 : List Int) (l1_3 : List Stp) : Option (Bool) := (if a0_0 = a1_0 then ((laws_eqIntS.f k l0_1 l1_1).bind fun t1 => (if t1 = true then ((laws_eqIntS.f k l0_2 l1_2).bind fun t2 => (if t2 = true then ((laws_eqStepS.f k l0_3 l1_3).bind fun t3 => (if t3 = true then (some true) else (some false))) else (some false))) else (some false))) else (some false))
def laws_eqAutomaton.en (r : Bool) : Res := (.lit r, [])
def laws_eqAutomaton.dec : List AV → List R.Obj → Option (Int × (List Int) × (List Int) × (List Stp) × Int × (List Int) × (List Int) × (List Stp))
  | [.agg [.int .i64 a0_0, .imm (.I .i64 l0_1), .imm (.I .i64 l0_2), .imm (.T l0_3)], .agg [.int .i64 a1_0, .imm (.I .i64 l1_1), .imm (.I .i64 l1_2), .imm (.T l1_3)]], [] => some (a0_0, l0_1, l0_2, l0_3, a1_0, l1_1, l1_2, l1_3)
  | _, _ => none
def laws_eqAutomaton.tw : Tw := ⟨9, Int × (List Int) × (List Int) × (List Stp) × Int × (List Int) × (List Int) × (List Stp), Bool, laws_eqAutomaton.dec, fun a => [.agg [.int .i64 a.1, .imm (.I .i64 a.2.1), .imm (.I .i64 a.2.2.1), .imm (.T a.2.2.2.1)], .agg [.int .i64 a.2.2.2.2.1, .imm (.I .i64 a.2.2.2.2.2.1), .imm (.I .i64 a.2.2.2.2.2.2.1), .imm (.T a.2.2.2.2.2.2.2)]], fun a => [], fun k a => laws_eqAutomaton.f k a.1 a.2.1 a.2.2.1 a.2.2.2.1 a.2.2.2.2.1 a.2.2.2.2.2.1 a.2.2.2.2.2.2.1 a.2.2.2.2.2.2.2, fun a r => laws_eqAutomaton.en r, true⟩
theorem laws_eqAutomaton.dok : laws_eqAutomaton.tw.DecOk := by
  intro args hc a h
  have h : laws_eqAutomaton.dec args hc = some a := h
  unfold laws_eqAutomaton.dec at h
  split at h
  · cases h; exact ⟨rfl, rfl⟩
  · cases h
noncomputable def laws_eqAutomaton.O (k : Nat) : Oracle := (laws_eqIntS.tw.orc k (laws_eqStepS.tw.orc k noO))
def laws_eqAutomaton.fh : FH := ⟨fun i => match i with | _ => none, [], false⟩
set_option maxRecDepth 100000 in
theorem laws_eqAutomaton.ef (k : Nat) (a0_0 : Int) (l0_1 : List Int) (l0_2 : List Int) (l0_3 : List Stp) (a1_0 : Int) (l1_1 : List Int) (l1_2 : List Int) (l1_3 : List Stp) : R.start Try.prog xhn laws_eqAutomaton.O 0 Try.f9 laws_eqAutomaton.fh k [.agg [.int .i64 a0_0, .imm (.I .i64 l0_1), .imm (.I .i64 l0_2), .imm (.T l0_3)], .agg [.int .i64 a1_0, .imm (.I .i64 l1_1), .imm (.I .i64 l1_2), .imm (.T l1_3)]] [] = (if a0_0 = a1_0 then ((laws_eqIntS.f k l0_1 l1_1).bind fun t1 => (if t1 = true then ((laws_eqIntS.f k l0_2 l1_2).bind fun t2 => (if t2 = true then ((laws_eqStepS.f k l0_3 l1_3).bind fun t3 => (if t3 = true then (some (laws_eqAutomaton.en true)) else (some (laws_eqAutomaton.en false)))) else (some (laws_eqAutomaton.en false)))) else (some (laws_eqAutomaton.en false)))) else (some (laws_eqAutomaton.en false))) := by kernel_rfl
theorem laws_eqAutomaton.sf (k : Nat) (a0_0 : Int) (l0_1 : List Int) (l0_2 : List Int) (l0_3 : List Stp) (a1_0 : Int) (l1_1 : List Int) (l1_2 : List Int) (l1_3 : List Stp) : R.start Try.prog xhn laws_eqAutomaton.O 0 Try.f9 laws_eqAutomaton.fh k [.agg [.int .i64 a0_0, .imm (.I .i64 l0_1), .imm (.I .i64 l0_2), .imm (.T l0_3)], .agg [.int .i64 a1_0, .imm (.I .i64 l1_1), .imm (.I .i64 l1_2), .imm (.T l1_3)]] [] = (laws_eqAutomaton.f k a0_0 l0_1 l0_2 l0_3 a1_0 l1_1 l1_2 l1_3).map (laws_eqAutomaton.en) := by
  rw [laws_eqAutomaton.ef]
  simp only [laws_eqAutomaton.f, R.map_ite, R.map_bind, R.map_none, R.map_some, R.wr64_eq]
theorem laws_eqAutomaton.ok (k : Nat) : laws_eqAutomaton.tw.Ok Try.prog k := by
  intro md hmd a r h
  refine fn_ok (H := xhn) (fh := laws_eqAutomaton.fh) (O := laws_eqAutomaton.O) (k := k) Try.func9 (by kernel_rfl) (by kernel_rfl) (fun j _ => (Tw.orc_sound laws_eqIntS.dok (laws_eqIntS.ok j) (fun _ => rfl) (Tw.orc_sound laws_eqStepS.dok (laws_eqStepS.ok j) (fun _ => rfl) noO_sound))) (by kernel_rfl) (m := 0) rfl ?_
  refine (laws_eqAutomaton.sf k a.1 a.2.1 a.2.2.1 a.2.2.2.1 a.2.2.2.2.1 a.2.2.2.2.2.1 a.2.2.2.2.2.2.1 a.2.2.2.2.2.2.2).trans ?_
  exact congrArg (Option.map _) h
def laws_markStepS.l0 : Nat → (List Stp) → Int → Int → Option (Int × (List Stp))
  | 0, _, _, _ => none
  | k + 1, y0, x1, x5 => (if x5 < (y0.length : Int) then (if 0 ≤ x5 then ((laws_markText.f k (wrap64 (x1 + 1))).bind fun t1 => (if x5 < ((y0.set x5.toNat (⟨x1, (rdT y0 x5).f1, (rdT y0 x5).f2, (rdT y0 x5).f3⟩ : Stp)).length : Int) then (if x5 < (((y0.set x5.toNat (⟨x1, (rdT y0 x5).f1, (rdT y0 x5).f2, (rdT y0 x5).f3⟩ : Stp)).set x5.toNat (⟨(rdT (y0.set x5.toNat (⟨x1, (rdT y0 x5).f1, (rdT y0 x5).f2, (rdT y0 x5).f3⟩ : Stp)) x5).f0, t1, (rdT (y0.set x5.toNat (⟨x1, (rdT y0 x5).f1, (rdT y0 x5).f2, (rdT y0 x5).f3⟩ : Stp)) x5).f2, (rdT (y0.set x5.toNat (⟨x1, (rdT y0 x5).f1, (rdT y0 x5).f2, (rdT y0 x5).f3⟩ : Stp)) x5).f3⟩ : Stp)).length : Int) then (if x5 < ((((y0.set x5.toNat (⟨x1, (rdT y0 x5).f1, (rdT y0 x5).f2, (rdT y0 x5).f3⟩ : Stp)).set x5.toNat (⟨(rdT (y0.set x5.toNat (⟨x1, (rdT y0 x5).f1, (rdT y0 x5).f2, (rdT y0 x5).f3⟩ : Stp)) x5).f0, t1, (rdT (y0.set x5.toNat (⟨x1, (rdT y0 x5).f1, (rdT y0 x5).f2, (rdT y0 x5).f3⟩ : Stp)) x5).f2, (rdT (y0.set x5.toNat (⟨x1, (rdT y0 x5).f1, (rdT y0 x5).f2, (rdT y0 x5).f3⟩ : Stp)) x5).f3⟩ : Stp)).set x5.toNat (⟨(rdT ((y0.set x5.toNat (⟨x1, (rdT y0 x5).f1, (rdT y0 x5).f2, (rdT y0 x5).f3⟩ : Stp)).set x5.toNat (⟨(rdT (y0.set x5.toNat (⟨x1, (rdT y0 x5).f1, (rdT y0 x5).f2, (rdT y0 x5).f3⟩ : Stp)) x5).f0, t1, (rdT (y0.set x5.toNat (⟨x1, (rdT y0 x5).f1, (rdT y0 x5).f2, (rdT y0 x5).f3⟩ : Stp)) x5).f2, (rdT (y0.set x5.toNat (⟨x1, (rdT y0 x5).f1, (rdT y0 x5).f2, (rdT y0 x5).f3⟩ : Stp)) x5).f3⟩ : Stp)) x5).f0, (rdT ((y0.set x5.toNat (⟨x1, (rdT y0 x5).f1, (rdT y0 x5).f2, (rdT y0 x5).f3⟩ : Stp)).set x5.toNat (⟨(rdT (y0.set x5.toNat (⟨x1, (rdT y0 x5).f1, (rdT y0 x5).f2, (rdT y0 x5).f3⟩ : Stp)) x5).f0, t1, (rdT (y0.set x5.toNat (⟨x1, (rdT y0 x5).f1, (rdT y0 x5).f2, (rdT y0 x5).f3⟩ : Stp)) x5).f2, (rdT (y0.set x5.toNat (⟨x1, (rdT y0 x5).f1, (rdT y0 x5).f2, (rdT y0 x5).f3⟩ : Stp)) x5).f3⟩ : Stp)) x5).f1, (wrap64 ((wrap64 (x1 + 1)) + 1)), (rdT ((y0.set x5.toNat (⟨x1, (rdT y0 x5).f1, (rdT y0 x5).f2, (rdT y0 x5).f3⟩ : Stp)).set x5.toNat (⟨(rdT (y0.set x5.toNat (⟨x1, (rdT y0 x5).f1, (rdT y0 x5).f2, (rdT y0 x5).f3⟩ : Stp)) x5).f0, t1, (rdT (y0.set x5.toNat (⟨x1, (rdT y0 x5).f1, (rdT y0 x5).f2, (rdT y0 x5).f3⟩ : Stp)) x5).f2, (rdT (y0.set x5.toNat (⟨x1, (rdT y0 x5).f1, (rdT y0 x5).f2, (rdT y0 x5).f3⟩ : Stp)) x5).f3⟩ : Stp)) x5).f3⟩ : Stp)).length : Int) then (laws_markStepS.l0 k ((((y0.set x5.toNat (⟨x1, (rdT y0 x5).f1, (rdT y0 x5).f2, (rdT y0 x5).f3⟩ : Stp)).set x5.toNat (⟨(rdT (y0.set x5.toNat (⟨x1, (rdT y0 x5).f1, (rdT y0 x5).f2, (rdT y0 x5).f3⟩ : Stp)) x5).f0, t1, (rdT (y0.set x5.toNat (⟨x1, (rdT y0 x5).f1, (rdT y0 x5).f2, (rdT y0 x5).f3⟩ : Stp)) x5).f2, (rdT (y0.set x5.toNat (⟨x1, (rdT y0 x5).f1, (rdT y0 x5).f2, (rdT y0 x5).f3⟩ : Stp)) x5).f3⟩ : Stp)).set x5.toNat (⟨(rdT ((y0.set x5.toNat (⟨x1, (rdT y0 x5).f1, (rdT y0 x5).f2, (rdT y0 x5).f3⟩ : Stp)).set x5.toNat (⟨(rdT (y0.set x5.toNat (⟨x1, (rdT y0 x5).f1, (rdT y0 x5).f2, (rdT y0 x5).f3⟩ : Stp)) x5).f0, t1, (rdT (y0.set x5.toNat (⟨x1, (rdT y0 x5).f1, (rdT y0 x5).f2, (rdT y0 x5).f3⟩ : Stp)) x5).f2, (rdT (y0.set x5.toNat (⟨x1, (rdT y0 x5).f1, (rdT y0 x5).f2, (rdT y0 x5).f3⟩ : Stp)) x5).f3⟩ : Stp)) x5).f0, (rdT ((y0.set x5.toNat (⟨x1, (rdT y0 x5).f1, (rdT y0 x5).f2, (rdT y0 x5).f3⟩ : Stp)).set x5.toNat (⟨(rdT (y0.set x5.toNat (⟨x1, (rdT y0 x5).f1, (rdT y0 x5).f2, (rdT y0 x5).f3⟩ : Stp)) x5).f0, t1, (rdT (y0.set x5.toNat (⟨x1, (rdT y0 x5).f1, (rdT y0 x5).f2, (rdT y0 x5).f3⟩ : Stp)) x5).f2, (rdT (y0.set x5.toNat (⟨x1, (rdT y0 x5).f1, (rdT y0 x5).f2, (rdT y0 x5).f3⟩ : Stp)) x5).f3⟩ : Stp)) x5).f1, (wrap64 ((wrap64 (x1 + 1)) + 1)), (rdT ((y0.set x5.toNat (⟨x1, (rdT y0 x5).f1, (rdT y0 x5).f2, (rdT y0 x5).f3⟩ : Stp)).set x5.toNat (⟨(rdT (y0.set x5.toNat (⟨x1, (rdT y0 x5).f1, (rdT y0 x5).f2, (rdT y0 x5).f3⟩ : Stp)) x5).f0, t1, (rdT (y0.set x5.toNat (⟨x1, (rdT y0 x5).f1, (rdT y0 x5).f2, (rdT y0 x5).f3⟩ : Stp)) x5).f2, (rdT (y0.set x5.toNat (⟨x1, (rdT y0 x5).f1, (rdT y0 x5).f2, (rdT y0 x5).f3⟩ : Stp)) x5).f3⟩ : Stp)) x5).f3⟩ : Stp)).set x5.toNat (⟨(rdT (((y0.set x5.toNat (⟨x1, (rdT y0 x5).f1, (rdT y0 x5).f2, (rdT y0 x5).f3⟩ : Stp)).set x5.toNat (⟨(rdT (y0.set x5.toNat (⟨x1, (rdT y0 x5).f1, (rdT y0 x5).f2, (rdT y0 x5).f3⟩ : Stp)) x5).f0, t1, (rdT (y0.set x5.toNat (⟨x1, (rdT y0 x5).f1, (rdT y0 x5).f2, (rdT y0 x5).f3⟩ : Stp)) x5).f2, (rdT (y0.set x5.toNat (⟨x1, (rdT y0 x5).f1, (rdT y0 x5).f2, (rdT y0 x5).f3⟩ : Stp)) x5).f3⟩ : Stp)).set x5.toNat (⟨(rdT ((y0.set x5.toNat (⟨x1, (rdT y0 x5).f1, (rdT y0 x5).f2, (rdT y0 x5).f3⟩ : Stp)).set x5.toNat (⟨(rdT (y0.set x5.toNat (⟨x1, (rdT y0 x5).f1, (rdT y0 x5).f2, (rdT y0 x5).f3⟩ : Stp)) x5).f0, t1, (rdT (y0.set x5.toNat (⟨x1, (rdT y0 x5).f1, (rdT y0 x5).f2, (rdT y0 x5).f3⟩ : Stp)) x5).f2, (rdT (y0.set x5.toNat (⟨x1, (rdT y0 x5).f1, (rdT y0 x5).f2, (rdT y0 x5).f3⟩ : Stp)) x5).f3⟩ : Stp)) x5).f0, (rdT ((y0.set x5.toNat (⟨x1, (rdT y0 x5).f1, (rdT y0 x5).f2, (rdT y0 x5).f3⟩ : Stp)).set x5.toNat (⟨(rdT (y0.set x5.toNat (⟨x1, (rdT y0 x5).f1, (rdT y0 x5).f2, (rdT y0 x5).f3⟩ : Stp)) x5).f0, t1, (rdT (y0.set x5.toNat (⟨x1, (rdT y0 x5).f1, (rdT y0 x5).f2, (rdT y0 x5).f3⟩ : Stp)) x5).f2, (rdT (y0.set x5.toNat (⟨x1, (rdT y0 x5).f1, (rdT y0 x5).f2, (rdT y0 x5).f3⟩ : Stp)) x5).f3⟩ : Stp)) x5).f1, (wrap64 ((wrap64 (x1 + 1)) + 1)), (rdT ((y0.set x5.toNat (⟨x1, (rdT y0 x5).f1, (rdT y0 x5).f2, (rdT y0 x5).f3⟩ : Stp)).set x5.toNat (⟨(rdT (y0.set x5.toNat (⟨x1, (rdT y0 x5).f1, (rdT y0 x5).f2, (rdT y0 x5).f3⟩ : Stp)) x5).f0, t1, (rdT (y0.set x5.toNat (⟨x1, (rdT y0 x5).f1, (rdT y0 x5).f2, (rdT y0 x5).f3⟩ : Stp)) x5).f2, (rdT (y0.set x5.toNat (⟨x1, (rdT y0 x5).f1, (rdT y0 x5).f2, (rdT y0 x5).f3⟩ : Stp)) x5).f3⟩ : Stp)) x5).f3⟩ : Stp)) x5).f0, (rdT (((y0.set x5.toNat (⟨x1, (rdT y0 x5).f1, (rdT y0 x5).f2, (rdT y0 x5).f3⟩ : Stp)).set x5.toNat (⟨(rdT (y0.set x5.toNat (⟨x1, (rdT y0 x5).f1, (rdT y0 x5).f2, (rdT y0 x5).f3⟩ : Stp)) x5).f0, t1, (rdT (y0.set x5.toNat (⟨x1, (rdT y0 x5).f1, (rdT y0 x5).f2, (rdT y0 x5).f3⟩ : Stp)) x5).f2, (rdT (y0.set x5.toNat (⟨x1, (rdT y0 x5).f1, (rdT y0 x5).f2, (rdT y0 x5).f3⟩ : Stp)) x5).f3⟩ : Stp)).set x5.toNat (⟨(rdT ((y0.set x5.toNat (⟨x1, (rdT y0 x5).f1, (rdT y0 x5).f2, (rdT y0 x5).f3⟩ : Stp)).set x5.toNat (⟨(rdT (y0.set x5.toNat (⟨x1, (rdT y0 x5).f1, (rdT y0 x5).f2, (rdT y0 x5).f3⟩ : Stp)) x5).f0, t1, (rdT (y0.set x5.toNat (⟨x1, (rdT y0 x5).f1, (rdT y0 x5).f2, (rdT y0 x5).f3⟩ : Stp)) x5).f2, (rdT (y0.set x5.toNat (⟨x1, (rdT y0 x5).f1, (rdT y0 x5).f2, (rdT y0 x5).f3⟩ : Stp)) x5).f3⟩ : Stp)) x5).f0, (rdT ((y0.set x5.toNat (⟨x1, (rdT y0 x5).f1, (rdT y0 x5).f2, (rdT y0 x5).f3⟩ : Stp)).set x5.toNat (⟨(rdT (y0.set x5.toNat (⟨x1, (rdT y0 x5).f1, (rdT y0 x5).f2, (rdT y0 x5).f3⟩ : Stp)) x5).f0, t1, (rdT (y0.set x5.toNat (⟨x1, (rdT y0 x5).f1, (rdT y0 x5).f2, (rdT y0 x5).f3⟩ : Stp)) x5).f2, (rdT (y0.set x5.toNat (⟨x1, (rdT y0 x5).f1, (rdT y0 x5).f2, (rdT y0 x5).f3⟩ : Stp)) x5).f3⟩ : Stp)) x5).f1, (wrap64 ((wrap64 (x1 + 1)) + 1)), (rdT ((y0.set x5.toNat (⟨x1, (rdT y0 x5).f1, (rdT y0 x5).f2, (rdT y0 x5).f3⟩ : Stp)).set x5.toNat (⟨(rdT (y0.set x5.toNat (⟨x1, (rdT y0 x5).f1, (rdT y0 x5).f2, (rdT y0 x5).f3⟩ : Stp)) x5).f0, t1, (rdT (y0.set x5.toNat (⟨x1, (rdT y0 x5).f1, (rdT y0 x5).f2, (rdT y0 x5).f3⟩ : Stp)) x5).f2, (rdT (y0.set x5.toNat (⟨x1, (rdT y0 x5).f1, (rdT y0 x5).f2, (rdT y0 x5).f3⟩ : Stp)) x5).f3⟩ : Stp)) x5).f3⟩ : Stp)) x5).f1, (rdT (((y0.set x5.toNat (⟨x1, (rdT y0 x5).f1, (rdT y0 x5).f2, (rdT y0 x5).f3⟩ : Stp)).set x5.toNat (⟨(rdT (y0.set x5.toNat (⟨x1, (rdT y0 x5).f1, (rdT y0 x5).f2, (rdT y0 x5).f3⟩ : Stp)) x5).f0, t1, (rdT (y0.set x5.toNat (⟨x1, (rdT y0 x5).f1, (rdT y0 x5).f2, (rdT y0 x5).f3⟩ : Stp)) x5).f2, (rdT (y0.set x5.toNat (⟨x1, (rdT y0 x5).f1, (rdT y0 x5).f2, (rdT y0 x5).f3⟩ : Stp)) x5).f3⟩ : Stp)).set x5.toNat (⟨(rdT ((y0.set x5.toNat (⟨x1, (rdT y0 x5).f1, (rdT y0 x5).f2, (rdT y0 x5).f3⟩ : Stp)).set x5.toNat (⟨(rdT (y0.set x5.toNat (⟨x1, (rdT y0 x5).f1, (rdT y0 x5).f2, (rdT y0 x5).f3⟩ : Stp)) x5).f0, t1, (rdT (y0.set x5.toNat (⟨x1, (rdT y0 x5).f1, (rdT y0 x5).f2, (rdT y0 x5).f3⟩ : Stp)) x5).f2, (rdT (y0.set x5.toNat (⟨x1, (rdT y0 x5).f1, (rdT y0 x5).f2, (rdT y0 x5).f3⟩ : Stp)) x5).f3⟩ : Stp)) x5).f0, (rdT ((y0.set x5.toNat (⟨x1, (rdT y0 x5).f1, (rdT y0 x5).f2, (rdT y0 x5).f3⟩ : Stp)).set x5.toNat (⟨(rdT (y0.set x5.toNat (⟨x1, (rdT y0 x5).f1, (rdT y0 x5).f2, (rdT y0 x5).f3⟩ : Stp)) x5).f0, t1, (rdT (y0.set x5.toNat (⟨x1, (rdT y0 x5).f1, (rdT y0 x5).f2, (rdT y0 x5).f3⟩ : Stp)) x5).f2, (rdT (y0.set x5.toNat (⟨x1, (rdT y0 x5).f1, (rdT y0 x5).f2, (rdT y0 x5).f3⟩ : Stp)) x5).f3⟩ : Stp)) x5).f1, (wrap64 ((wrap64 (x1 + 1)) + 1)), (rdT ((y0.set x5.toNat (⟨x1, (rdT y0 x5).f1, (rdT y0 x5).f2, (rdT y0 x5).f3⟩ : Stp)).set x5.toNat (⟨(rdT (y0.set x5.toNat (⟨x1, (rdT y0 x5).f1, (rdT y0 x5).f2, (rdT y0 x5).f3⟩ : Stp)) x5).f0, t1, (rdT (y0.set x5.toNat (⟨x1, (rdT y0 x5).f1, (rdT y0 x5).f2, (rdT y0 x5).f3⟩ : Stp)) x5).f2, (rdT (y0.set x5.toNat (⟨x1, (rdT y0 x5).f1, (rdT y0 x5).f2, (rdT y0 x5).f3⟩ : Stp)) x5).f3⟩ : Stp)) x5).f3⟩ : Stp)) x5).f2, (wrap64 ((wrap64 ((wrap64 (x1 + 1)) + 1)) + 1))⟩ : Stp)) (wrap64 ((wrap64 ((wrap64 ((wrap64 (x1 + 1)) + 1)) + 1)) + 1)) (wrap64 (x5 + 1))) else none) else none) else none)) else none) else (some (x1, y0)))
def laws_markStepS.f (k : Nat) (l2 : List Stp) (a1 : Int) : Option (Int × (List Stp)) := (laws_markStepS.l0 k l2 a1 0)
def laws_markStepS.en (r : Int × (List Stp)) : Res := (.int .i64 r.1, [.arr 69 0 (.T r.2) false])
def laws_markStepS.dec : List AV → List R.Obj → Option ((List Stp) × Int)
  | [.sl 0 0, .int .i64 a1], [.arr 69 0 (.T l2) false] => some (l2, a1)
  | _, _ => none
def laws_markStepS.tw : Tw := ⟨28, (List Stp) × Int, Int × (List Stp), laws_markStepS.dec, fun a => [.sl 0 0, .int .i64 a.2], fun a => [.arr 69 0 (.T a.1) false], fun k a => laws_markStepS.f k a.1 a.2, fun a r => laws_markStepS.en r, true⟩
theorem laws_markStepS.dok : laws_markStepS.tw.DecOk := by
  intro args hc a h
  have h : laws_markStepS.dec args hc = some a := h
  unfold laws_markStepS.dec at h
  split at h
  · cases h; exact ⟨rfl, rfl⟩
  · cases h
noncomputable def laws_markStepS.O (k : Nat) : Oracle := (laws_markText.tw.orc k noO)
def laws_markStepS.fh : FH := ⟨fun i => match i with | 2 => some [(0, 0), (1, 0), (5, 0)] | _ => none, [], false⟩
noncomputable def laws_markStepS.x0 (k : Nat) (y0 : List Stp) (x1 : Int) (x5 : Int) : Option Res := R.exec Try.prog xhn laws_markStepS.O 1 Try.f28 laws_markStepS.fh k (R.point Try.f28 2) ⟨[(0, .sl 0 0), (1, .int .i64 x1), (5, .int .i64 x5)], [(0, .arr 69 0 (.T y0) false)], 3⟩
set_option maxRecDepth 100000 in
theorem laws_markStepS.e0 (k : Nat) (y0 : List Stp) (x1 : Int) (x5 : Int) : laws_markStepS.x0 (k + 1) y0 x1 x5 = (if x5 < (y0.length : Int) then (if 0 ≤ x5 then ((laws_markText.f k (wr64 (x1 + 1))).bind fun t1 => (if x5 < ((y0.set x5.toNat (⟨x1, (rdT y0 x5).f1, (rdT y0 x5).f2, (rdT y0 x5).f3⟩ : Stp)).length : Int) then (if x5 < (((y0.set x5.toNat (⟨x1, (rdT y0 x5).f1, (rdT y0 x5).f2, (rdT y0 x5).f3⟩ : Stp)).set x5.toNat (⟨(rdT (y0.set x5.toNat (⟨x1, (rdT y0 x5).f1, (rdT y0 x5).f2, (rdT y0 x5).f3⟩ : Stp)) x5).f0, t1, (rdT (y0.set x5.toNat (⟨x1, (rdT y0 x5).f1, (rdT y0 x5).f2, (rdT y0 x5).f3⟩ : Stp)) x5).f2, (rdT (y0.set x5.toNat (⟨x1, (rdT y0 x5).f1, (rdT y0 x5).f2, (rdT y0 x5).f3⟩ : Stp)) x5).f3⟩ : Stp)).length : Int) then (if x5 < ((((y0.set x5.toNat (⟨x1, (rdT y0 x5).f1, (rdT y0 x5).f2, (rdT y0 x5).f3⟩ : Stp)).set x5.toNat (⟨(rdT (y0.set x5.toNat (⟨x1, (rdT y0 x5).f1, (rdT y0 x5).f2, (rdT y0 x5).f3⟩ : Stp)) x5).f0, t1, (rdT (y0.set x5.toNat (⟨x1, (rdT y0 x5).f1, (rdT y0 x5).f2, (rdT y0 x5).f3⟩ : Stp)) x5).f2, (rdT (y0.set x5.toNat (⟨x1, (rdT y0 x5).f1, (rdT y0 x5).f2, (rdT y0 x5).f3⟩ : Stp)) x5).f3⟩ : Stp)).set x5.toNat (⟨(rdT ((y0.set x5.toNat (⟨x1, (rdT y0 x5).f1, (rdT y0 x5).f2, (rdT y0 x5).f3⟩ : Stp)).set x5.toNat (⟨(rdT (y0.set x5.toNat (⟨x1, (rdT y0 x5).f1, (rdT y0 x5).f2, (rdT y0 x5).f3⟩ : Stp)) x5).f0, t1, (rdT (y0.set x5.toNat (⟨x1, (rdT y0 x5).f1, (rdT y0 x5).f2, (rdT y0 x5).f3⟩ : Stp)) x5).f2, (rdT (y0.set x5.toNat (⟨x1, (rdT y0 x5).f1, (rdT y0 x5).f2, (rdT y0 x5).f3⟩ : Stp)) x5).f3⟩ : Stp)) x5).f0, (rdT ((y0.set x5.toNat (⟨x1, (rdT y0 x5).f1, (rdT y0 x5).f2, (rdT y0 x5).f3⟩ : Stp)).set x5.toNat (⟨(rdT (y0.set x5.toNat (⟨x1, (rdT y0 x5).f1, (rdT y0 x5).f2, (rdT y0 x5).f3⟩ : Stp)) x5).f0, t1, (rdT (y0.set x5.toNat (⟨x1, (rdT y0 x5).f1, (rdT y0 x5).f2, (rdT y0 x5).f3⟩ : Stp)) x5).f2, (rdT (y0.set x5.toNat (⟨x1, (rdT y0 x5).f1, (rdT y0 x5).f2, (rdT y0 x5).f3⟩ : Stp)) x5).f3⟩ : Stp)) x5).f1, (wr64 ((wr64 (x1 + 1)) + 1)), (rdT ((y0.set x5.toNat (⟨x1, (rdT y0 x5).f1, (rdT y0 x5).f2, (rdT y0 x5).f3⟩ : Stp)).set x5.toNat (⟨(rdT (y0.set x5.toNat (⟨x1, (rdT y0 x5).f1, (rdT y0 x5).f2, (rdT y0 x5).f3⟩ : Stp)) x5).f0, t1, (rdT (y0.set x5.toNat (⟨x1, (rdT y0 x5).f1, (rdT y0 x5).f2, (rdT y0 x5).f3⟩ : Stp)) x5).f2, (rdT (y0.set x5.toNat (⟨x1, (rdT y0 x5).f1, (rdT y0 x5).f2, (rdT y0 x5).f3⟩ : Stp)) x5).f3⟩ : Stp)) x5).f3⟩ : Stp)).length : Int) then (laws_markStepS.x0 k ((((y0.set x5.toNat (⟨x1, (rdT y0 x5).f1, (rdT y0 x5).f2, (rdT y0 x5).f3⟩ : Stp)).set x5.toNat (⟨(rdT (y0.set x5.toNat (⟨x1, (rdT y0 x5).f1, (rdT y0 x5).f2, (rdT y0 x5).f3⟩ : Stp)) x5).f0, t1, (rdT (y0.set x5.toNat (⟨x1, (rdT y0 x5).f1, (rdT y0 x5).f2, (rdT y0 x5).f3⟩ : Stp)) x5).f2, (rdT (y0.set x5.toNat (⟨x1, (rdT y0 x5).f1, (rdT y0 x5).f2, (rdT y0 x5).f3⟩ : Stp)) x5).f3⟩ : Stp)).set x5.toNat (⟨(rdT ((y0.set x5.toNat (⟨x1, (rdT y0 x5).f1, (rdT y0 x5).f2, (rdT y0 x5).f3⟩ : Stp)).set x5.toNat (⟨(rdT (y0.set x5.toNat (⟨x1, (rdT y0 x5).f1, (rdT y0 x5).f2, (rdT y0 x5).f3⟩ : Stp)) x5).f0, t1, (rdT (y0.set x5.toNat (⟨x1, (rdT y0 x5).f1, (rdT y0 x5).f2, (rdT y0 x5).f3⟩ : Stp)) x5).f2, (rdT (y0.set x5.toNat (⟨x1, (rdT y0 x5).f1, (rdT y0 x5).f2, (rdT y0 x5).f3⟩ : Stp)) x5).f3⟩ : Stp)) x5).f0, (rdT ((y0.set x5.toNat (⟨x1, (rdT y0 x5).f1, (rdT y0 x5).f2, (rdT y0 x5).f3⟩ : Stp)).set x5.toNat (⟨(rdT (y0.set x5.toNat (⟨x1, (rdT y0 x5).f1, (rdT y0 x5).f2, (rdT y0 x5).f3⟩ : Stp)) x5).f0, t1, (rdT (y0.set x5.toNat (⟨x1, (rdT y0 x5).f1, (rdT y0 x5).f2, (rdT y0 x5).f3⟩ : Stp)) x5).f2, (rdT (y0.set x5.toNat (⟨x1, (rdT y0 x5).f1, (rdT y0 x5).f2, (rdT y0 x5).f3⟩ : Stp)) x5).f3⟩ : Stp)) x5).f1, (wr64 ((wr64 (x1 + 1)) + 1)), (rdT ((y0.set x5.toNat (⟨x1, (rdT y0 x5).f1, (rdT y0 x5).f2, (rdT y0 x5).f3⟩ : Stp)).set x5.toNat (⟨(rdT (y0.set x5.toNat (⟨x1, (rdT y0 x5).f1, (rdT y0 x5).f2, (rdT y0 x5).f3⟩ : Stp)) x5).f0, t1, (rdT (y0.set x5.toNat (⟨x1, (rdT y0 x5).f1, (rdT y0 x5).f2, (rdT y0 x5).f3⟩ : Stp)) x5).f2, (rdT (y0.set x5.toNat (⟨x1, (rdT y0 x5).f1, (rdT y0 x5).f2, (rdT y0 x5).f3⟩ : Stp)) x5).f3⟩ : Stp)) x5).f3⟩ : Stp)).set x5.toNat (⟨(rdT (((y0.set x5.toNat (⟨x1, (rdT y0 x5).f1, (rdT y0 x5).f2, (rdT y0 x5).f3⟩ : Stp)).set x5.toNat (⟨(rdT (y0.set x5.toNat (⟨x1, (rdT y0 x5).f1, (rdT y0 x5).f2, (rdT y0 x5).f3⟩ : Stp)) x5).f0, t1, (rdT (y0.set x5.toNat (⟨x1, (rdT y0 x5).f1, (rdT y0 x5).f2, (rdT y0 x5).f3⟩ : Stp)) x5).f2, (rdT (y0.set x5.toNat (⟨x1, (rdT y0 x5).f1, (rdT y0 x5).f2, (rdT y0 x5).f3⟩ : Stp)) x5).f3⟩ : Stp)).set x5.toNat (⟨(rdT ((y0.set x5.toNat (⟨x1, (rdT y0 x5).f1, (rdT y0 x5).f2, (rdT y0 x5).f3⟩ : Stp)).set x5.toNat (⟨(rdT (y0.set x5.toNat (⟨x1, (rdT y0 x5).f1, (rdT y0 x5).f2, (rdT y0 x5).f3⟩ : Stp)) x5).f0, t1, (rdT (y0.set x5.toNat (⟨x1, (rdT y0 x5).f1, (rdT y0 x5).f2, (rdT y0 x5).f3⟩ : Stp)) x5).f2, (rdT (y0.set x5.toNat (⟨x1, (rdT y0 x5).f1, (rdT y0 x5).f2, (rdT y0 x5).f3⟩ : Stp)) x5).f3⟩ : Stp)) x5).f0, (rdT ((y0.set x5.toNat (⟨x1, (rdT y0 x5).f1, (rdT y0 x5).f2, (rdT y0 x5).f3⟩ : Stp)).set x5.toNat (⟨(rdT (y0.set x5.toNat (⟨x1, (rdT y0 x5).f1, (rdT y0 x5).f2, (rdT y0 x5).f3⟩ : Stp)) x5).f0, t1, (rdT (y0.set x5.toNat (⟨x1, (rdT y0 x5).f1, (rdT y0 x5).f2, (rdT y0 x5).f3⟩ : Stp)) x5).f2, (rdT (y0.set x5.toNat (⟨x1, (rdT y0 x5).f1, (rdT y0 x5).f2, (rdT y0 x5).f3⟩ : Stp)) x5).f3⟩ : Stp)) x5).f1, (wr64 ((wr64 (x1 + 1)) + 1)), (rdT ((y0.set x5.toNat (⟨x1, (rdT y0 x5).f1, (rdT y0 x5).f2, (rdT y0 x5).f3⟩ : Stp)).set x5.toNat (⟨(rdT (y0.set x5.toNat (⟨x1, (rdT y0 x5).f1, (rdT y0 x5).f2, (rdT y0 x5).f3⟩ : Stp)) x5).f0, t1, (rdT (y0.set x5.toNat (⟨x1, (rdT y0 x5).f1, (rdT y0 x5).f2, (rdT y0 x5).f3⟩ : Stp)) x5).f2, (rdT (y0.set x5.toNat (⟨x1, (rdT y0 x5).f1, (rdT y0 x5).f2, (rdT y0 x5).f3⟩ : Stp)) x5).f3⟩ : Stp)) x5).f3⟩ : Stp)) x5).f0, (rdT (((y0.set x5.toNat (⟨x1, (rdT y0 x5).f1, (rdT y0 x5).f2, (rdT y0 x5).f3⟩ : Stp)).set x5.toNat (⟨(rdT (y0.set x5.toNat (⟨x1, (rdT y0 x5).f1, (rdT y0 x5).f2, (rdT y0 x5).f3⟩ : Stp)) x5).f0, t1, (rdT (y0.set x5.toNat (⟨x1, (rdT y0 x5).f1, (rdT y0 x5).f2, (rdT y0 x5).f3⟩ : Stp)) x5).f2, (rdT (y0.set x5.toNat (⟨x1, (rdT y0 x5).f1, (rdT y0 x5).f2, (rdT y0 x5).f3⟩ : Stp)) x5).f3⟩ : Stp)).set x5.toNat (⟨(rdT ((y0.set x5.toNat (⟨x1, (rdT y0 x5).f1, (rdT y0 x5).f2, (rdT y0 x5).f3⟩ : Stp)).set x5.toNat (⟨(rdT (y0.set x5.toNat (⟨x1, (rdT y0 x5).f1, (rdT y0 x5).f2, (rdT y0 x5).f3⟩ : Stp)) x5).f0, t1, (rdT (y0.set x5.toNat (⟨x1, (rdT y0 x5).f1, (rdT y0 x5).f2, (rdT y0 x5).f3⟩ : Stp)) x5).f2, (rdT (y0.set x5.toNat (⟨x1, (rdT y0 x5).f1, (rdT y0 x5).f2, (rdT y0 x5).f3⟩ : Stp)) x5).f3⟩ : Stp)) x5).f0, (rdT ((y0.set x5.toNat (⟨x1, (rdT y0 x5).f1, (rdT y0 x5).f2, (rdT y0 x5).f3⟩ : Stp)).set x5.toNat (⟨(rdT (y0.set x5.toNat (⟨x1, (rdT y0 x5).f1, (rdT y0 x5).f2, (rdT y0 x5).f3⟩ : Stp)) x5).f0, t1, (rdT (y0.set x5.toNat (⟨x1, (rdT y0 x5).f1, (rdT y0 x5).f2, (rdT y0 x5).f3⟩ : Stp)) x5).f2, (rdT (y0.set x5.toNat (⟨x1, (rdT y0 x5).f1, (rdT y0 x5).f2, (rdT y0 x5).f3⟩ : Stp)) x5).f3⟩ : Stp)) x5).f1, (wr64 ((wr64 (x1 + 1)) + 1)), (rdT ((y0.set x5.toNat (⟨x1, (rdT y0 x5).f1, (rdT y0 x5).f2, (rdT y0 x5).f3⟩ : Stp)).set x5.toNat (⟨(rdT (y0.set x5.toNat (⟨x1, (rdT y0 x5).f1, (rdT y0 x5).f2, (rdT y0 x5).f3⟩ : Stp)) x5).f0, t1, (rdT (y0.set x5.toNat (⟨x1, (rdT y0 x5).f1, (rdT y0 x5).f2, (rdT y0 x5).f3⟩ : Stp)) x5).f2, (rdT (y0.set x5.toNat (⟨x1, (rdT y0 x5).f1, (rdT y0 x5).f2, (rdT y0 x5).f3⟩ : Stp)) x5).f3⟩ : Stp)) x5).f3⟩ : Stp)) x5).f1, (rdT (((y0.set x5.toNat (⟨x1, (rdT y0 x5).f1, (rdT y0 x5).f2, (rdT y0 x5).f3⟩ : Stp)).set x5.toNat (⟨(rdT (y0.set x5.toNat (⟨x1, (rdT y0 x5).f1, (rdT y0 x5).f2, (rdT y0 x5).f3⟩ : Stp)) x5).f0, t1, (rdT (y0.set x5.toNat (⟨x1, (rdT y0 x5).f1, (rdT y0 x5).f2, (rdT y0 x5).f3⟩ : Stp)) x5).f2, (rdT (y0.set x5.toNat (⟨x1, (rdT y0 x5).f1, (rdT y0 x5).f2, (rdT y0 x5).f3⟩ : Stp)) x5).f3⟩ : Stp)).set x5.toNat (⟨(rdT ((y0.set x5.toNat (⟨x1, (rdT y0 x5).f1, (rdT y0 x5).f2, (rdT y0 x5).f3⟩ : Stp)).set x5.toNat (⟨(rdT (y0.set x5.toNat (⟨x1, (rdT y0 x5).f1, (rdT y0 x5).f2, (rdT y0 x5).f3⟩ : Stp)) x5).f0, t1, (rdT (y0.set x5.toNat (⟨x1, (rdT y0 x5).f1, (rdT y0 x5).f2, (rdT y0 x5).f3⟩ : Stp)) x5).f2, (rdT (y0.set x5.toNat (⟨x1, (rdT y0 x5).f1, (rdT y0 x5).f2, (rdT y0 x5).f3⟩ : Stp)) x5).f3⟩ : Stp)) x5).f0, (rdT ((y0.set x5.toNat (⟨x1, (rdT y0 x5).f1, (rdT y0 x5).f2, (rdT y0 x5).f3⟩ : Stp)).set x5.toNat (⟨(rdT (y0.set x5.toNat (⟨x1, (rdT y0 x5).f1, (rdT y0 x5).f2, (rdT y0 x5).f3⟩ : Stp)) x5).f0, t1, (rdT (y0.set x5.toNat (⟨x1, (rdT y0 x5).f1, (rdT y0 x5).f2, (rdT y0 x5).f3⟩ : Stp)) x5).f2, (rdT (y0.set x5.toNat (⟨x1, (rdT y0 x5).f1, (rdT y0 x5).f2, (rdT y0 x5).f3⟩ : Stp)) x5).f3⟩ : Stp)) x5).f1, (wr64 ((wr64 (x1 + 1)) + 1)), (rdT ((y0.set x5.toNat (⟨x1, (rdT y0 x5).f1, (rdT y0 x5).f2, (rdT y0 x5).f3⟩ : Stp)).set x5.toNat (⟨(rdT (y0.set x5.toNat (⟨x1, (rdT y0 x5).f1, (rdT y0 x5).f2, (rdT y0 x5).f3⟩ : Stp)) x5).f0, t1, (rdT (y0.set x5.toNat (⟨x1, (rdT y0 x5).f1, (rdT y0 x5).f2, (rdT y0 x5).f3⟩ : Stp)) x5).f2, (rdT (y0.set x5.toNat (⟨x1, (rdT y0 x5).f1, (rdT y0 x5).f2, (rdT y0 x5).f3⟩ : Stp)) x5).f3⟩ : Stp)) x5).f3⟩ : Stp)) x5).f2, (wr64 ((wr64 ((wr64 (x1 + 1)) + 1)) + 1))⟩ : Stp)) (wr64 ((wr64 ((wr64 ((wr64 (x1 + 1)) + 1)) + 1)) + 1)) (wr64 (x5 + 1))) else none) else none) else none)) else none) else (some (laws_markStepS.en (x1, y0)))) := by
  refine Eq.trans ?_ (R.icong (fun h0 => (R.icong (fun h1 => (R.idropT (p := x5 < (y0.length : Int)) (z := none) h0 (R.bcong fun t1 => (R.idropT (p := 0 ≤ x5) (z := none) h1 (R.icong (fun h2 => (R.idropT (p := 0 ≤ x5) (z := none) h1 (R.icong (fun h3 => (R.idropT (p := 0 ≤ x5) (z := none) h1 rfl)) (fun h3 => rfl)))) (fun h2 => rfl)))))) (fun h1 => rfl))) (fun h0 => rfl))
  kernel_rfl
set_option maxRecDepth 100000 in
theorem laws_markStepS.ef (k : Nat) (l2 : List Stp) (a1 : Int) : R.start Try.prog xhn laws_markStepS.O 1 Try.f28 laws_markStepS.fh k [.sl 0 0, .int .i64 a1] [.arr 69 0 (.T l2) false] = (laws_markStepS.x0 k l2 a1 0) := by kernel_rfl
theorem laws_markStepS.link : ∀ k, (∀ (y0 : List Stp) (x1 : Int) (x5 : Int), laws_markStepS.x0 k y0 x1 x5 = (laws_markStepS.l0 k y0 x1 x5).map (laws_markStepS.en))
  | 0 => fun _ _ _ => by simp only [laws_markStepS.l0, R.map_none]; rfl
  | k + 1 => by
    have ih0 := laws_markStepS.link k
    · intro y0 x1 x5
      rw [laws_markStepS.e0]
      simp only [laws_markStepS.l0, R.map_ite, R.map_bind, R.map_none, R.map_some, R.wr64_eq, ← ih0]
theorem laws_markStepS.sf (k : Nat) (l2 : List Stp) (a1 : Int) : R.start Try.prog xhn laws_markStepS.O 1 Try.f28 laws_markStepS.fh k [.sl 0 0, .int .i64 a1] [.arr 69 0 (.T l2) false] = (laws_markStepS.f k l2 a1).map (laws_markStepS.en) := by
  have ih0 := laws_markStepS.link k
  rw [laws_markStepS.ef]
  simp only [laws_markStepS.f, R.map_ite, R.map_bind, R.map_none, R.map_some, R.wr64_eq, ← ih0]
theorem laws_markStepS.ok (k : Nat) : laws_markStepS.tw.Ok Try.prog k := by
  intro md hmd a r h
  refine fn_ok (H := xhn) (fh := laws_markStepS.fh) (O := laws_markStepS.O) (k := k) Try.func28 (by kernel_rfl) (by kernel_rfl) (fun j _ => (Tw.orc_sound laws_markText.dok (laws_markText.ok j) (fun _ => rfl) noO_sound)) (by kernel_rfl) (m := 1) rfl ?_
  refine (laws_markStepS.sf k a.1 a.2).trans ?_
  exact congrArg (Option.map _) h
def laws_markAutomaton.f (k : Nat) (a0_0 : Int) (l2 : List Int) (l3 : List Int) (l4 : List Stp) (a1 : Int) : Option (Int × (List Int) × (List Int) × (List Stp)) := ((laws_markIntS.f k l2 a1).bind fun t1 => ((laws_markIntS.f k l3 t1.1).bind fun t2 => ((laws_markStepS.f k l4 t2.1).bind fun t3 => (some (t3.1, t1.2, t2.2, t3.2)))))
def laws_markAutomaton.en (r : Int × (List Int) × (List Int) × (List Stp)) : Res := (.int .i64 r.1, [.arr 3 0 (.I .i64 r.2.1) false, .arr 3 0 (.I .i64 r.2.2.1) false, .arr 69 0 (.T r.2.2.2) false])
def laws_markAutomaton.dec : List AV → List R.Obj → Option (Int × (List Int) × (List Int) × (List Stp) × Int)
  | [.agg [.int .i64 a0_0, .sl 0 0, .sl 1 0, .sl 2 0], .int .i64 a1], [.arr 3 0 (.I .i64 l2) false, .arr 3 0 (.I .i64 l3) false, .arr 69 0 (.T l4) false] => some (a0_0, l2, l3, l4, a1)
  | _, _ => none
def laws_markAutomaton.tw : Tw := ⟨10, Int × (List Int) × (List Int) × (List Stp) × Int, Int × (List Int) × (List Int) × (List Stp), laws_markAutomaton.dec, fun a => [.agg [.int .i64 a.1, .sl 0 0, .sl 1 0, .sl 2 0], .int .i64 a.2.2.2.2], fun a => [.arr 3 0 (.I .i64 a.2.1) false, .arr 3 0 (.I .i64 a.2.2.1) false, .arr 69 0 (.T a.2.2.2.1) false], fun k a => laws_markAutomaton.f k a.1 a.2.1 a.2.2.1 a.2.2.2.1 a.2.2.2.2, fun a r => laws_markAutomaton.en r, true⟩
theorem laws_markAutomaton.dok : laws_markAutomaton.tw.DecOk := by
  intro args hc a h
  have h : laws_markAutomaton.dec args hc = some a := h
  unfold laws_markAutomaton.dec at h
  split at h
  · cases h; exact ⟨rfl, rfl⟩
  · cases h
noncomputable def laws_markAutomaton.O (k : Nat) : Oracle := (laws_markIntS.tw.orc k (laws_markStepS.tw.orc k noO))
def laws_markAutomaton.fh : FH := ⟨fun i => match i with | _ => none, [], false⟩
set_option maxRecDepth 100000 in
theorem laws_markAutomaton.ef (k : Nat) (a0_0 : Int) (l2 : List Int) (l3 : List Int) (l4 : List Stp) (a1 : Int) : R.start Try.prog xhn laws_markAutomaton.O 3 Try.f10 laws_markAutomaton.fh k [.agg [.int .i64 a0_0, .sl 0 0, .sl 1 0, .sl 2 0], .int .i64 a1] [.arr 3 0 (.I .i64 l2) false, .arr 3 0 (.I .i64 l3) false, .arr 69 0 (.T l4) false] = ((laws_markIntS.f k l2 a1).bind fun t1 => ((laws_markIntS.f k l3 t1.1).bind fun t2 => ((laws_markStepS.f k l4 t2.1).bind fun t3 => (some (laws_markAutomaton.en (t3.1, t1.2, t2.2, t3.2)))))) := by kernel_rfl
theorem laws_markAutomaton.sf (k : Nat) (a0_0 : Int) (l2 : List Int) (l3 : List Int) (l4 : List Stp) (a1 : Int) : R.start Try.prog xhn laws_markAutomaton.O 3 Try.f10 laws_markAutomaton.fh k [.agg [.int .i64 a0_0, .sl 0 0, .sl 1 0, .sl 2 0], .int .i64 a1] [.arr 3 0 (.I .i64 l2) false, .arr 3 0 (.I .i64 l3) false, .arr 69 0 (.T l4) false] = (laws_markAutomaton.f k a0_0 l2 l3 l4 a1).map (laws_markAutomaton.en) := by
  rw [laws_markAutomaton.ef]
  simp only [laws_markAutomaton.f, R.map_ite, R.map_bind, R.map_none, R.map_some, R.wr64_eq]
theorem laws_markAutomaton.ok (k : Nat) : laws_markAutomaton.tw.Ok Try.prog k := by
  intro md hmd a r h
  refine fn_ok (H := xhn) (fh := laws_markAutomaton.fh) (O := laws_markAutomaton.O) (k := k) Try.func10 (by kernel_rfl) (by kernel_rfl) (fun j _ => (Tw.orc_sound laws_markIntS.dok (laws_markIntS.ok j) (fun _ => rfl) (Tw.orc_sound laws_markStepS.dok (laws_markStepS.ok j) (fun _ => rfl) noO_sound))) (by kernel_rfl) (m := 3) rfl ?_
  refine (laws_markAutomaton.sf k a.1 a.2.1 a.2.2.1 a.2.2.2.1 a.2.2.2.2).trans ?_
  exact congrArg (Option.map _) h
end Go.Proofs.Ytfgoojnblomonaa.V
end
